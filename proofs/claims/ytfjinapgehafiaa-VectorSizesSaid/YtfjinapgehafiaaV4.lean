/- Walks, printed by a program of mine. -/
import Derived.Test.YtfjinapgehafiaaV62
set_option linter.unusedSimpArgs false
set_option linter.unusedVariables false
namespace Lp
open Go Go.RowKit Go.Proofs

namespace HdYtfjinapgehafiaaV63
theorem zdq : ∀ w, ((#[⟨"Labels", 27, 0, false, "", "", 0⟩, ⟨"V", 3, 1, false, "", "", 24⟩] : Array Field).mapM fun f => do pure (f.offset, ← Go.sizeOf f.type) : Sem (Array (Nat × Nat))).run Try.prog w = .ok ([(0, 1), (1, 1)] : List (Nat × Nat)).toArray w := fun _ => by kernel_rfl
theorem zat (b o : Nat) : ∀ w, (Instr.fieldAt 30 (.pointer (some ⟨b, o, none⟩)) 0).run Try.prog w = .ok (.pointer (some ⟨b, o + 0, none⟩)) w := fun _ => by kernel_rfl
theorem zaB (b o : Nat) : ∀ w, (Instr.fieldAt 30 (.pointer (some ⟨b, o, none⟩)) 1).run Try.prog w = .ok (.pointer (some ⟨b, o + 1, none⟩)) w := fun _ => by kernel_rfl
theorem za4 : ∃ i, Try.prog.info? 30 = some i ∧ i.zero = some (.agg #[(.slice none 0 0), (.int .i64 0)]) ∧ i.size = 2 ∧ i.bytes = 32 := zbC (by kernel_rfl)
theorem zbg : Try.prog.underlying 22 = some (.slice 30) := by kernel_rfl
end HdYtfjinapgehafiaaV63
open HdYtfjinapgehafiaaV63

set_option maxHeartbeats 4000000 in
set_option maxRecDepth 100000 in
theorem Scale_c (op : ByteArray) (l : List RowD) (v : Int) (left : Bool)  :
    CD Try.prog 16 [] [.s op, .sh 2 (l.map RowD.d), dI v, dB left] (fun r H' => ∃ v0_, r = .tup [.ov v0_, dI (zaR op l v left)] ∧ H' = [.sl v0_ 2 30 ((zK op l v left).map RowD.d)]) := by
  refine zM Try.func16 rfl (N := 78) rfl rfl (fun C => ?_)
  refine JD.keep [0, 1, 2, 3] [(0, .s op), (1, .sh 2 (l.map RowD.d)), (2, dI v), (3, dB left)] rfl ?_
  refine JD.bd 0 rfl (fun bd0 => ?_)
  have sz0 : op.size ≤ 9223372036854775807 := bd0
  refine JD.bd 1 rfl (fun bd1 => ?_)
  have nl1 := zag bd1
  refine zh _ _ rfl rfl rfl (zc rfl (za rfl rfl (ze rfl) (za rfl rfl (ze rfl) (zg rfl (zf (zh _ _ rfl rfl rfl (zh _ _ rfl rfl rfl (JD.keep [0, 1, 2, 3, 8, 9] [(0, .s op), (1, .sh 2 (l.map RowD.d)), (2, dI v), (3, dB left), (8, dZ), (9, dI 0)] rfl ?_))))))))
  refine zan 29 (((!(opB op) || !(z0 l)) || !(zaV v))) [] (fun _ hQ1 => ?_) ?_
  · skip
    rcases Bool.eq_false_or_eq_true (opB op) with hg2 | hg2
    · skip
      rcases Bool.eq_false_or_eq_true (z0 l) with hg3 | hg3
      · skip
        refine zc rfl (za rfl rfl (zb rfl) (zl rfl rfl (zs [] _ [] rfl rfl (.cons ArgC.id .nil) zo Try.call25 (zdT op) (.inl rfl)) ?_))
        rintro _ _ ⟨_, ⟨rfl, rfl⟩, rfl⟩
        refine OpsD.norm [] rfl (OpsD.sub ((18, dB true) :: [(0, .s op), (1, .sh 2 (l.map RowD.d)), (2, dI v), (3, dB left), (8, dZ), (9, dI 0), (17, .s op)]) ⟨se rfl (congrArg (fun b => D.v (.bool b)) hg2), sk rfl, sk rfl, sk rfl, sk rfl, sk rfl, sk rfl, sk rfl, trivial⟩ (za rfl rfl (zae (q := true) rfl) (za rfl rfl (zb rfl) (zi rfl rfl rfl rfl rfl (zb rfl) (zaH rfl rfl rfl rfl rfl (zs [] _ [] rfl rfl (.cons ArgC.id .nil) zo Try.call15 (zbQ l) (.inl rfl)) ?_)))))
        rintro _ _ ⟨_, ⟨rfl, rfl⟩, rfl⟩
        refine OpsD.norm [] rfl (OpsD.sub ((22, dB true) :: [(0, .s op), (1, .sh 2 (l.map RowD.d)), (2, dI v), (3, dB left), (8, dZ), (9, dI 0), (17, .s op), (18, dB true), (19, dB false), (20, dB false), (21, .sh 2 (l.map RowD.d))]) ⟨se rfl (congrArg (fun b => D.v (.bool b)) hg3), sk rfl, sk rfl, sk rfl, sk rfl, sk rfl, sk rfl, sk rfl, sk rfl, sk rfl, sk rfl, sk rfl, trivial⟩ (zi rfl rfl rfl rfl rfl (zae (q := true) rfl) (za rfl rfl (zm rfl rfl) (za rfl rfl (zb rfl) (zi rfl rfl rfl rfl rfl (zb rfl) (zaH rfl rfl rfl rfl rfl (zs [] _ [] rfl rfl (.cons ArgC.id .nil) zo Try.call33 (zcS v) (.inl rfl)) ?_))))))
        rintro _ _ ⟨_, ⟨rfl, rfl⟩, rfl⟩
        refine OpsD.norm [] rfl (zi rfl rfl rfl rfl rfl (zae rfl) (za rfl rfl (zm rfl rfl) (zg rfl ?_)))
        exact PD.sub ((29, dB ((!(opB op) || !(z0 l)) || !(zaV v))) :: [(0, .s op), (1, .sh 2 (l.map RowD.d)), (2, dI v), (3, dB left), (8, dZ), (9, dI 0)]) ⟨sc rfl (Cv.eq (congrArg (fun b => D.v (.bool b)) (by first | (simp [hg2, hg3]; done) | (simp_all; done)))), sk rfl, sk rfl, sk rfl, sk rfl, sk rfl, sk rfl, trivial⟩ hQ1
      · skip
        refine zc rfl (za rfl rfl (zb rfl) (zl rfl rfl (zs [] _ [] rfl rfl (.cons ArgC.id .nil) zo Try.call25 (zdT op) (.inl rfl)) ?_))
        rintro _ _ ⟨_, ⟨rfl, rfl⟩, rfl⟩
        refine OpsD.norm [] rfl (OpsD.sub ((18, dB true) :: [(0, .s op), (1, .sh 2 (l.map RowD.d)), (2, dI v), (3, dB left), (8, dZ), (9, dI 0), (17, .s op)]) ⟨se rfl (congrArg (fun b => D.v (.bool b)) hg2), sk rfl, sk rfl, sk rfl, sk rfl, sk rfl, sk rfl, sk rfl, trivial⟩ (za rfl rfl (zae (q := true) rfl) (za rfl rfl (zb rfl) (zi rfl rfl rfl rfl rfl (zb rfl) (zaH rfl rfl rfl rfl rfl (zs [] _ [] rfl rfl (.cons ArgC.id .nil) zo Try.call15 (zbQ l) (.inl rfl)) ?_)))))
        rintro _ _ ⟨_, ⟨rfl, rfl⟩, rfl⟩
        refine OpsD.norm [] rfl (OpsD.sub ((22, dB false) :: [(0, .s op), (1, .sh 2 (l.map RowD.d)), (2, dI v), (3, dB left), (8, dZ), (9, dI 0), (17, .s op), (18, dB true), (19, dB false), (20, dB false), (21, .sh 2 (l.map RowD.d))]) ⟨se rfl (congrArg (fun b => D.v (.bool b)) hg3), sk rfl, sk rfl, sk rfl, sk rfl, sk rfl, sk rfl, sk rfl, sk rfl, sk rfl, sk rfl, sk rfl, trivial⟩ (zi rfl rfl rfl rfl rfl (zae (q := false) rfl) (za rfl rfl (zm rfl rfl) (za rfl rfl (zb rfl) (zj rfl rfl rfl rfl rfl (by decide) (zj rfl rfl rfl rfl rfl (by decide) (zj rfl rfl rfl rfl rfl (by decide) (za rfl rfl (zn rfl rfl) (zg rfl ?_)))))))))
        exact PD.sub ((29, dB ((!(opB op) || !(z0 l)) || !(zaV v))) :: [(0, .s op), (1, .sh 2 (l.map RowD.d)), (2, dI v), (3, dB left), (8, dZ), (9, dI 0)]) ⟨sc rfl (Cv.eq (congrArg (fun b => D.v (.bool b)) (by first | (simp [hg2, hg3]; done) | (simp_all; done)))), sk rfl, sk rfl, sk rfl, sk rfl, sk rfl, sk rfl, trivial⟩ hQ1
    · skip
      refine zc rfl (za rfl rfl (zb rfl) (zl rfl rfl (zs [] _ [] rfl rfl (.cons ArgC.id .nil) zo Try.call25 (zdT op) (.inl rfl)) ?_))
      rintro _ _ ⟨_, ⟨rfl, rfl⟩, rfl⟩
      refine OpsD.norm [] rfl (OpsD.sub ((18, dB false) :: [(0, .s op), (1, .sh 2 (l.map RowD.d)), (2, dI v), (3, dB left), (8, dZ), (9, dI 0), (17, .s op)]) ⟨se rfl (congrArg (fun b => D.v (.bool b)) hg2), sk rfl, sk rfl, sk rfl, sk rfl, sk rfl, sk rfl, sk rfl, trivial⟩ (za rfl rfl (zae (q := false) rfl) (za rfl rfl (zb rfl) (zj rfl rfl rfl rfl rfl (by decide) (zj rfl rfl rfl rfl rfl (by decide) (zj rfl rfl rfl rfl rfl (by decide) (za rfl rfl (zn rfl rfl) (za rfl rfl (zb rfl) (zj rfl rfl rfl rfl rfl (by decide) (zj rfl rfl rfl rfl rfl (by decide) (zj rfl rfl rfl rfl rfl (by decide) (za rfl rfl (zn rfl rfl) (zg rfl ?_)))))))))))))
      exact PD.sub ((29, dB ((!(opB op) || !(z0 l)) || !(zaV v))) :: [(0, .s op), (1, .sh 2 (l.map RowD.d)), (2, dI v), (3, dB left), (8, dZ), (9, dI 0)]) ⟨sc rfl (Cv.eq (congrArg (fun b => D.v (.bool b)) (by first | (simp [hg2]; done) | (simp_all; done)))), sk rfl, sk rfl, sk rfl, sk rfl, sk rfl, sk rfl, trivial⟩ hQ1
  · skip
    refine zf ?_
    refine zt _ _ rfl rfl rfl rfl (fun hc4 => ?_) (fun hc4 => ?_)
    · simp only [Bool.and_eq_true, Bool.or_eq_true, Bool.not_eq_true', Bool.not_eq_false', Bool.and_eq_false_iff, Bool.or_eq_false_iff, decide_eq_true_eq, decide_eq_false_iff_not, Decidable.not_not, ne_eq] at hc4
      have hbad : zbv op v l = false := by unfold zbv; have h := hc4; revert h; cases opB op <;> cases z0 l <;> cases zaV v <;> simp
      refine zh _ _ rfl rfl rfl (zc rfl (za rfl rfl (ze rfl) (za rfl rfl (ze rfl) (zg rfl (zf (zA rfl (zq (PD.subH (HSub.nil 2 30) (PD.norm [.sl (.slice none 0 0) 2 30 ((zK op l v left).map RowD.d)] (by have hw : [] = zK op l v left := (by first | exact (zdz (left := left) hbad).1 | exact (zdz (left := left) hbad).2 | (rw [← hsf]; exact (zdz (left := left) hbad).2)); rw [show ([] : List D) = List.map RowD.d (zK op l v left) from congrArg (List.map RowD.d) hw]) ?_)))))))))
      exact zw Try.results16 (.cons (zN (zr rfl) (Cv.ov rfl)) (.cons (zN (zr rfl) (Cv.eq (congrArg (fun n => D.v (.int .i64 n)) (by first | exact (zdz (left := left) hbad).1 | exact (zdz (left := left) hbad).2 | (rw [← hsf]; exact (zdz (left := left) hbad).2))))) .nil)) rfl (HSub.fst 1 rfl) ⟨(.slice none 0 0), rfl, rfl⟩
    · simp only [Bool.and_eq_true, Bool.or_eq_true, Bool.not_eq_true', Bool.not_eq_false', Bool.and_eq_false_iff, Bool.or_eq_false_iff, decide_eq_true_eq, decide_eq_false_iff_not, Decidable.not_not, ne_eq] at hc4
      have hgood : zbv op v l = true := by unfold zbv; simp only [Bool.and_eq_true]; have h := hc4; simp_all
      have hlen : l.length ≤ 2000 := (zbm.1 (by unfold zbv at hgood; simp only [Bool.and_eq_true] at hgood; exact hgood.2.1)).1
      refine zy rfl (zf (zh _ _ rfl rfl rfl (zc rfl (za rfl rfl (ze rfl) (zg rfl (zf (zh _ _ rfl rfl rfl (zh _ _ rfl rfl rfl (zc rfl (za rfl rfl (zb rfl) (za rfl rfl (zaf (n := l.length) rfl Try.runUnderlying22 (by simp only [lm, lc, ln])) (za rfl rfl (zb rfl) (zg rfl (zf (zx _ rfl rfl (z7 (fun (g : Nat × Value × List RowD) => [(0, .s op), (2, dI v), (3, dB left), (30, .sh 2 (l.map RowD.d)), (31, dN l.length), (32, dN g.1), (10, .ov g.2.1)]) (fun (g : Nat × Value × List RowD) => [.sl g.2.1 2 30 (g.2.2.map RowD.d)]) (fun (g : Nat × Value × List RowD) => (g.1 ≤ l.length) ∧ (g.2.2 = zcq op v left (l.take g.1)) ∧ (zaG (scF op v left) (l.take g.1) = 0)) (fun (g : Nat × Value × List RowD) => l.length - g.1) _ (0, .slice none 0 0, []) rfl rfl ⟨sk rfl, sk rfl, sk rfl, sk rfl, sk rfl, sk rfl, sc rfl (Cv.ov rfl), trivial⟩ (HSub.nil 2 30) ⟨Nat.zero_le _, rfl, rfl⟩ ?_))))))))))))))))
      rintro ⟨k, ov, o⟩ ⟨hkl, ho, he⟩
      replace hkl : k ≤ l.length := hkl
      replace ho : o = zcq op v left (l.take k) := ho
      replace he : zaG (scF op v left) (l.take k) = 0 := he
      refine JD.keep [0, 2, 3, 30, 31, 32, 10] [(0, .s op), (2, dI v), (3, dB left), (30, .sh 2 (l.map RowD.d)), (31, dN l.length), (32, dN k), (10, .ov ov)] rfl (JD.norm [.sl ov 2 30 (o.map RowD.d)] rfl ?_)
      have hol : o.length ≤ 2000 := by rw [ho]; exact Nat.le_trans (scOut_len _ _ _ _) (by rw [List.length_take]; omega)
      refine zh _ _ rfl rfl rfl (zc rfl (za rfl rfl (z9 rfl rfl rfl) (zg rfl (zf (zh _ _ rfl rfl rfl ?_)))))
      refine zt _ _ rfl rfl rfl rfl (fun hc5 => ?_) (fun hc5 => ?_)
      · replace hc5 := of_decide_eq_true hc5
        refine zy rfl (zf (zh _ _ rfl rfl rfl (zx _ rfl rfl (zh _ _ rfl rfl rfl (zc rfl ?_)))))
        obtain ⟨x1, hx1⟩ := zW l k (by omega)
        have hkl8 := okRow_len (by have h := (zbm.1 (by unfold zbv at hgood; simp only [Bool.and_eq_true] at hgood; exact hgood.2.1)).2.1; rw [rowsB_ok, List.all_eq_true] at h; exact h x1 (za8 hx1))
        refine za rfl rfl (zL (k := k) rfl rfl Try.runUnderlying22 Try.sizeOf30 (by first | rfl | omega) (zu hx1)) (za rfl rfl (zaK (d := RowD.d x1) rfl Try.isAgg30 Try.sizeOf30 rfl rfl) (zl rfl rfl (zaM (zv := (.agg #[(.slice none 0 0), (.int .i64 0)])) Try.zeroValue30 ⟨rfl, rfl, trivial⟩ (Cv.vagg (by decide))) ?_))
        rintro _ _ ⟨g6, rfl, rfl⟩
        refine zl rfl rfl (zab (i := 0) (X' := RowD.d x1) rfl rfl rfl (CellD.agg) Try.sizeOf30 rfl rfl rfl) ?_
        rintro _ _ ⟨rfl, rfl⟩
        refine OpsD.norm [.bx g6 30 (RowD.d x1), .sl ov 2 30 (o.map RowD.d)] rfl (zg rfl (zf (zh _ _ rfl rfl rfl (zc rfl (za rfl rfl (zz rfl zaB rfl) (za rfl rfl (zR rfl (i := 0) rfl Try.isAgg3 rfl) (za rfl rfl (zb rfl) (za rfl rfl (ze rfl) (za rfl rfl (ze rfl) (zg rfl (zf (zh _ _ rfl rfl rfl (zh _ _ rfl rfl rfl (zc rfl (za rfl rfl (zb rfl) (zg rfl (zf ?_)))))))))))))))))
        refine zt _ _ rfl rfl rfl rfl (fun hc7 => ?_) (fun hc7 => ?_)
        · skip
          have hsf : scF op v left x1 = doE op v x1.v := by unfold scF; simp [hc7]
          refine JD.keep [0, 2, 3, 10, 12, 14, 30, 31, 32, 33, 34, 35, 36, 37, 38, 39] [(0, .s op), (2, dI v), (3, dB left), (10, .ov ov), (12, dP g6 0), (14, dI v), (30, .sh 2 (l.map RowD.d)), (31, dN l.length), (32, dN k), (33, dB (decide (((k : Nat) : Int) < ((l.length : Nat) : Int)))), (34, .el (RowD.d x1) 0), (35, RowD.d x1), (36, dP g6 1), (37, dI x1.v), (38, dI v), (39, dB left)] rfl (JD.norm [.bx g6 30 (RowD.d x1), .sl ov 2 30 (o.map RowD.d)] rfl (zaj 4 [(40, dI v, none), (41, dP g6 1, none), (42, dI x1.v, none), (13, dI v, none)] [.bx g6 30 (RowD.d x1), .sl ov 2 30 (o.map RowD.d)] (Hn := [.bx g6 30 (RowD.d x1), .sl ov 2 30 (o.map RowD.d)]) zaz rfl rfl rfl rfl HSub.rfl' rfl ⟨sa_p rfl rfl rfl (zb rfl), sa_p rfl rfl rfl (zz rfl zaB rfl), sa_p rfl rfl rfl (zR rfl (i := 0) rfl Try.isAgg3 rfl), sa_p rfl rfl rfl (ze rfl), trivial⟩ ?_))
          refine OpsD.keep [0, 2, 3, 10, 12, 13, 14, 30, 31, 32, 33, 34, 35, 36, 37, 38, 39, 40, 41, 42] [(0, .s op), (2, dI v), (3, dB left), (10, .ov ov), (12, dP g6 0), (13, dI v), (14, dI v), (30, .sh 2 (l.map RowD.d)), (31, dN l.length), (32, dN k), (33, dB (decide (((k : Nat) : Int) < ((l.length : Nat) : Int)))), (34, .el (RowD.d x1) 0), (35, RowD.d x1), (36, dP g6 1), (37, dI x1.v), (38, dI v), (39, dB left), (40, dI v), (41, dP g6 1), (42, dI x1.v)] rfl (za rfl rfl (ze rfl) (zg rfl (zf (zh _ _ rfl rfl rfl (zc rfl (za rfl rfl (zb rfl) (za rfl rfl (zb rfl) (za rfl rfl (zb rfl) (zl rfl rfl (zs [] _ [] rfl rfl (.cons ArgC.id (.cons ArgC.id (.cons ArgC.id .nil))) zo Try.call28 (Do_c op v x1.v) (.inl rfl)) ?_)))))))))
          rintro _ _ ⟨_, ⟨rfl, rfl⟩, rfl⟩
          refine OpsD.norm [.bx g6 30 (RowD.d x1), .sl ov 2 30 (o.map RowD.d)] rfl (za rfl rfl (zb rfl) (za rfl rfl (zF rfl rfl) (za rfl rfl (zF rfl rfl) (za rfl rfl (ze rfl) (za rfl rfl (ze rfl) (zg rfl (zf (zx _ rfl rfl (zh _ _ rfl rfl rfl (zc rfl (za rfl rfl (zb rfl) (za rfl rfl (zbk rfl rfl rfl) (za rfl rfl (ze rfl) (zg rfl (zf ?_)))))))))))))))
          refine zt _ _ rfl rfl rfl rfl (fun hc8 => ?_) (fun hc8 => ?_)
          · replace hc8 := of_decide_eq_true hc8
            refine zh _ _ rfl rfl rfl (zc rfl (za rfl rfl (zb rfl) (za rfl rfl (ze rfl) (za rfl rfl (ze rfl) (zg rfl (zf (zA rfl (zp (zp (zq (zZ (zp (zq (PD.subH (HSub.nil 2 30) (PD.norm [.sl (.slice none 0 0) 2 30 ((zK op l v left).map RowD.d), .bx g6 30 (RowD.d x1), .sl ov 2 30 (o.map RowD.d)] (by have hw : [] = zK op l v left := (by first | exact (zcc (left := left) hgood hx1 he (by rw [hsf]; have h := hc8; omega)).1 | exact (zcc (left := left) hgood hx1 he (by rw [hsf]; have h := hc8; omega)).2 | (rw [← hsf]; exact (zcc (left := left) hgood hx1 he (by rw [hsf]; have h := hc8; omega)).2)); rw [show ([] : List D) = List.map RowD.d (zK op l v left) from congrArg (List.map RowD.d) hw]) ?_)))))))))))))))
            exact zw Try.results16 (.cons (zN (zr rfl) (Cv.ov rfl)) (.cons (zN (zr rfl) (Cv.eq (congrArg (fun n => D.v (.int .i64 n)) (by first | exact (zcc (left := left) hgood hx1 he (by rw [hsf]; have h := hc8; omega)).1 | exact (zcc (left := left) hgood hx1 he (by rw [hsf]; have h := hc8; omega)).2 | (rw [← hsf]; exact (zcc (left := left) hgood hx1 he (by rw [hsf]; have h := hc8; omega)).2))))) .nil)) rfl (HSub.fst 1 rfl) ⟨(.slice none 0 0), rfl, rfl⟩
          · replace hc8 := of_decide_eq_false hc8
            refine zh _ _ rfl rfl rfl (zc rfl (za rfl rfl (zb rfl) (zl rfl rfl (zs [] _ [] rfl rfl (.cons ArgC.id .nil) zo Try.call29 (Compares_c op) (.inl rfl)) ?_)))
            rintro _ _ ⟨_, ⟨rfl, rfl⟩, rfl⟩
            refine OpsD.norm [.bx g6 30 (RowD.d x1), .sl ov 2 30 (o.map RowD.d)] rfl (za rfl rfl (zae rfl) (za rfl rfl (ze rfl) (zg rfl (zf ?_))))
            refine zt _ _ rfl rfl rfl rfl (fun hc9 => ?_) (fun hc9 => ?_)
            · simp only [Bool.and_eq_true, Bool.or_eq_true, Bool.not_eq_true', Bool.not_eq_false', Bool.and_eq_false_iff, Bool.or_eq_false_iff, decide_eq_true_eq, decide_eq_false_iff_not, Decidable.not_not, ne_eq] at hc9
              refine zc rfl (za rfl rfl (zb rfl) (za rfl rfl (zz rfl zat rfl) (za rfl rfl (zR rfl (i := 0) rfl Try.isAgg27 rfl) (zl rfl rfl (zs [] _ [] rfl rfl (.cons ArgC.id (.cons (ArgC.cv Cv.nil) (.cons ArgC.id .nil))) zo Try.call10 (zd0 0 [] x1.ls (by omega)) (.inl rfl)) ?_))))
              rintro _ _ ⟨_, ⟨v10, rfl, rfl⟩, rfl⟩
              refine OpsD.norm [.sl v10 2 33 ((keyL 0 [] x1.ls).map Lbl.d), .bx g6 30 (RowD.d x1), .sl ov 2 30 (o.map RowD.d)] rfl (za rfl rfl (zb rfl) ?_)
              refine OpsD.mv (Mv.freeze (K' := [(0, .s op), (2, dI v), (3, dB left), (10, .ov ov), (12, dP g6 0), (13, dI v), (14, dI x1.v), (15, dI ((doE op v x1.v).1)), (16, dI ((doE op v x1.v).2)), (30, .sh 2 (l.map RowD.d)), (31, dN l.length), (32, dN k), (33, dB (decide (((k : Nat) : Int) < ((l.length : Nat) : Int)))), (34, .el (RowD.d x1) 0), (35, RowD.d x1), (36, dP g6 1), (37, dI x1.v), (38, dI v), (39, dB left), (40, dI v), (41, dP g6 1), (42, dI x1.v), (43, .tup [dI ((doE op v x1.v).1), dI ((doE op v x1.v).2)]), (44, .s op), (45, dI v), (46, dI x1.v), (47, .tup [dI ((doE op v x1.v).1), dI ((doE op v x1.v).2)]), (48, dI ((doE op v x1.v).1)), (49, dI ((doE op v x1.v).2)), (50, dB (decide ((doE op v x1.v).2 ≠ (0 : Int)))), (51, dI ((doE op v x1.v).2)), (52, dB (decide ((doE op v x1.v).2 ≠ (0 : Int)))), (54, dB (!(cmpB op))), (55, .s op), (56, dB (cmpB op)), (57, dB (!(cmpB op))), (58, .ov ov), (59, dP g6 0), (60, .sh 2 (x1.ls.map Lbl.d)), (61, .sh 2 ((keyL 0 [] x1.ls).map Lbl.d)), (62, dI ((doE op v x1.v).1))]) [.sl v10 2 33 ((keyL 0 [] x1.ls).map Lbl.d)] (H1 := [.bx g6 30 (RowD.d x1), .sl ov 2 30 (o.map RowD.d)]) (H1' := [.bx g6 30 (RowD.d x1), .sl ov 2 30 (o.map RowD.d)]) ⟨⟨_, rfl, ArgC.id⟩, ⟨_, rfl, ArgC.id⟩, ⟨_, rfl, ArgC.id⟩, ⟨_, rfl, ArgC.id⟩, ⟨_, rfl, ArgC.id⟩, ⟨_, rfl, ArgC.id⟩, ⟨_, rfl, ArgC.id⟩, ⟨_, rfl, ArgC.id⟩, ⟨_, rfl, ArgC.id⟩, ⟨_, rfl, ArgC.id⟩, ⟨_, rfl, ArgC.id⟩, ⟨_, rfl, ArgC.id⟩, ⟨_, rfl, ArgC.id⟩, ⟨_, rfl, ArgC.id⟩, ⟨_, rfl, ArgC.id⟩, ⟨_, rfl, ArgC.id⟩, ⟨_, rfl, ArgC.id⟩, ⟨_, rfl, ArgC.id⟩, ⟨_, rfl, ArgC.id⟩, ⟨_, rfl, ArgC.id⟩, ⟨_, rfl, ArgC.id⟩, ⟨_, rfl, ArgC.id⟩, ⟨_, rfl, ArgC.id⟩, ⟨_, rfl, ArgC.id⟩, ⟨_, rfl, ArgC.id⟩, ⟨_, rfl, ArgC.id⟩, ⟨_, rfl, ArgC.id⟩, ⟨_, rfl, ArgC.id⟩, ⟨_, rfl, ArgC.id⟩, ⟨_, rfl, ArgC.id⟩, ⟨_, rfl, ArgC.id⟩, ⟨_, rfl, ArgC.id⟩, ⟨_, rfl, ArgC.id⟩, ⟨_, rfl, ArgC.id⟩, ⟨_, rfl, ArgC.id⟩, ⟨_, rfl, ArgC.id⟩, ⟨_, rfl, ArgC.id⟩, ⟨_, rfl, ArgC.id⟩, ⟨_, rfl, ArgC.id⟩, ⟨_, rfl, ArgC.own (j := 0) rfl rfl⟩, ⟨_, rfl, ArgC.id⟩, trivial⟩ (.same (.same .nil))) ?_
              refine za rfl rfl (zc1 [0, 1] [.tmp 61, .tmp 62] (zv := (.agg #[(.slice none 0 0), (.int .i64 0)])) rfl rfl (.cons CellD.sh (.cons (CellD.v rfl) .nil)) (Try.runUnderlying30) Try.zeroValue30 zdq ⟨rfl, rfl, trivial⟩ rfl) (zl rfl rfl (z6 [.tmp 63] rfl rfl (.cons CellD.agg .nil) rfl Try.runUnderlying22 Try.sizeOf30 Try.zeroValue30 rfl rfl rfl rfl) ?_)
              rintro _ _ ⟨g11, rfl, rfl⟩
              refine zl rfl rfl (z4 (f := RowD.d) (l := o) (l' := [(RowD.mk (keyL 0 [] x1.ls) ((doE op v x1.v).1))]) (i := 2) rfl rfl rfl (SrcD.own (j := 0) rfl rfl) zbg za4 rfl rfl (by unfold maxLen; (try simp only [la, lc, ln, lm, lt', ld, ls, lr]); omega) (by (try simp only [la, lc, ln, lm, lt', ld, ls, lr]); omega)) ?_
              rintro _ _ ⟨v12, rfl, rfl⟩
              refine OpsD.norm [.sl (vS g11 1 1) 2 30 ([.agg [.sh 2 ((keyL 0 [] x1.ls).map Lbl.d), dI ((doE op v x1.v).1)]]), .bx g6 30 (RowD.d x1), .sl v12 2 30 ((o ++ [(RowD.mk (keyL 0 [] x1.ls) ((doE op v x1.v).1))]).map RowD.d)] rfl (za rfl rfl (ze rfl) (zg rfl (zC (zC (zf (zc rfl (za rfl rfl (z8 (c := ((k + 1 : Nat) : Int)) rfl rfl (zU (by omega) (by omega))) (za rfl rfl (zb rfl) (zg rfl (PD.subH (HSub.perm (zP (i := 2) rfl)) (PD.norm [.sl v12 2 30 ((o ++ [(RowD.mk (keyL 0 [] x1.ls) ((doE op v x1.v).1))]).map RowD.d), .sl (vS g11 1 1) 2 30 ([.agg [.sh 2 ((keyL 0 [] x1.ls).map Lbl.d), dI ((doE op v x1.v).1)]]), .bx g6 30 (RowD.d x1)] rfl (PD.subH (HSub.fst 1 rfl) (PD.norm [.sl v12 2 30 ((o ++ [(RowD.mk (keyL 0 [] x1.ls) ((doE op v x1.v).1))]).map RowD.d)] rfl ?_)))))))))))))
              exact zT (k + 1, v12, (o ++ [(RowD.mk (keyL 0 [] x1.ls) ((doE op v x1.v).1))])) ⟨sk rfl, sk rfl, sk rfl, sk rfl, sk rfl, sk rfl, sk rfl, trivial⟩ HSub.rfl' ⟨by show k + 1 ≤ l.length; omega, by rw [scOut_add (y := (RowD.mk (keyL 0 [] x1.ls) ((doE op v x1.v).1))) hx1 (by simp [zcI, hsf, hc9]), ← ho], za5 hx1 he (by rw [hsf]; have h := hc8; omega)⟩ (by omega)
            · simp only [Bool.and_eq_true, Bool.or_eq_true, Bool.not_eq_true', Bool.not_eq_false', Bool.and_eq_false_iff, Bool.or_eq_false_iff, decide_eq_true_eq, decide_eq_false_iff_not, Decidable.not_not, ne_eq] at hc9
              refine zh _ _ rfl rfl rfl (zc rfl (za rfl rfl (zb rfl) (za rfl rfl (z3 rfl rfl rfl) (za rfl rfl (ze rfl) (zg rfl (zf ?_))))))
              refine zt _ _ rfl rfl rfl rfl (fun hc13 => ?_) (fun hc13 => ?_)
              · replace hc13 := of_decide_eq_true hc13
                refine zc rfl (za rfl rfl (zb rfl) (za rfl rfl (za2 (d := RowD.d x1) rfl (i := 0) rfl Try.isAgg30 Try.sizeOf30 rfl rfl) (zl rfl rfl (z6 [.tmp 70] rfl rfl (.cons CellD.agg .nil) rfl Try.runUnderlying22 Try.sizeOf30 Try.zeroValue30 rfl rfl rfl rfl) ?_)))
                rintro _ _ ⟨g14, rfl, rfl⟩
                refine zl rfl rfl (z4 (f := RowD.d) (l := o) (l' := [x1]) (i := 2) rfl rfl rfl (SrcD.own (j := 0) rfl rfl) zbg za4 rfl rfl (by unfold maxLen; (try simp only [la, lc, ln, lm, lt', ld, ls, lr]); omega) (by (try simp only [la, lc, ln, lm, lt', ld, ls, lr]); omega)) ?_
                rintro _ _ ⟨v15, rfl, rfl⟩
                refine OpsD.norm [.sl (vS g14 1 1) 2 30 ([RowD.d x1]), .bx g6 30 (RowD.d x1), .sl v15 2 30 ((o ++ [x1]).map RowD.d)] rfl (za rfl rfl (ze rfl) (zg rfl (zC (zC (zf (zc rfl (za rfl rfl (z8 (c := ((k + 1 : Nat) : Int)) rfl rfl (zU (by omega) (by omega))) (za rfl rfl (zb rfl) (zg rfl (PD.subH (HSub.perm (zP (i := 2) rfl)) (PD.norm [.sl v15 2 30 ((o ++ [x1]).map RowD.d), .sl (vS g14 1 1) 2 30 ([RowD.d x1]), .bx g6 30 (RowD.d x1)] rfl (PD.subH (HSub.fst 1 rfl) (PD.norm [.sl v15 2 30 ((o ++ [x1]).map RowD.d)] rfl ?_)))))))))))))
                exact zT (k + 1, v15, (o ++ [x1])) ⟨sk rfl, sk rfl, sk rfl, sk rfl, sk rfl, sk rfl, sk rfl, trivial⟩ HSub.rfl' ⟨by show k + 1 ≤ l.length; omega, by rw [scOut_add (y := x1) hx1 (by simp [zcI, hsf, hc9, hc13]), ← ho], za5 hx1 he (by rw [hsf]; have h := hc8; omega)⟩ (by omega)
              · replace hc13 := of_decide_eq_false hc13
                refine zy rfl (zC (zC (zf (zc rfl (za rfl rfl (z8 (c := ((k + 1 : Nat) : Int)) rfl rfl (zU (by omega) (by omega))) (za rfl rfl (zb rfl) (zg rfl (PD.subH (HSub.perm (zP (i := 1) rfl)) (PD.norm [.sl ov 2 30 (o.map RowD.d), .bx g6 30 (RowD.d x1)] rfl (PD.subH (HSub.fst 1 rfl) (PD.norm [.sl ov 2 30 (o.map RowD.d)] rfl ?_)))))))))))
                exact zT (k + 1, ov, o) ⟨sk rfl, sk rfl, sk rfl, sk rfl, sk rfl, sk rfl, sk rfl, trivial⟩ HSub.rfl' ⟨by show k + 1 ≤ l.length; omega, by rw [scOut_not hx1 (by simp [zcI, hsf, hc9, hc13]), ← ho], za5 hx1 he (by rw [hsf]; have h := hc8; omega)⟩ (by omega)
        · skip
          have hsf : scF op v left x1 = doE op x1.v v := by unfold scF; simp [hc7]
          refine zy rfl (zf (zh _ _ rfl rfl rfl (zc rfl (za rfl rfl (zb rfl) (za rfl rfl (zb rfl) (za rfl rfl (zb rfl) (zl rfl rfl (zs [] _ [] rfl rfl (.cons ArgC.id (.cons ArgC.id (.cons ArgC.id .nil))) zo Try.call28 (Do_c op x1.v v) (.inl rfl)) ?_)))))))
          rintro _ _ ⟨_, ⟨rfl, rfl⟩, rfl⟩
          refine OpsD.norm [.bx g6 30 (RowD.d x1), .sl ov 2 30 (o.map RowD.d)] rfl (za rfl rfl (zb rfl) (za rfl rfl (zF rfl rfl) (za rfl rfl (zF rfl rfl) (za rfl rfl (ze rfl) (za rfl rfl (ze rfl) (zg rfl (zf (zx _ rfl rfl (zh _ _ rfl rfl rfl (zc rfl (za rfl rfl (zb rfl) (za rfl rfl (zbk rfl rfl rfl) (za rfl rfl (ze rfl) (zg rfl (zf ?_)))))))))))))))
          refine zt _ _ rfl rfl rfl rfl (fun hc16 => ?_) (fun hc16 => ?_)
          · replace hc16 := of_decide_eq_true hc16
            refine zh _ _ rfl rfl rfl (zc rfl (za rfl rfl (zb rfl) (za rfl rfl (ze rfl) (za rfl rfl (ze rfl) (zg rfl (zf (zA rfl (zp (zp (zq (zZ (zp (zq (PD.subH (HSub.nil 2 30) (PD.norm [.sl (.slice none 0 0) 2 30 ((zK op l v left).map RowD.d), .bx g6 30 (RowD.d x1), .sl ov 2 30 (o.map RowD.d)] (by have hw : [] = zK op l v left := (by first | exact (zcc (left := left) hgood hx1 he (by rw [hsf]; have h := hc16; omega)).1 | exact (zcc (left := left) hgood hx1 he (by rw [hsf]; have h := hc16; omega)).2 | (rw [← hsf]; exact (zcc (left := left) hgood hx1 he (by rw [hsf]; have h := hc16; omega)).2)); rw [show ([] : List D) = List.map RowD.d (zK op l v left) from congrArg (List.map RowD.d) hw]) ?_)))))))))))))))
            exact zw Try.results16 (.cons (zN (zr rfl) (Cv.ov rfl)) (.cons (zN (zr rfl) (Cv.eq (congrArg (fun n => D.v (.int .i64 n)) (by first | exact (zcc (left := left) hgood hx1 he (by rw [hsf]; have h := hc16; omega)).1 | exact (zcc (left := left) hgood hx1 he (by rw [hsf]; have h := hc16; omega)).2 | (rw [← hsf]; exact (zcc (left := left) hgood hx1 he (by rw [hsf]; have h := hc16; omega)).2))))) .nil)) rfl (HSub.fst 1 rfl) ⟨(.slice none 0 0), rfl, rfl⟩
          · replace hc16 := of_decide_eq_false hc16
            refine zh _ _ rfl rfl rfl (zc rfl (za rfl rfl (zb rfl) (zl rfl rfl (zs [] _ [] rfl rfl (.cons ArgC.id .nil) zo Try.call29 (Compares_c op) (.inl rfl)) ?_)))
            rintro _ _ ⟨_, ⟨rfl, rfl⟩, rfl⟩
            refine OpsD.norm [.bx g6 30 (RowD.d x1), .sl ov 2 30 (o.map RowD.d)] rfl (za rfl rfl (zae rfl) (za rfl rfl (ze rfl) (zg rfl (zf ?_))))
            refine zt _ _ rfl rfl rfl rfl (fun hc17 => ?_) (fun hc17 => ?_)
            · simp only [Bool.and_eq_true, Bool.or_eq_true, Bool.not_eq_true', Bool.not_eq_false', Bool.and_eq_false_iff, Bool.or_eq_false_iff, decide_eq_true_eq, decide_eq_false_iff_not, Decidable.not_not, ne_eq] at hc17
              refine zc rfl (za rfl rfl (zb rfl) (za rfl rfl (zz rfl zat rfl) (za rfl rfl (zR rfl (i := 0) rfl Try.isAgg27 rfl) (zl rfl rfl (zs [] _ [] rfl rfl (.cons ArgC.id (.cons (ArgC.cv Cv.nil) (.cons ArgC.id .nil))) zo Try.call10 (zd0 0 [] x1.ls (by omega)) (.inl rfl)) ?_))))
              rintro _ _ ⟨_, ⟨v18, rfl, rfl⟩, rfl⟩
              refine OpsD.norm [.sl v18 2 33 ((keyL 0 [] x1.ls).map Lbl.d), .bx g6 30 (RowD.d x1), .sl ov 2 30 (o.map RowD.d)] rfl (za rfl rfl (zb rfl) ?_)
              refine OpsD.mv (Mv.freeze (K' := [(0, .s op), (2, dI v), (3, dB left), (10, .ov ov), (12, dP g6 0), (13, dI x1.v), (14, dI v), (15, dI ((doE op x1.v v).1)), (16, dI ((doE op x1.v v).2)), (30, .sh 2 (l.map RowD.d)), (31, dN l.length), (32, dN k), (33, dB (decide (((k : Nat) : Int) < ((l.length : Nat) : Int)))), (34, .el (RowD.d x1) 0), (35, RowD.d x1), (36, dP g6 1), (37, dI x1.v), (38, dI v), (39, dB left), (43, .tup [dI ((doE op x1.v v).1), dI ((doE op x1.v v).2)]), (44, .s op), (45, dI x1.v), (46, dI v), (47, .tup [dI ((doE op x1.v v).1), dI ((doE op x1.v v).2)]), (48, dI ((doE op x1.v v).1)), (49, dI ((doE op x1.v v).2)), (50, dB (decide ((doE op x1.v v).2 ≠ (0 : Int)))), (51, dI ((doE op x1.v v).2)), (52, dB (decide ((doE op x1.v v).2 ≠ (0 : Int)))), (54, dB (!(cmpB op))), (55, .s op), (56, dB (cmpB op)), (57, dB (!(cmpB op))), (58, .ov ov), (59, dP g6 0), (60, .sh 2 (x1.ls.map Lbl.d)), (61, .sh 2 ((keyL 0 [] x1.ls).map Lbl.d)), (62, dI ((doE op x1.v v).1))]) [.sl v18 2 33 ((keyL 0 [] x1.ls).map Lbl.d)] (H1 := [.bx g6 30 (RowD.d x1), .sl ov 2 30 (o.map RowD.d)]) (H1' := [.bx g6 30 (RowD.d x1), .sl ov 2 30 (o.map RowD.d)]) ⟨⟨_, rfl, ArgC.id⟩, ⟨_, rfl, ArgC.id⟩, ⟨_, rfl, ArgC.id⟩, ⟨_, rfl, ArgC.id⟩, ⟨_, rfl, ArgC.id⟩, ⟨_, rfl, ArgC.id⟩, ⟨_, rfl, ArgC.id⟩, ⟨_, rfl, ArgC.id⟩, ⟨_, rfl, ArgC.id⟩, ⟨_, rfl, ArgC.id⟩, ⟨_, rfl, ArgC.id⟩, ⟨_, rfl, ArgC.id⟩, ⟨_, rfl, ArgC.id⟩, ⟨_, rfl, ArgC.id⟩, ⟨_, rfl, ArgC.id⟩, ⟨_, rfl, ArgC.id⟩, ⟨_, rfl, ArgC.id⟩, ⟨_, rfl, ArgC.id⟩, ⟨_, rfl, ArgC.id⟩, ⟨_, rfl, ArgC.id⟩, ⟨_, rfl, ArgC.id⟩, ⟨_, rfl, ArgC.id⟩, ⟨_, rfl, ArgC.id⟩, ⟨_, rfl, ArgC.id⟩, ⟨_, rfl, ArgC.id⟩, ⟨_, rfl, ArgC.id⟩, ⟨_, rfl, ArgC.id⟩, ⟨_, rfl, ArgC.id⟩, ⟨_, rfl, ArgC.id⟩, ⟨_, rfl, ArgC.id⟩, ⟨_, rfl, ArgC.id⟩, ⟨_, rfl, ArgC.id⟩, ⟨_, rfl, ArgC.id⟩, ⟨_, rfl, ArgC.id⟩, ⟨_, rfl, ArgC.id⟩, ⟨_, rfl, ArgC.id⟩, ⟨_, rfl, ArgC.own (j := 0) rfl rfl⟩, ⟨_, rfl, ArgC.id⟩, trivial⟩ (.same (.same .nil))) ?_
              refine za rfl rfl (zc1 [0, 1] [.tmp 61, .tmp 62] (zv := (.agg #[(.slice none 0 0), (.int .i64 0)])) rfl rfl (.cons CellD.sh (.cons (CellD.v rfl) .nil)) (Try.runUnderlying30) Try.zeroValue30 zdq ⟨rfl, rfl, trivial⟩ rfl) (zl rfl rfl (z6 [.tmp 63] rfl rfl (.cons CellD.agg .nil) rfl Try.runUnderlying22 Try.sizeOf30 Try.zeroValue30 rfl rfl rfl rfl) ?_)
              rintro _ _ ⟨g19, rfl, rfl⟩
              refine zl rfl rfl (z4 (f := RowD.d) (l := o) (l' := [(RowD.mk (keyL 0 [] x1.ls) ((doE op x1.v v).1))]) (i := 2) rfl rfl rfl (SrcD.own (j := 0) rfl rfl) zbg za4 rfl rfl (by unfold maxLen; (try simp only [la, lc, ln, lm, lt', ld, ls, lr]); omega) (by (try simp only [la, lc, ln, lm, lt', ld, ls, lr]); omega)) ?_
              rintro _ _ ⟨v20, rfl, rfl⟩
              refine OpsD.norm [.sl (vS g19 1 1) 2 30 ([.agg [.sh 2 ((keyL 0 [] x1.ls).map Lbl.d), dI ((doE op x1.v v).1)]]), .bx g6 30 (RowD.d x1), .sl v20 2 30 ((o ++ [(RowD.mk (keyL 0 [] x1.ls) ((doE op x1.v v).1))]).map RowD.d)] rfl (za rfl rfl (ze rfl) (zg rfl (zC (zC (zf (zc rfl (za rfl rfl (z8 (c := ((k + 1 : Nat) : Int)) rfl rfl (zU (by omega) (by omega))) (za rfl rfl (zb rfl) (zg rfl (PD.subH (HSub.perm (zP (i := 2) rfl)) (PD.norm [.sl v20 2 30 ((o ++ [(RowD.mk (keyL 0 [] x1.ls) ((doE op x1.v v).1))]).map RowD.d), .sl (vS g19 1 1) 2 30 ([.agg [.sh 2 ((keyL 0 [] x1.ls).map Lbl.d), dI ((doE op x1.v v).1)]]), .bx g6 30 (RowD.d x1)] rfl (PD.subH (HSub.fst 1 rfl) (PD.norm [.sl v20 2 30 ((o ++ [(RowD.mk (keyL 0 [] x1.ls) ((doE op x1.v v).1))]).map RowD.d)] rfl ?_)))))))))))))
              exact zT (k + 1, v20, (o ++ [(RowD.mk (keyL 0 [] x1.ls) ((doE op x1.v v).1))])) ⟨sk rfl, sk rfl, sk rfl, sk rfl, sk rfl, sk rfl, sk rfl, trivial⟩ HSub.rfl' ⟨by show k + 1 ≤ l.length; omega, by rw [scOut_add (y := (RowD.mk (keyL 0 [] x1.ls) ((doE op x1.v v).1))) hx1 (by simp [zcI, hsf, hc17]), ← ho], za5 hx1 he (by rw [hsf]; have h := hc16; omega)⟩ (by omega)
            · simp only [Bool.and_eq_true, Bool.or_eq_true, Bool.not_eq_true', Bool.not_eq_false', Bool.and_eq_false_iff, Bool.or_eq_false_iff, decide_eq_true_eq, decide_eq_false_iff_not, Decidable.not_not, ne_eq] at hc17
              refine zh _ _ rfl rfl rfl (zc rfl (za rfl rfl (zb rfl) (za rfl rfl (z3 rfl rfl rfl) (za rfl rfl (ze rfl) (zg rfl (zf ?_))))))
              refine zt _ _ rfl rfl rfl rfl (fun hc21 => ?_) (fun hc21 => ?_)
              · replace hc21 := of_decide_eq_true hc21
                refine zc rfl (za rfl rfl (zb rfl) (za rfl rfl (za2 (d := RowD.d x1) rfl (i := 0) rfl Try.isAgg30 Try.sizeOf30 rfl rfl) (zl rfl rfl (z6 [.tmp 70] rfl rfl (.cons CellD.agg .nil) rfl Try.runUnderlying22 Try.sizeOf30 Try.zeroValue30 rfl rfl rfl rfl) ?_)))
                rintro _ _ ⟨g22, rfl, rfl⟩
                refine zl rfl rfl (z4 (f := RowD.d) (l := o) (l' := [x1]) (i := 2) rfl rfl rfl (SrcD.own (j := 0) rfl rfl) zbg za4 rfl rfl (by unfold maxLen; (try simp only [la, lc, ln, lm, lt', ld, ls, lr]); omega) (by (try simp only [la, lc, ln, lm, lt', ld, ls, lr]); omega)) ?_
                rintro _ _ ⟨v23, rfl, rfl⟩
                refine OpsD.norm [.sl (vS g22 1 1) 2 30 ([RowD.d x1]), .bx g6 30 (RowD.d x1), .sl v23 2 30 ((o ++ [x1]).map RowD.d)] rfl (za rfl rfl (ze rfl) (zg rfl (zC (zC (zf (zc rfl (za rfl rfl (z8 (c := ((k + 1 : Nat) : Int)) rfl rfl (zU (by omega) (by omega))) (za rfl rfl (zb rfl) (zg rfl (PD.subH (HSub.perm (zP (i := 2) rfl)) (PD.norm [.sl v23 2 30 ((o ++ [x1]).map RowD.d), .sl (vS g22 1 1) 2 30 ([RowD.d x1]), .bx g6 30 (RowD.d x1)] rfl (PD.subH (HSub.fst 1 rfl) (PD.norm [.sl v23 2 30 ((o ++ [x1]).map RowD.d)] rfl ?_)))))))))))))
                exact zT (k + 1, v23, (o ++ [x1])) ⟨sk rfl, sk rfl, sk rfl, sk rfl, sk rfl, sk rfl, sk rfl, trivial⟩ HSub.rfl' ⟨by show k + 1 ≤ l.length; omega, by rw [scOut_add (y := x1) hx1 (by simp [zcI, hsf, hc17, hc21]), ← ho], za5 hx1 he (by rw [hsf]; have h := hc16; omega)⟩ (by omega)
              · replace hc21 := of_decide_eq_false hc21
                refine zy rfl (zC (zC (zf (zc rfl (za rfl rfl (z8 (c := ((k + 1 : Nat) : Int)) rfl rfl (zU (by omega) (by omega))) (za rfl rfl (zb rfl) (zg rfl (PD.subH (HSub.perm (zP (i := 1) rfl)) (PD.norm [.sl ov 2 30 (o.map RowD.d), .bx g6 30 (RowD.d x1)] rfl (PD.subH (HSub.fst 1 rfl) (PD.norm [.sl ov 2 30 (o.map RowD.d)] rfl ?_)))))))))))
                exact zT (k + 1, ov, o) ⟨sk rfl, sk rfl, sk rfl, sk rfl, sk rfl, sk rfl, sk rfl, trivial⟩ HSub.rfl' ⟨by show k + 1 ≤ l.length; omega, by rw [scOut_not hx1 (by simp [zcI, hsf, hc17, hc21]), ← ho], za5 hx1 he (by rw [hsf]; have h := hc16; omega)⟩ (by omega)
      · replace hc5 := of_decide_eq_false hc5
        refine z2 rfl (zJ (zH (zB (zf (zh _ _ rfl rfl rfl (JD.mv (Mv.freeze (K' := [(0, .s op), (2, dI v), (3, dB left), (10, .sh 2 (o.map RowD.d)), (30, .sh 2 (l.map RowD.d)), (31, dN l.length), (32, dN k), (33, dB (decide (((k : Nat) : Int) < ((l.length : Nat) : Int))))]) [.sl ov 2 30 (o.map RowD.d)] (H1 := []) (H1' := []) ⟨⟨_, rfl, ArgC.id⟩, ⟨_, rfl, ArgC.id⟩, ⟨_, rfl, ArgC.id⟩, ⟨_, rfl, ArgC.own (j := 0) rfl rfl⟩, ⟨_, rfl, ArgC.id⟩, ⟨_, rfl, ArgC.id⟩, ⟨_, rfl, ArgC.id⟩, ⟨_, rfl, ArgC.id⟩, trivial⟩ .nil) (zc rfl (za rfl rfl (zb rfl) (zl rfl rfl (zs [] _ [] rfl rfl (.cons ArgC.id .nil) zo Try.call30 (vTidy_c o) (.inl rfl)) ?_)))))))))
        rintro _ _ ⟨_, ⟨v24, rfl, rfl⟩, rfl⟩
        refine OpsD.norm [.sl v24 2 30 ((rtL o).map RowD.d)] rfl (za rfl rfl (zF rfl rfl) (za rfl rfl (zF rfl rfl) (za rfl rfl (ze rfl) (za rfl rfl (ze rfl) (zg rfl (zf (JD.keep [8, 9] [(8, .ov v24), (9, dI (rtE o))] rfl (zA rfl (PD.norm [.sl v24 2 30 ((zK op l v left).map RowD.d)] (by have hw : rtL o = zK op l v left := (by first | (rw [ho]; exact (sc_ok hgood he (by omega)).1) | (rw [ho]; exact (sc_ok hgood he (by omega)).2)); rw [hw]) ?_)))))))))
        exact zw Try.results16 (.cons (zr rfl) (.cons (zN (zr rfl) (Cv.eq (congrArg (fun n => D.v (.int .i64 n)) (by first | (rw [ho]; exact (sc_ok hgood he (by omega)).1) | (rw [ho]; exact (sc_ok hgood he (by omega)).2))))) .nil)) rfl (HSub.fst 1 rfl) ⟨v24, rfl, rfl⟩

end Lp
/- Walks, printed by a program of mine. -/
set_option linter.unusedSimpArgs false
set_option linter.unusedVariables false
namespace Lp
open Go Go.RowKit Go.Proofs

namespace HdYtfjinapgehafiaaV4
theorem eqp_74_eql (x y : Operand) (a : Addr) (w : World) : (do eqGuard .eql 74 x y (.pointer (some a)) (.pointer none); binOp .eql 74 (.pointer (some a)) (.pointer none) : Sem Value).run Try.prog w = .ok (.bool false) w := by kernel_rfl
theorem eqs_74_neq (d : Nat) (a : Addr) (w : World) : (Op.equalIn (d + 1) 74 (.pointer (some a)) (.pointer (some a))).run Try.prog w = .ok true w := by
  rw [Op.equalIn]
  simp only [Sem.run_bind, run_underlying (show Try.prog.underlying 74 = some (.pointer 77) by kernel_rfl), Result.andThen_ok, Try.sizeOf77]
  simp [sameAddr]
theorem eqt_74_neq (a : Addr) (w : World) : (Op.equal 74 (.pointer (some a)) (.pointer (some a))).run Try.prog w = .ok true w := eqs_74_neq 9999 a w
theorem eqq_74_neq (x y : Operand) (a : Addr) (w : World) : (do eqGuard .neq 74 x y (.pointer (some a)) (.pointer (some a)); binOp .neq 74 (.pointer (some a)) (.pointer (some a)) : Sem Value).run Try.prog w = .ok (.bool false) w := by simp [eqGuard, binOp, eqt_74_neq]
theorem fa_77_0 (b o : Nat) : ∀ w, (Instr.fieldAt 77 (.pointer (some ⟨b, o, none⟩)) 0).run Try.prog w = .ok (.pointer (some ⟨b, o + 0, none⟩)) w := fun _ => by kernel_rfl
theorem zbd (b o : Nat) : ∀ w, (Instr.fieldAt 77 (.pointer (some ⟨b, o, none⟩)) 1).run Try.prog w = .ok (.pointer (some ⟨b, o + 1, none⟩)) w := fun _ => by kernel_rfl
theorem zcx : ∃ i, Try.prog.info? 5 = some i ∧ i.zero = some (.int .u8 0) ∧ i.size = 1 ∧ i.bytes = 1 := zbC (by kernel_rfl)
theorem zcp : Try.prog.underlying 75 = some (.slice 5) := by kernel_rfl
end HdYtfjinapgehafiaaV4
open HdYtfjinapgehafiaaV4

theorem cv_up {w : World} {g : Nat} {c : Array Value} (h : w.heap[g]? = some (.cells c 77 (0, 0))) (hc : c.size = 2) : (convert 74 103 (.pointer (some ⟨g, 0, none⟩))).run Try.prog w = .ok (.pointer (some ⟨g, 0, none⟩)) w := by
  simp [convert, run_underlying (show Try.prog.underlying 74 = some _ by kernel_rfl), run_underlying (show Try.prog.underlying 103 = some _ by kernel_rfl), Conv.unsafePointer, Conv.seenAt, viewAt, cellsIn, run_shape, h, hc, World.shape?, Try.sizeOf77]
theorem cv_down {w : World} {g : Nat} {c : Array Value} (h : w.heap[g]? = some (.cells c 77 (0, 0))) (hc : c.size = 2) : (convert 103 74 (.pointer (some ⟨g, 0, none⟩))).run Try.prog w = .ok (.pointer (some ⟨g, 0, none⟩)) w := by
  have e : liesAt Try.prog Try.prog.depth 77 (2 / Try.prog.cellsOf 77) 0 77 1 = true := by kernel_rfl
  simp [convert, run_underlying (show Try.prog.underlying 74 = some _ by kernel_rfl), run_underlying (show Try.prog.underlying 103 = some _ by kernel_rfl), Conv.unsafePointer, Conv.seenAt, viewAt, cellsIn, run_shape, h, hc, World.shape?, Try.sizeOf77, variablesAt, e]
theorem p_upto {ty : TypeId} {K : Kd} {H : List Hp} {t1 t2 : TypeId} {x : Operand} {g i : Nat} {X : D} (ht : (t1 = 74 ∧ t2 = 103) ∨ (t1 = 103 ∧ t2 = 74)) (hx : opD K x = some (dP g 0)) (hm : nth H i = some (.bx g 77 X)) (hX : Nat.beq X.cells.length 2 = true) : Pu Try.prog (.convert t1 t2 x) ty K H (dP g 0) :=
  ⟨fun ρ w F hk _ hH => by
    obtain ⟨u, h1, h2, h3⟩ := hH _ (zah hm)
    have hl := zbh (D.rep_cells h1 h2)
    have hc : u.cells.size = 2 := by have := Nat.eq_of_beq_eq_true hX; rw [← hl] at this; simpa [vcs] using this
    have e : ev ρ x = _ := hk.op hx
    refine EOp.of_run (v := .pointer (some ⟨g, 0, none⟩)) (w' := w) ?_ ⟨rfl, rfl⟩
    rcases ht with ⟨rfl, rfl⟩ | ⟨rfl, rfl⟩
    · have := zbO (cv_up h3 hc); simpa [execOp, zap, e] using this
    · have := zbO (cv_down h3 hc); simpa [execOp, zap, e] using this⟩
theorem p_noEscape {ty : TypeId} {K : Kd} {H : List Hp} {x : Operand} {ats : Array TypeId} {v : Value} (hx : opD K x = some (.v v)) : Pu Try.prog (.call { callee := .value (.func 77), args := #[x], argTypes := ats }) ty K H (.v v) :=
  ⟨fun ρ w F hk _ _ => e_ext (vs := [v]) (zV ρ [x]) (by rw [show (#[x] : Array Operand).toList = [x] from rfl, zcv ρ [x] [x] (fun _ h => h)]; have e : ev ρ x = v := hk.op hx; simp [e]) (fun w => by
    rw [run_callFunc_extern Try.func77 (by kernel_rfl) (by kernel_rfl) (by kernel_rfl) (e := Extern.AbiNoEscape.same) (by kernel_rfl)]; rfl) ⟨rfl, rfl⟩⟩

set_option maxHeartbeats 4000000 in
set_option maxRecDepth 100000 in
theorem copyCheck_c (g : Nat) (p : Value) (x : D) (hp : p = .pointer none ∨ p = .pointer (some ⟨g, 0, none⟩)) :
    CD Try.prog 67 [.bx g 77 (.agg [.v p, x])] [dP g 0] (fun r H' => r = .tup [] ∧ H' = [.bx g 77 (.agg [dP g 0, x])]) := by
  refine zM Try.func67 rfl (N := 20) rfl rfl (fun C => ?_)
  refine JD.keep [0] [(0, dP g 0)] rfl ?_
  rcases hp with rfl | rfl
  · skip
    refine zh _ _ rfl rfl rfl (zc rfl (za rfl rfl (zb rfl) (za rfl rfl (zal rfl) (za rfl rfl (zz rfl fa_77_0 rfl) (za rfl rfl (zR rfl (i := 0) rfl Try.isAgg74 rfl) (za rfl rfl (zdO (r := .bool true) rfl rfl (fun _ => by kernel_rfl)) (zg rfl (zf (zav _ rfl rfl rfl (zc rfl (za rfl rfl (zb rfl) (za rfl rfl (zb rfl) (za rfl rfl (p_upto (i := 0) (by first | exact .inl ⟨rfl, rfl⟩ | exact .inr ⟨rfl, rfl⟩) rfl rfl rfl) (za rfl rfl (p_noEscape rfl) (za rfl rfl (p_upto (i := 0) (by first | exact .inl ⟨rfl, rfl⟩ | exact .inr ⟨rfl, rfl⟩) rfl rfl rfl) (za rfl rfl (zal rfl) (za rfl rfl (zz rfl fa_77_0 rfl) (zl rfl rfl (zab (i := 0) (X' := .agg [dP g 0, x]) rfl rfl rfl (CellD.v rfl) Try.sizeOf74 rfl rfl rfl) ?_))))))))))))))))))
    rintro _ _ ⟨rfl, rfl⟩
    refine OpsD.norm [.bx g 77 (.agg [dP g 0, x])] rfl (zg rfl ?_)
    exact pd_end Try.results67 .nil rfl ⟨rfl, rfl⟩
  · skip
    refine zh _ _ rfl rfl rfl (zc rfl (za rfl rfl (zb rfl) (za rfl rfl (zal rfl) (za rfl rfl (zz rfl fa_77_0 rfl) (za rfl rfl (zR rfl (i := 0) rfl Try.isAgg74 rfl) (za rfl rfl (zdO (r := .bool false) rfl rfl (eqp_74_eql _ _ _)) (zg rfl (zf (zay _ rfl rfl rfl (zh _ _ rfl rfl rfl (zc rfl (za rfl rfl (zb rfl) (za rfl rfl (zal rfl) (za rfl rfl (zz rfl fa_77_0 rfl) (za rfl rfl (zR rfl (i := 0) rfl Try.isAgg74 rfl) (za rfl rfl (zb rfl) (za rfl rfl (zdO (r := .bool false) rfl rfl (eqq_74_neq _ _ _)) (zg rfl (zf (JD.keep [19] [(19, dB false)] rfl (zay _ rfl rfl rfl (zy rfl ?_))))))))))))))))))))))
    exact pd_end Try.results67 .nil rfl ⟨rfl, rfl⟩

set_option maxHeartbeats 4000000 in
set_option maxRecDepth 100000 in
theorem zcb (g : Nat) (p v : Value) (bs : List UInt8) (c : UInt8) (hp : p = .pointer none ∨ p = .pointer (some ⟨g, 0, none⟩)) (hl : bs.length ≤ 1000000000000) :
    CD Try.prog 52 [.bx g 77 (.agg [.v p, .ov v]), .sl v 1 5 (bs.map dU8)] [dP g 0, .v (.int .u8 ((c.toNat : Nat) : Int))] (fun r H' => ∃ v', r = .v .nilIface ∧ H' = [.bx g 77 (.agg [dP g 0, .ov v']), .sl v' 1 5 ((bs ++ [c]).map dU8)]) := by
  refine zM Try.func52 rfl (N := 17) rfl rfl (fun C => ?_)
  refine JD.keep [0, 1] [(0, dP g 0), (1, .v (.int .u8 ((c.toNat : Nat) : Int)))] rfl (zh _ _ rfl rfl rfl (zc rfl (za rfl rfl (ze rfl) (zg rfl (zf (zh _ _ rfl rfl rfl (zc rfl (za rfl rfl (zb rfl) (zl rfl rfl (zs [.bx g 77 (.agg [.v p, .ov v])] [.sl v 1 5 (bs.map dU8)] [] rfl rfl (.cons ArgC.id .nil) zo Try.call67 (copyCheck_c g p (.ov v) hp) (.inl rfl)) ?_)))))))))
  rintro _ _ ⟨_, ⟨rfl, rfl⟩, rfl⟩
  refine OpsD.norm [.bx g 77 (.agg [dP g 0, .ov v]), .sl v 1 5 (bs.map dU8)] rfl (zg rfl (zf (zh _ _ rfl rfl rfl (zc rfl (za rfl rfl (zb rfl) (za rfl rfl (zb rfl) (za rfl rfl (zal rfl) (za rfl rfl (zz rfl zbd rfl) (za rfl rfl (zR rfl (i := 0) rfl Try.isAgg75 rfl) (za rfl rfl (zb rfl) (zl rfl rfl (z6 [.tmp 12] rfl rfl (.cons (CellD.v rfl) .nil) rfl Try.runUnderlying75 Try.sizeOf5 Try.zeroValue5 rfl rfl rfl rfl) ?_)))))))))))
  rintro _ _ ⟨g1, rfl, rfl⟩
  refine zl rfl rfl (z4 (f := dU8) (l := bs) (l' := [c]) (i := 2) rfl rfl rfl (SrcD.own (j := 0) rfl rfl) zcp zcx rfl rfl (by unfold maxLen; (try simp only [la, lc, ln, lm, lt', ld, ls, lr]); omega) (by (try simp only [la, lc, ln, lm, lt', ld, ls, lr]); omega)) ?_
  rintro _ _ ⟨v2, rfl, rfl⟩
  refine OpsD.norm [.sl (vS g1 1 1) 1 5 ([.v (.int .u8 ((c.toNat : Nat) : Int))]), .bx g 77 (.agg [dP g 0, .ov v]), .sl v2 1 5 ((bs ++ [c]).map dU8)] rfl (za rfl rfl (zal rfl) (za rfl rfl (zz rfl zbd rfl) (zl rfl rfl (zab (i := 1) (X' := .agg [dP g 0, .ov v2]) rfl rfl rfl (CellD.o) Try.sizeOf75 rfl rfl rfl) ?_)))
  rintro _ _ ⟨rfl, rfl⟩
  refine OpsD.norm [.sl (vS g1 1 1) 1 5 ([.v (.int .u8 ((c.toNat : Nat) : Int))]), .bx g 77 (.agg [dP g 0, .ov v2]), .sl v2 1 5 ((bs ++ [c]).map dU8)] rfl (zg rfl (zf (JD.keep [4] [(4, .v .nilIface)] rfl (zh _ _ rfl rfl rfl (zc rfl (za rfl rfl (ze rfl) (zg rfl (zf (zA rfl (PD.subH (HSub.perm (zP (i := 2) rfl)) (PD.norm [.sl v2 1 5 ((bs ++ [c]).map dU8), .sl (vS g1 1 1) 1 5 ([.v (.int .u8 ((c.toNat : Nat) : Int))]), .bx g 77 (.agg [dP g 0, .ov v2])] rfl (PD.subH (HSub.perm (zP (i := 2) rfl)) (PD.norm [.bx g 77 (.agg [dP g 0, .ov v2]), .sl v2 1 5 ((bs ++ [c]).map dU8), .sl (vS g1 1 1) 1 5 ([.v (.int .u8 ((c.toNat : Nat) : Int))])] rfl ?_)))))))))))))
  exact zw Try.results52 (.cons (zr rfl) .nil) rfl (HSub.fst 2 rfl) ⟨v2, rfl, rfl⟩

set_option maxHeartbeats 4000000 in
set_option maxRecDepth 100000 in
theorem zbG (g : Nat) (p v : Value) (bs : List UInt8) (s : ByteArray) (hp : p = .pointer none ∨ p = .pointer (some ⟨g, 0, none⟩)) (hl : bs.length ≤ 1000000000000) (hs : s.size ≤ 1000000000000) :
    CD Try.prog 54 [.bx g 77 (.agg [.v p, .ov v]), .sl v 1 5 (bs.map dU8)] [dP g 0, .s s] (fun r H' => ∃ v', r = .tup [dI (s.size : Int), .v .nilIface] ∧ H' = [.bx g 77 (.agg [dP g 0, .ov v']), .sl v' 1 5 ((bs ++ s.data.toList).map dU8)]) := by
  refine zM Try.func54 rfl (N := 19) rfl rfl (fun C => ?_)
  refine JD.keep [0, 1] [(0, dP g 0), (1, .s s)] rfl ?_
  refine JD.bd 1 rfl (fun bd1 => ?_)
  have sz1 : s.size ≤ 9223372036854775807 := bd1
  refine zh _ _ rfl rfl rfl (zc rfl (za rfl rfl (ze rfl) (za rfl rfl (ze rfl) (zg rfl (zf (zh _ _ rfl rfl rfl (zc rfl (za rfl rfl (zb rfl) (zl rfl rfl (zs [.bx g 77 (.agg [.v p, .ov v])] [.sl v 1 5 (bs.map dU8)] [] rfl rfl (.cons ArgC.id .nil) zo Try.call67 (copyCheck_c g p (.ov v) hp) (.inl rfl)) ?_)))))))))
  rintro _ _ ⟨_, ⟨rfl, rfl⟩, rfl⟩
  refine OpsD.norm [.bx g 77 (.agg [dP g 0, .ov v]), .sl v 1 5 (bs.map dU8)] rfl (zg rfl (zf (zh _ _ rfl rfl rfl (zc rfl (za rfl rfl (zb rfl) (za rfl rfl (zb rfl) (za rfl rfl (zal rfl) (za rfl rfl (zz rfl zbd rfl) (za rfl rfl (zR rfl (i := 0) rfl Try.isAgg75 rfl) (za rfl rfl (zb rfl) (zl rfl rfl (ef_append_s (i := 1) (bs := bs) (s := s) rfl rfl rfl zcp (by kernel_rfl) zcx (by (try simp only [la, lc, ln]); omega)) ?_)))))))))))
  rintro _ _ ⟨v1, rfl, rfl⟩
  refine OpsD.norm [.bx g 77 (.agg [dP g 0, .ov v]), .sl v1 1 5 ((bs ++ s.data.toList).map dU8)] rfl (za rfl rfl (zal rfl) (za rfl rfl (zz rfl zbd rfl) (zl rfl rfl (zab (i := 0) (X' := .agg [dP g 0, .ov v1]) rfl rfl rfl (CellD.o) Try.sizeOf75 rfl rfl rfl) ?_)))
  rintro _ _ ⟨rfl, rfl⟩
  refine OpsD.norm [.bx g 77 (.agg [dP g 0, .ov v1]), .sl v1 1 5 ((bs ++ s.data.toList).map dU8)] rfl (zg rfl (zf (JD.keep [1, 4, 5] [(1, .s s), (4, dI 0), (5, .v .nilIface)] rfl (zh _ _ rfl rfl rfl (zc rfl (za rfl rfl (zb rfl) (za rfl rfl (zau rfl Try.runUnderlying9) (za rfl rfl (ze rfl) (za rfl rfl (ze rfl) (zg rfl (zf (zA rfl ?_))))))))))))
  exact zw Try.results54 (.cons (zr rfl) (.cons (zr rfl) .nil)) rfl (HSub.fst 2 rfl) ⟨v1, rfl, rfl⟩
end Lp
