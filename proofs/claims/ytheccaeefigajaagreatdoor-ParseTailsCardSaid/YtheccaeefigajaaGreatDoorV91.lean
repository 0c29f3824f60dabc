/- Walks, printed by a program of mine. -/
import Derived.Scope
import Derived.Laws.Runes
import Derived.Test.YtheccaeefigajaaGreatDoorPParse4
set_option linter.unusedSimpArgs false
set_option linter.unusedVariables false
set_option maxHeartbeats 4000000
set_option maxRecDepth 100000
namespace Lp
open Go Go.RowKit Go.Proofs

namespace HdYtheccaeefigajaaGreatDoorV90
theorem zbU : ∀ w, ((#[⟨"Kind", 3, 0, false, "", "", 0⟩, ⟨"At", 3, 1, false, "", "", 8⟩, ⟨"Text", 9, 2, false, "", "", 16⟩] : Array Field).mapM fun f => do pure (f.offset, ← Go.sizeOf f.type) : Sem (Array (Nat × Nat))).run Tryz.prog w = .ok ([(0, 1), (1, 1), (2, 1)] : List (Nat × Nat)).toArray w := fun _ => by kernel_rfl
theorem zbt (b o : Nat) : ∀ w, (Instr.fieldAt 135 (.pointer (some ⟨b, o, none⟩)) 0).run Tryz.prog w = .ok (.pointer (some ⟨b, o + 0, none⟩)) w := fun _ => by kernel_rfl
theorem zct (b o : Nat) : ∀ w, (Instr.fieldAt 135 (.pointer (some ⟨b, o, none⟩)) 2).run Tryz.prog w = .ok (.pointer (some ⟨b, o + 2, none⟩)) w := fun _ => by kernel_rfl
theorem zcB (b o : Nat) : ∀ w, (Instr.fieldAt 72 (.pointer (some ⟨b, o, none⟩)) 0).run Tryz.prog w = .ok (.pointer (some ⟨b, o + 0, none⟩)) w := fun _ => by kernel_rfl
theorem fa_72_1 (b o : Nat) : ∀ w, (Instr.fieldAt 72 (.pointer (some ⟨b, o, none⟩)) 1).run Tryz.prog w = .ok (.pointer (some ⟨b, o + 1, none⟩)) w := fun _ => by kernel_rfl
theorem zQ (b o : Nat) : ∀ w, (Instr.fieldAt 72 (.pointer (some ⟨b, o, none⟩)) 2).run Tryz.prog w = .ok (.pointer (some ⟨b, o + 2, none⟩)) w := fun _ => by kernel_rfl
theorem infz_9 : ∃ i, Tryz.prog.info? 9 = some i ∧ i.zero = some (.string ByteArray.empty) ∧ i.size = 1 ∧ i.bytes = 16 := zbR (by kernel_rfl)
theorem und_23 : Tryz.prog.underlying 23 = some (.slice 9) := by kernel_rfl
end HdYtheccaeefigajaaGreatDoorV90
open HdYtheccaeefigajaaGreatDoorV90

abbrev RB (g : Nat) (s : Rd) : Hp := .bx g 72 (.agg [.sh 3 (s.l.map TokD.d), dI s.n, dB s.b])

/-- what a method hands back that reads a node -/
def NdR (g : Nat) (ev es : Value) (p : Nd × Rd) : D → List Hp → Prop := fun r H' => ∃ op text n mode names ms kids s', (Nd.mk op text n mode names ms kids, s') = p ∧ r = .agg [.s op, .s text, dI n, dI mode, .sh 1 (names.map D.s), .sh 3 (ms.map MatD.d), .sh 7 (Nd.ds kids)] ∧ H' = [RB g s', HPow, HErr ev, HSyn es]

theorem peek_c (g : Nat) (s : Rd) (hw : s.n + 2 * (s.l.length : Int) ≤ 3000000) (hn : 0 ≤ s.n) (hT : TOk s.l) :
    CD Tryz.prog 113 [.bx g 72 (.agg [.sh 3 (s.l.map TokD.d), dI s.n, dB s.b])] [dP g 0] (fun r H' => r = TokD.d s.pk ∧ H' = [RB g s]) := by
  refine zq Tryz.func113 rfl (N := 16) rfl rfl (fun C => ?_)
  refine jk [0] rfl (jT rfl (oE rfl (zx (zv := (.agg #[(.int .i64 0), (.int .i64 0), (.string ByteArray.empty)])) Tryz.zeroValue135 ⟨rfl, rfl, rfl, trivial⟩ (Cv.vagg (by decide))) ?_))
  rintro _ _ ⟨g1, rfl, rfl⟩
  refine oZ rfl (jS rfl (jT rfl (oR 2 rfl (oP rfl (zd rfl zcB rfl) (oP rfl (ze rfl (i := 1) rfl Tryz.isAgg67 rfl) (oP rfl (zaV (n := s.l.length) rfl Tryz.runUnderlying67 (by simp only [lm, lc, ln])) (oP rfl (zA rfl rfl rfl) (oZ rfl ?_))))))))
  refine jD rfl (fun hc2 => ?_) (fun hc2 => ?_)
  · skip
    refine jT rfl (oP rfl (zD [] [] (zv := (.agg #[(.int .i64 0), (.int .i64 0), (.string ByteArray.empty)])) rfl rfl (.nil) (Tryz.runUnderlying135) Tryz.zeroValue135 zbU ⟨rfl, rfl, rfl, trivial⟩ rfl) (oE rfl (zg (i := 0) (X' := .agg [dI 0, dI 0, .v (.string ByteArray.empty)]) rfl rfl rfl (CellD.agg) Tryz.sizeOf135 rfl rfl rfl) ?_))
    rintro _ _ ⟨rfl, rfl⟩
    refine on rfl (oZ rfl (zn rfl (zj (PD.subH (HSub.perm (zc (i := 1) rfl)) (pn rfl (pn rfl ?_))))))
    exact zi Tryz.results113 (.cons (zu (zN (X := .agg [dI 0, dI 0, .v (.string ByteArray.empty)]) (d := .agg [dI 0, dI 0, .v (.string ByteArray.empty)]) (i := 1) rfl rfl Tryz.isAgg135 Tryz.sizeOf135 rfl rfl) ((Cv.agg (.cons Cv.rfl' (.cons Cv.rfl' (.cons ((Cv.str (by first | decide | (unfold maxLen; omega)))) .nil)))).trans (Cv.eq (congrArg TokD.d (show (TokD.mk 0 0 ByteArray.empty) = s.pk from (pk_0 (by omega)).symm))))) .nil) rfl (HSub.fst 1 rfl) ⟨rfl, rfl⟩
  · skip
    refine zr rfl (zo (jT rfl (oR 2 rfl (oP rfl (zd rfl zcB rfl) (oP rfl (ze rfl (i := 1) rfl Tryz.isAgg67 rfl) ?_)))))
    obtain ⟨x1, hx1⟩ := zaq s.l 0 (by omega)
    refine oP rfl (zK (k := 0) rfl rfl Tryz.runUnderlying67 Tryz.sizeOf135 (by first | rfl | omega) (zan hx1)) (oP rfl (zbv (d := TokD.d x1) rfl Tryz.isAgg135 Tryz.sizeOf135 rfl rfl) (oE rfl (zg (i := 0) (X' := TokD.d x1) rfl rfl rfl (CellD.agg) Tryz.sizeOf135 rfl rfl rfl) ?_))
    rintro _ _ ⟨rfl, rfl⟩
    refine on rfl (oZ rfl (jk [2] rfl (zn rfl (PD.subH (HSub.perm (zc (i := 1) rfl)) (pn rfl (pn rfl ?_))))))
    exact zi Tryz.results113 (.cons (zu (zN (X := TokD.d x1) (d := TokD.d x1) (i := 1) rfl rfl Tryz.isAgg135 Tryz.sizeOf135 rfl rfl) ((Cv.rfl').trans (Cv.eq (congrArg TokD.d (show x1 = s.pk from (pk_x hx1).symm))))) .nil) rfl (HSub.fst 1 rfl) ⟨rfl, rfl⟩

theorem is_c (g : Nat) (s : Rd) (k : Int) (ts : List ByteArray) (hw : s.n + 2 * (s.l.length : Int) ≤ 3000000) (hn : 0 ≤ s.n) (hT : TOk s.l) :
    CD Tryz.prog 112 [.bx g 72 (.agg [.sh 3 (s.l.map TokD.d), dI s.n, dB s.b])] [dP g 0, dI k, .sh 1 (ts.map D.s)] (fun r H' => r = dB (s.is k ts) ∧ H' = [RB g s]) := by
  refine zq Tryz.func112 rfl (N := 20) rfl rfl (fun C => ?_)
  refine jk [0, 1, 2] rfl ?_
  refine JD.bd 2 rfl (fun bd2 => ?_)
  have nl2 := zbN bd2
  refine jT rfl (oR 1 rfl (oZ rfl (jT rfl (oR 1 rfl (oE rfl (zl [.bx g 72 (.agg [.sh 3 (s.l.map TokD.d), dI s.n, dB s.b])] [] [] rfl rfl (.cons ArgC.id .nil) zh Tryz.call113 (peek_c g s (by omega) (by omega) hT) (.inl rfl)) ?_)))))
  rintro _ _ ⟨_, ⟨rfl, rfl⟩, rfl⟩
  refine on rfl (oE rfl (zx (zv := (.agg #[(.int .i64 0), (.int .i64 0), (.string ByteArray.empty)])) Tryz.zeroValue135 ⟨rfl, rfl, rfl, trivial⟩ (Cv.vagg (by decide))) ?_)
  rintro _ _ ⟨g2, rfl, rfl⟩
  refine oE rfl (zg (i := 0) (X' := TokD.d s.pk) rfl rfl rfl (CellD.agg) Tryz.sizeOf135 rfl rfl rfl) ?_
  rintro _ _ ⟨rfl, rfl⟩
  refine on rfl (oZ rfl (jS rfl (jk [1, 2, 7] rfl ?_)))
  refine zT 6 ((decide (s.pk.k = k) && hasN ts s.pk.t)) [.bx g2 135 (TokD.d s.pk), .bx g 72 (.agg [.sh 3 (s.l.map TokD.d), dI s.n, dB s.b])] (fun _ hQ3 => ?_) ?_
  · skip
    by_cases hg4 : s.pk.k = k
    · skip
      refine zf rfl (oP rfl (zd rfl zbt rfl) (oP rfl (ze rfl (i := 0) rfl Tryz.isAgg3 rfl) (oR 1 rfl (oP rfl (zA rfl rfl (decide_eq_true hg4)) (oR 2 rfl (oG rfl (zd rfl zct rfl) (oG rfl (ze rfl (i := 0) rfl Tryz.isAgg9 rfl) (oV rfl rfl acs Tryz.call46 (containsS_c ts s.pk.t) (oR 2 rfl (zp rfl ?_))))))))))
      exact PD.sub ((6, dB (decide (s.pk.k = k) && hasN ts s.pk.t)) :: [(1, dI k), (2, .sh 1 (ts.map D.s)), (7, dP g2 0)]) ⟨sc rfl (Cv.eq (congrArg (fun b => D.v (.bool b)) (by first | (simp [hg4]; done) | (simp_all; done)))), sk rfl, sk rfl, sk rfl, trivial⟩ hQ3
    · skip
      refine zf rfl (oP rfl (zd rfl zbt rfl) (oP rfl (ze rfl (i := 0) rfl Tryz.isAgg3 rfl) (oR 1 rfl (oP rfl (zA rfl rfl (decide_eq_false hg4)) (oR 7 rfl (zp rfl ?_))))))
      exact PD.sub ((6, dB (decide (s.pk.k = k) && hasN ts s.pk.t)) :: [(1, dI k), (2, .sh 1 (ts.map D.s)), (7, dP g2 0)]) ⟨sc rfl (Cv.eq (congrArg (fun b => D.v (.bool b)) (by first | (simp [hg4]; done) | (simp_all; done)))), sk rfl, sk rfl, sk rfl, trivial⟩ hQ3
  · skip
    refine zo (zn rfl (PD.subH (HSub.perm (zc (i := 1) rfl)) (pn rfl (pn rfl ?_))))
    exact zi Tryz.results112 (.cons (zu (zm rfl) (Cv.eq (congrArg dB (show (decide (s.pk.k = k) && hasN ts s.pk.t) = s.is k ts from rfl)))) .nil) rfl (HSub.fst 1 rfl) ⟨rfl, rfl⟩

theorem zcK (g : Nat) (s : Rd) (k : Int) (ts : List ByteArray) (hw : s.n + 2 * (s.l.length : Int) ≤ 3000000) (hn : 0 ≤ s.n) (hT : TOk s.l) (hk : k ≠ 0) :
    CD Tryz.prog 40 [.bx g 72 (.agg [.sh 3 (s.l.map TokD.d), dI s.n, dB s.b])] [dP g 0, dI k, .sh 1 (ts.map D.s)] (fun r H' => ∃ t q s', (t, q, s') = s.take k ts ∧ r = .tup [.s t, dB q] ∧ H' = [RB g s']) := by
  refine zq Tryz.func40 rfl (N := 36) rfl rfl (fun C => ?_)
  refine jk [0, 1, 2] rfl ?_
  refine JD.bd 2 rfl (fun bd2 => ?_)
  have nl2 := zbN bd2
  refine jT rfl (oR 2 rfl (oZ rfl (jS rfl (jS rfl (jk [0, 1, 2, 6, 7] rfl ?_)))))
  refine zT 19 ((s.b || !((s.is k ts)))) [.bx g 72 (.agg [.sh 3 (s.l.map TokD.d), dI s.n, dB s.b])] (fun _ hQ2 => ?_) ?_
  · skip
    rcases Bool.eq_false_or_eq_true (s.b) with hg3 | hg3
    · skip
      refine zf rfl (oR 2 rfl (oP rfl (zd rfl zQ rfl) (oP rfl ((ze rfl (i := 0) rfl Tryz.isAgg4 rfl).cv (Cv.eq (congrArg (fun b => D.v (.bool b)) (hg3)))) (oR 7 rfl (zp rfl ?_)))))
      exact PD.sub ((19, dB (s.b || !((s.is k ts)))) :: [(0, dP g 0), (1, dI k), (2, .sh 1 (ts.map D.s)), (6, .v (.string ByteArray.empty)), (7, dB false)]) ⟨sc rfl (Cv.eq (congrArg (fun b => D.v (.bool b)) (by first | (simp [hg3]; done) | (simp_all; done)))), sk rfl, sk rfl, sk rfl, sk rfl, sk rfl, trivial⟩ hQ2
    · skip
      refine zf rfl (oR 2 rfl (oP rfl (zd rfl zQ rfl) (oP rfl ((ze rfl (i := 0) rfl Tryz.isAgg4 rfl).cv (Cv.eq (congrArg (fun b => D.v (.bool b)) (hg3)))) (oR 4 rfl (oF rfl (zl [.bx g 72 (.agg [.sh 3 (s.l.map TokD.d), dI s.n, dB s.b])] [] [] rfl rfl (.cons ArgC.id (.cons ArgC.id (.cons ArgC.id .nil))) zh Tryz.call112 (is_c g s k ts (by omega) (by omega) hT) (.inl rfl)) ?_)))))
      rintro _ _ ⟨_, ⟨rfl, rfl⟩, rfl⟩
      refine on rfl (oG rfl (zbc rfl) (oR 1 rfl (zp rfl ?_)))
      exact PD.sub ((19, dB (s.b || !((s.is k ts)))) :: [(0, dP g 0), (1, dI k), (2, .sh 1 (ts.map D.s)), (6, .v (.string ByteArray.empty)), (7, dB false)]) ⟨sc rfl (Cv.eq (congrArg (fun b => D.v (.bool b)) (by first | (simp [hg3]; done) | (simp_all; done)))), sk rfl, sk rfl, sk rfl, sk rfl, sk rfl, trivial⟩ hQ2
  · skip
    refine zo ?_
    refine jC rfl (fun hc5 => ?_) (fun hc5 => ?_)
    · simp only [bA, bB, bC, bD, bE, bF, bG, bH, bI, bJ] at hc5
      have hor : s.b = true ∨ s.is k ts = false := by simpa using hc5
      refine jT rfl (oR 2 rfl (oZ rfl (zn rfl (zj (pn rfl ?_)))))
      exact zi Tryz.results40 (.cons (zu (zm rfl) ((Cv.str (by first | decide | (unfold maxLen; omega))))) (.cons (zm rfl) .nil)) rfl (HSub.fst 1 rfl) ⟨_, _, ⟨s.l, s.n, s.b⟩, (take_no hor).symm, rfl, rfl⟩
    · simp only [bA, bB, bC, bD, bE, bF, bG, bH, bI, bJ] at hc5
      have hand : s.b = false ∧ s.is k ts = true := by simpa using hc5
      have hne := is_ne hk hand.2
      refine zr rfl (zo (jT rfl (oR 2 rfl (oP rfl (zd rfl zcB rfl) (oP rfl (ze rfl (i := 0) rfl Tryz.isAgg67 rfl) ?_)))))
      obtain ⟨x1, hx1⟩ := zaq s.l 0 (by omega)
      refine oP rfl (zK (k := 0) rfl rfl Tryz.runUnderlying67 Tryz.sizeOf135 (by first | rfl | omega) (zan hx1)) (oP rfl (zbv (d := TokD.d x1) rfl Tryz.isAgg135 Tryz.sizeOf135 rfl rfl) (oE rfl (zx (zv := (.agg #[(.int .i64 0), (.int .i64 0), (.string ByteArray.empty)])) Tryz.zeroValue135 ⟨rfl, rfl, rfl, trivial⟩ (Cv.vagg (by decide))) ?_))
      rintro _ _ ⟨g6, rfl, rfl⟩
      refine oE rfl (zg (i := 0) (X' := TokD.d x1) rfl rfl rfl (CellD.agg) Tryz.sizeOf135 rfl rfl rfl) ?_
      rintro _ _ ⟨rfl, rfl⟩
      refine on rfl (oZ rfl (jk [0, 6, 7, 8] rfl (jT rfl (oR 3 rfl (oP rfl (zd rfl zcB rfl) (oP rfl (ze rfl (i := 1) rfl Tryz.isAgg67 rfl) (oP rfl ((zdY (a := 1) (b := s.l.length) rfl rfl rfl (by first | rfl | (show _ = _; (try simp only [lm]); omega) | exact List.length_map _) (by first | rfl | (show _ = _; (try simp only [lm]); omega) | exact List.length_map _) Tryz.runUnderlying67 Tryz.sizeOf135 (by omega) (by simp only [lm]; omega)).cv (Cv.eq (by rw [← List.map_take, ← List.map_drop]))) (oR 1 rfl (oP rfl (zd rfl zcB rfl) (oE rfl (zg (i := 1) (X' := .agg [.sh 3 (((s.l.take s.l.length).drop 1).map TokD.d), dI s.n, dB s.b]) rfl rfl rfl (CellD.sh) Tryz.sizeOf67 rfl rfl rfl) ?_))))))))))
      rintro _ _ ⟨rfl, rfl⟩
      refine on rfl (oZ rfl (jk [6, 7, 8] rfl (jT rfl (oP rfl (zd rfl zct rfl) (oP rfl (ze rfl (i := 0) rfl Tryz.isAgg9 rfl) (oR 2 rfl (oZ rfl (zn rfl (PD.subH (HSub.perm (zc (i := 1) rfl)) (pn rfl (pn rfl ?_)))))))))))
      exact zi Tryz.results40 (.cons (zm rfl) (.cons (zm rfl) .nil)) rfl (HSub.fst 1 rfl) ⟨_, _, ⟨((s.l.take s.l.length).drop 1), s.n, s.b⟩, (take_ok hand.1 hand.2 hx1).symm, rfl, rfl⟩

theorem zep (g : Nat) (s : Rd) (k : Int) (hw : s.n + 2 * (s.l.length : Int) ≤ 3000000) (hn : 0 ≤ s.n) (hT : TOk s.l) (hk : k ≠ 0) :
    CD Tryz.prog 41 [.bx g 72 (.agg [.sh 3 (s.l.map TokD.d), dI s.n, dB s.b])] [dP g 0, dI k] (fun r H' => ∃ t s', (t, s') = s.any k ∧ r = .s t ∧ H' = [RB g s']) := by
  refine zq Tryz.func41 rfl (N := 31) rfl rfl (fun C => ?_)
  refine jk [0, 1] rfl (jT rfl (oR 1 rfl (oZ rfl (jT rfl (oR 1 rfl (oE rfl (zl [.bx g 72 (.agg [.sh 3 (s.l.map TokD.d), dI s.n, dB s.b])] [] [] rfl rfl (.cons ArgC.id .nil) zh Tryz.call113 (peek_c g s (by omega) (by omega) hT) (.inl rfl)) ?_))))))
  rintro _ _ ⟨_, ⟨rfl, rfl⟩, rfl⟩
  refine on rfl (oE rfl (zx (zv := (.agg #[(.int .i64 0), (.int .i64 0), (.string ByteArray.empty)])) Tryz.zeroValue135 ⟨rfl, rfl, rfl, trivial⟩ (Cv.vagg (by decide))) ?_)
  rintro _ _ ⟨g2, rfl, rfl⟩
  refine oE rfl (zg (i := 0) (X' := TokD.d s.pk) rfl rfl rfl (CellD.agg) Tryz.sizeOf135 rfl rfl rfl) ?_
  rintro _ _ ⟨rfl, rfl⟩
  refine on rfl (oZ rfl (jS rfl (jS rfl (jk [0, 1, 4, 5] rfl ?_))))
  refine zT 17 ((s.b || decide (s.pk.k ≠ k))) [.bx g2 135 (TokD.d s.pk), .bx g 72 (.agg [.sh 3 (s.l.map TokD.d), dI s.n, dB s.b])] (fun _ hQ3 => ?_) ?_
  · skip
    rcases Bool.eq_false_or_eq_true (s.b) with hg4 | hg4
    · skip
      refine zf rfl (oR 2 rfl (oP rfl (zd rfl zQ rfl) (oP rfl ((ze rfl (i := 1) rfl Tryz.isAgg4 rfl).cv (Cv.eq (congrArg (fun b => D.v (.bool b)) (hg4)))) (oR 6 rfl (zp rfl ?_)))))
      exact PD.sub ((17, dB (s.b || decide (s.pk.k ≠ k))) :: [(0, dP g 0), (1, dI k), (4, .v (.string ByteArray.empty)), (5, dP g2 0)]) ⟨sc rfl (Cv.eq (congrArg (fun b => D.v (.bool b)) (by first | (simp [hg4]; done) | (simp_all; done)))), sk rfl, sk rfl, sk rfl, sk rfl, trivial⟩ hQ3
    · skip
      refine zf rfl (oR 2 rfl (oP rfl (zd rfl zQ rfl) (oP rfl ((ze rfl (i := 1) rfl Tryz.isAgg4 rfl).cv (Cv.eq (congrArg (fun b => D.v (.bool b)) (hg4)))) (oR 1 rfl (oG rfl (zd rfl zbt rfl) (oG rfl (ze rfl (i := 0) rfl Tryz.isAgg3 rfl) (oR 1 rfl (oG rfl (zbC rfl rfl rfl) (oR 1 rfl (zp rfl ?_))))))))))
      exact PD.sub ((17, dB (s.b || decide (s.pk.k ≠ k))) :: [(0, dP g 0), (1, dI k), (4, .v (.string ByteArray.empty)), (5, dP g2 0)]) ⟨sc rfl (Cv.eq (congrArg (fun b => D.v (.bool b)) (by first | (simp [hg4]; done) | (simp_all; done)))), sk rfl, sk rfl, sk rfl, sk rfl, trivial⟩ hQ3
  · skip
    refine zo ?_
    refine jC rfl (fun hc5 => ?_) (fun hc5 => ?_)
    · simp only [bA, bB, bC, bD, bE, bF, bG, bH, bI, bJ] at hc5
      have hor : s.b = true ∨ s.pk.k ≠ k := by simpa using hc5
      refine jT rfl (oR 2 rfl (oP rfl (zd rfl zQ rfl) (oE rfl (zg (i := 1) (X' := .agg [.sh 3 (s.l.map TokD.d), dI s.n, dB true]) rfl rfl rfl (CellD.v rfl) Tryz.sizeOf4 rfl rfl rfl) ?_)))
      rintro _ _ ⟨rfl, rfl⟩
      refine on rfl (oZ rfl (jT rfl (oR 1 rfl (oZ rfl (zn rfl (zj (PD.subH (HSub.perm (zc (i := 1) rfl)) (pn rfl (pn rfl ?_)))))))))
      exact zi Tryz.results41 (.cons (zu (zm rfl) ((Cv.str (by first | decide | (unfold maxLen; omega))))) .nil) rfl (HSub.fst 1 rfl) ⟨_, ⟨s.l, s.n, true⟩, (any_no hor).symm, rfl, rfl⟩
    · simp only [bA, bB, bC, bD, bE, bF, bG, bH, bI, bJ] at hc5
      have hand : s.b = false ∧ s.pk.k = k := by simpa using hc5
      have hne := pk_len hk hand.2
      refine zr rfl (zo (jT rfl (oR 3 rfl (oP rfl (zd rfl zcB rfl) (oP rfl (ze rfl (i := 1) rfl Tryz.isAgg67 rfl) (oP rfl ((zdY (a := 1) (b := s.l.length) rfl rfl rfl (by first | rfl | (show _ = _; (try simp only [lm]); omega) | exact List.length_map _) (by first | rfl | (show _ = _; (try simp only [lm]); omega) | exact List.length_map _) Tryz.runUnderlying67 Tryz.sizeOf135 (by omega) (by simp only [lm]; omega)).cv (Cv.eq (by rw [← List.map_take, ← List.map_drop]))) (oR 1 rfl (oP rfl (zd rfl zcB rfl) (oE rfl (zg (i := 1) (X' := .agg [.sh 3 (((s.l.take s.l.length).drop 1).map TokD.d), dI s.n, dB s.b]) rfl rfl rfl (CellD.sh) Tryz.sizeOf67 rfl rfl rfl) ?_)))))))))
      rintro _ _ ⟨rfl, rfl⟩
      refine on rfl (oZ rfl (jk [4, 5] rfl (jT rfl (oP rfl (zd rfl zct rfl) (oP rfl (ze rfl (i := 0) rfl Tryz.isAgg9 rfl) (oR 1 rfl (oZ rfl (zn rfl (PD.subH (HSub.perm (zc (i := 1) rfl)) (pn rfl (pn rfl ?_)))))))))))
      exact zi Tryz.results41 (.cons (zm rfl) .nil) rfl (HSub.fst 1 rfl) ⟨_, ⟨((s.l.take s.l.length).drop 1), s.n, s.b⟩, (any_ok hand.1 hand.2).symm, rfl, rfl⟩

theorem zbM (g : Nat) (s : Rd) (t : ByteArray) (hw : s.n + 2 * (s.l.length : Int) ≤ 3000000) (hn : 0 ≤ s.n) (hT : TOk s.l) :
    CD Tryz.prog 200 [.bx g 72 (.agg [.sh 3 (s.l.map TokD.d), dI s.n, dB s.b])] [dP g 0, .s t] (fun r H' => ∃ s', s' = s.must t ∧ r = .tup [] ∧ H' = [RB g s']) := by
  refine zq Tryz.func200 rfl (N := 24) rfl rfl (fun C => ?_)
  refine jk [0, 1] rfl ?_
  refine JD.bd 1 rfl (fun bd1 => ?_)
  have sz1 : t.size ≤ 9223372036854775807 := bd1
  refine jT rfl (oR 2 rfl (oE rfl (Qu.ef (d := .sh 1 ([t].map D.s)) (zw [.tmp 8] rfl rfl (.cons CellD.s .nil) rfl Tryz.runUnderlying23 Tryz.sizeOf9 Tryz.zeroValue9 rfl rfl rfl rfl)) ?_))
  rintro _ _ ⟨rfl, rfl⟩
  refine oE rfl (zl [.bx g 72 (.agg [.sh 3 (s.l.map TokD.d), dI s.n, dB s.b])] [] [] rfl rfl (.cons ArgC.id (.cons ArgC.id (.cons ArgC.id .nil))) zh Tryz.call40 (zcK g s 5 [t] (by omega) (by omega) hT (by decide)) (.inl rfl)) ?_
  rintro _ _ ⟨_, ⟨t1, q1, s1, e1, rfl, rfl⟩, rfl⟩
  obtain ⟨ka1, kb1, kc1, hT1⟩ := (zcJ e1).out hT
  have kz1 := zcI e1 hT
  refine on rfl (oR 5 rfl (oZ rfl (jk [0, 5] rfl (jk [0, 5] rfl ?_))))
  refine zcy [(0, dP g 0), (5, dB q1)] [.bx g 72 (.agg [.sh 3 (s1.l.map TokD.d), dI s1.n, dB (s1.b || !q1)])] (fun _ hQ2 => ?_) ?_
  · skip
    rcases Bool.eq_false_or_eq_true (s1.b) with hg3 | hg3
    · skip
      refine zf rfl (oR 3 rfl (oP rfl (zd rfl zQ rfl) (oP rfl ((ze rfl (i := 0) rfl Tryz.isAgg4 rfl).cv (Cv.eq (congrArg (fun b => D.v (.bool b)) (hg3)))) (oR 5 rfl (oP rfl (zd rfl zQ rfl) (oE rfl (zg (i := 0) (X' := .agg [.sh 3 (s1.l.map TokD.d), dI s1.n, dB true]) rfl rfl rfl (CellD.v rfl) Tryz.sizeOf4 rfl rfl rfl) ?_))))))
      rintro _ _ ⟨rfl, rfl⟩
      refine on rfl (zp rfl (PD.norm [.bx g 72 (.agg [.sh 3 (s1.l.map TokD.d), dI s1.n, dB (s1.b || !q1)])] (by simp only [hg3, Bool.or_true, Bool.true_or, Bool.or_false, Bool.false_or, Bool.not_true, Bool.not_false] <;> rfl) ?_))
      exact PD.sub [(0, dP g 0), (5, dB q1)] (sa rfl) hQ2
    · skip
      refine zf rfl (oR 3 rfl (oP rfl (zd rfl zQ rfl) (oP rfl ((ze rfl (i := 0) rfl Tryz.isAgg4 rfl).cv (Cv.eq (congrArg (fun b => D.v (.bool b)) (hg3)))) (oR 2 rfl (oG rfl (zbc rfl) (oR 2 rfl (oP rfl (zd rfl zQ rfl) (oE rfl (zg (i := 0) (X' := .agg [.sh 3 (s1.l.map TokD.d), dI s1.n, dB (!q1)]) rfl rfl rfl (CellD.v rfl) Tryz.sizeOf4 rfl rfl rfl) ?_))))))))
      rintro _ _ ⟨rfl, rfl⟩
      refine on rfl (zp rfl (PD.norm [.bx g 72 (.agg [.sh 3 (s1.l.map TokD.d), dI s1.n, dB (s1.b || !q1)])] (by simp only [hg3, Bool.or_true, Bool.true_or, Bool.or_false, Bool.false_or, Bool.not_true, Bool.not_false] <;> rfl) ?_))
      exact PD.sub [(0, dP g 0), (5, dB q1)] (sa rfl) hQ2
  · skip
    refine pn rfl ?_
    exact pd_endH Tryz.results200 (.nil) rfl (HSub.fst 1 rfl) ⟨⟨s1.l, s1.n, (s1.b || !q1)⟩, must_of e1, rfl, rfl⟩

theorem zec (g : Nat) (s : Rd) (x0 x1 x2 x3 x4 x5 x6 : D) (hw : s.n + 2 * (s.l.length : Int) ≤ 3000000) (hn : 0 ≤ s.n) (hT : TOk s.l) :
    CD Tryz.prog 158 [.bx g 72 (.agg [.sh 3 (s.l.map TokD.d), dI s.n, dB s.b])] [dP g 0, .agg [x0, x1, x2, x3, x4, x5, x6]] (fun r H' => ∃ s', s' = s.node ∧ r = .agg [x0, x1, x2, x3, x4, x5, x6] ∧ H' = [RB g s']) := by
  refine zq Tryz.func158 rfl (N := 27) rfl rfl (fun C => ?_)
  refine jk [0, 1] rfl ?_
  refine JD.bd 1 rfl (fun bd1 => ?_)
  refine jT rfl (oE rfl (zbf rfl (CellD.agg)) ?_)
  rintro _ _ ⟨g1, rfl, rfl⟩
  refine oE rfl (zx (zv := (.agg #[(.string ByteArray.empty), (.string ByteArray.empty), (.int .i64 0), (.int .i64 0), (.slice none 0 0), (.slice none 0 0), (.slice none 0 0)])) Tryz.zeroValue27 ⟨rfl, rfl, rfl, rfl, rfl, rfl, rfl, trivial⟩ (Cv.vagg (by decide))) ?_
  rintro _ _ ⟨g2, rfl, rfl⟩
  refine oZ rfl (jT rfl (oR 2 rfl (oP rfl (zd rfl fa_72_1 rfl) (oP rfl (ze rfl (i := 2) rfl Tryz.isAgg3 rfl) (oP rfl (zb1 (c := (s.n + 1)) rfl rfl (zaZ (by omega) (by omega))) (oR 1 rfl (oP rfl (zd rfl fa_72_1 rfl) (oE rfl (zg (i := 2) (X' := .agg [.sh 3 (s.l.map TokD.d), dI (s.n + 1), dB s.b]) rfl rfl rfl (CellD.v rfl) Tryz.sizeOf3 rfl rfl rfl) ?_))))))))
  rintro _ _ ⟨rfl, rfl⟩
  refine on rfl (oZ rfl (jS rfl (jk [0, 3, 4] rfl ?_)))
  refine zcy [(0, dP g 0), (3, dP g1 0), (4, dP g2 0)] [.bx g2 27 (.agg [.v (.string ByteArray.empty), .v (.string ByteArray.empty), dI 0, dI 0, dZ, dZ, dZ]), .bx g1 27 (.agg [x0, x1, x2, x3, x4, x5, x6]), .bx g 72 (.agg [.sh 3 (s.l.map TokD.d), dI (s.n + 1), dB (s.b || decide ((200 : Int) < (s.n + 1)))])] (fun _ hQ3 => ?_) ?_
  · skip
    rcases Bool.eq_false_or_eq_true (s.b) with hg4 | hg4
    · skip
      refine zf rfl (oR 3 rfl (oP rfl (zd rfl zQ rfl) (oP rfl ((ze rfl (i := 2) rfl Tryz.isAgg4 rfl).cv (Cv.eq (congrArg (fun b => D.v (.bool b)) (hg4)))) (oR 8 rfl (oP rfl (zd rfl zQ rfl) (oE rfl (zg (i := 2) (X' := .agg [.sh 3 (s.l.map TokD.d), dI (s.n + 1), dB true]) rfl rfl rfl (CellD.v rfl) Tryz.sizeOf4 rfl rfl rfl) ?_))))))
      rintro _ _ ⟨rfl, rfl⟩
      refine on rfl (zp rfl (PD.norm [.bx g2 27 (.agg [.v (.string ByteArray.empty), .v (.string ByteArray.empty), dI 0, dI 0, dZ, dZ, dZ]), .bx g1 27 (.agg [x0, x1, x2, x3, x4, x5, x6]), .bx g 72 (.agg [.sh 3 (s.l.map TokD.d), dI (s.n + 1), dB (s.b || decide ((200 : Int) < (s.n + 1)))])] (by simp only [hg4, Bool.or_true, Bool.true_or, Bool.or_false, Bool.false_or, Bool.not_true, Bool.not_false] <;> rfl) ?_))
      exact PD.sub [(0, dP g 0), (3, dP g1 0), (4, dP g2 0)] (sa rfl) hQ3
    · skip
      refine zf rfl (oR 3 rfl (oP rfl (zd rfl zQ rfl) (oP rfl ((ze rfl (i := 2) rfl Tryz.isAgg4 rfl).cv (Cv.eq (congrArg (fun b => D.v (.bool b)) (hg4)))) (oR 3 rfl (oG rfl (zd rfl fa_72_1 rfl) (oG rfl (ze rfl (i := 2) rfl Tryz.isAgg3 rfl) (oG rfl (zal rfl rfl rfl) (oR 2 rfl (oP rfl (zd rfl zQ rfl) (oE rfl (zg (i := 2) (X' := .agg [.sh 3 (s.l.map TokD.d), dI (s.n + 1), dB (decide ((200 : Int) < (s.n + 1)))]) rfl rfl rfl (CellD.v rfl) Tryz.sizeOf4 rfl rfl rfl) ?_))))))))))
      rintro _ _ ⟨rfl, rfl⟩
      refine on rfl (zp rfl (PD.norm [.bx g2 27 (.agg [.v (.string ByteArray.empty), .v (.string ByteArray.empty), dI 0, dI 0, dZ, dZ, dZ]), .bx g1 27 (.agg [x0, x1, x2, x3, x4, x5, x6]), .bx g 72 (.agg [.sh 3 (s.l.map TokD.d), dI (s.n + 1), dB (s.b || decide ((200 : Int) < (s.n + 1)))])] (by simp only [hg4, Bool.or_true, Bool.true_or, Bool.or_false, Bool.false_or, Bool.not_true, Bool.not_false] <;> rfl) ?_))
      exact PD.sub [(0, dP g 0), (3, dP g1 0), (4, dP g2 0)] (sa rfl) hQ3
  · skip
    refine zo (jT rfl (oP rfl (zy (d := .agg [x0, x1, x2, x3, x4, x5, x6]) rfl (i := 1) rfl Tryz.isAgg27 Tryz.sizeOf27 rfl rfl) (oE rfl (zg (i := 0) (X' := .agg [x0, x1, x2, x3, x4, x5, x6]) rfl rfl rfl (CellD.agg) Tryz.sizeOf27 rfl rfl rfl) ?_)))
    rintro _ _ ⟨rfl, rfl⟩
    refine on rfl (oZ rfl (zn rfl (PD.subH (HSub.perm (zc (i := 2) rfl)) (pn rfl (pn rfl ?_)))))
    exact zi Tryz.results158 (.cons (zN (i := 1) rfl rfl Tryz.isAgg27 Tryz.sizeOf27 rfl rfl) .nil) rfl (HSub.fst 1 rfl) ⟨⟨s.l, (s.n + 1), (s.b || decide ((200 : Int) < (s.n + 1)))⟩, rfl, rfl, rfl⟩

theorem rdnum_c (g : Nat) (s : Rd) (k : Int) (ev es : Value) (hev : EvOk ev) (hes : EvOk es) (hw : s.n + 2 * (s.l.length : Int) ≤ 3000000) (hn : 0 ≤ s.n) (hT : TOk s.l) (hk : k = 2 ∨ k = 4) :
    CD Tryz.prog 114 [.bx g 72 (.agg [.sh 3 (s.l.map TokD.d), dI s.n, dB s.b]), HPow, HErr ev, HSyn es] [dP g 0, dI k] (fun r H' => ∃ v s', (v, s') = s.number k ∧ r = dI v ∧ H' = [RB g s', HPow, HErr ev, HSyn es]) := by
  refine zq Tryz.func114 rfl (N := 15) rfl rfl (fun C => ?_)
  refine jk [0, 1] rfl ?_
  have hk0 : k ≠ 0 := by omega
  refine jT rfl (oR 1 rfl (oZ rfl (jT rfl (oR 2 rfl (oE rfl (zl [.bx g 72 (.agg [.sh 3 (s.l.map TokD.d), dI s.n, dB s.b])] [HPow, HErr ev, HSyn es] [] rfl rfl (.cons ArgC.id (.cons ArgC.id .nil)) zh Tryz.call41 (zep g s k (by omega) (by omega) hT hk0) (.inl rfl)) ?_)))))
  rintro _ _ ⟨_, ⟨t1, s1, e1, rfl, rfl⟩, rfl⟩
  obtain ⟨ka1, kb1, kc1, hT1⟩ := (zeo e1).out hT
  have kz1 := zen e1 hT
  refine on rfl (OpsD.subH (HSub.perm (zc (i := 3) rfl)) (on rfl (OpsD.subH (HSub.perm (zc (i := 3) rfl)) (on rfl (oE rfl (zl [HErr ev, HSyn es] [.bx g 72 (.agg [.sh 3 (s1.l.map TokD.d), dI s1.n, dB s1.b]), HPow] [] rfl rfl (.cons ArgC.id .nil) zh Tryz.call160 (atoi_e t1 ev es hev hes (any_num e1 hk hT)) (.inl rfl)) ?_)))))
  rintro _ _ ⟨_, ⟨ax, rfl, rfl⟩, rfl⟩
  refine on rfl (oR 5 rfl (oZ rfl (jk [4, 5] rfl (jT rfl (oR 2 rfl (oZ rfl (zn rfl (PD.subH (HSub.perm (zc (i := 1) rfl)) (pn rfl (PD.subH (HSub.perm (zc (i := 1) rfl)) (pn rfl (PD.subH (HSub.perm (zc (i := 3) rfl)) (pn rfl (PD.subH (HSub.perm (zc (i := 3) rfl)) (pn rfl (pn rfl ?_))))))))))))))))
  exact zi Tryz.results114 (.cons (zm rfl) .nil) rfl (HSub.fst 4 rfl) ⟨_, ⟨s1.l, s1.n, s1.b⟩, number_of e1, rfl, rfl⟩

theorem names_c (g : Nat) (s : Rd) (hw : s.n + 2 * (s.l.length : Int) ≤ 3000000) (hn : 0 ≤ s.n) (hT : TOk s.l) :
    CD Tryz.prog 180 [.bx g 72 (.agg [.sh 3 (s.l.map TokD.d), dI s.n, dB s.b])] [dP g 0] (fun r H' => ∃ l s', (l, s') = s.names ∧ r = .sh 1 (l.map D.s) ∧ H' = [RB g s']) := by
  refine zq Tryz.func180 rfl (N := 34) rfl rfl (fun C => ?_)
  refine jk [0] rfl (jT rfl (oR 1 rfl (oZ rfl (jT rfl (oR 1 rfl (oZ rfl (jT rfl (oR 1 rfl (oE rfl (zl [.bx g 72 (.agg [.sh 3 (s.l.map TokD.d), dI s.n, dB s.b])] [] [] rfl rfl (.cons ArgC.id (.cons (ArgC.cv (Cv.str (by first | decide | (unfold maxLen; omega)))) .nil)) zh Tryz.call200 (zbM g s (⟨#[40]⟩ : ByteArray) (by omega) (by omega) hT) (.inl rfl)) ?_)))))))))
  rintro _ _ ⟨_, ⟨s1, e1, rfl, rfl⟩, rfl⟩
  obtain ⟨ka1, kb1, kc1, hT1⟩ := (zbL e1).out hT
  refine on rfl (oZ rfl (jS rfl (jT rfl (oR 1 rfl (oE rfl (Qu.ef (d := .sh 1 ([(⟨#[41]⟩ : ByteArray)].map D.s)) ((zw [.const (.string (⟨#[41]⟩ : ByteArray))] rfl rfl (.cons (CellD.v rfl) .nil) rfl Tryz.runUnderlying23 Tryz.sizeOf9 Tryz.zeroValue9 rfl rfl rfl rfl).cv (Cv.shs (.cons (Cv.str (by first | decide | (unfold maxLen; omega))) .nil)))) ?_)))))
  rintro _ _ ⟨rfl, rfl⟩
  refine oE rfl (zl [.bx g 72 (.agg [.sh 3 (s1.l.map TokD.d), dI s1.n, dB s1.b])] [] [] rfl rfl (.cons ArgC.id (.cons ArgC.id (.cons ArgC.id .nil))) zh Tryz.call112 (is_c g s1 5 [(⟨#[41]⟩ : ByteArray)] (by omega) (by omega) hT1) (.inl rfl)) ?_
  rintro _ _ ⟨_, ⟨rfl, rfl⟩, rfl⟩
  refine on rfl (oZ rfl ?_)
  refine jC rfl (fun hc3 => ?_) (fun hc3 => ?_)
  · skip
    refine jT rfl (oR 1 rfl (oE rfl (zl [.bx g 72 (.agg [.sh 3 (s1.l.map TokD.d), dI s1.n, dB s1.b])] [] [] rfl rfl (.cons ArgC.id (.cons (ArgC.cv (Cv.str (by first | decide | (unfold maxLen; omega)))) .nil)) zh Tryz.call200 (zbM g s1 (⟨#[41]⟩ : ByteArray) (by omega) (by omega) hT1) (.inl rfl)) ?_))
    rintro _ _ ⟨_, ⟨s4, e4, rfl, rfl⟩, rfl⟩
    obtain ⟨ka4, kb4, kc4, hT4⟩ := (zbL e4).out hT1
    refine on rfl (oZ rfl (jT rfl (oR 1 rfl (oZ rfl (zn rfl (zj (pn rfl ?_)))))))
    exact zi Tryz.results180 (.cons (zu (zm rfl) (Cv.nil)) .nil) rfl (HSub.fst 1 rfl) ⟨[], ⟨s4.l, s4.n, s4.b⟩, names_0 e1 hc3 e4, rfl, rfl⟩
  · skip
    refine zr rfl (zo (jS rfl (jB rfl (jl4 (fun (a_ : Nat) (b_ : Rd) (c_ : Value) (d_ : List ByteArray) => [(0, dP g 0), (2, dZ), (3, .ov c_)]) (fun a_ b_ c_ d_ => [.sl c_ 1 9 (d_.map D.s), .bx g 72 (.agg [.sh 3 (b_.l.map TokD.d), dI b_.n, dB b_.b])]) (fun a_ b_ c_ d_ => (b_.l.length < a_) ∧ (namesF a_ d_ b_ = namesF (s1.l.length + 1) [] s1) ∧ (b_.n + 2 * (b_.l.length : Int) ≤ 3000000) ∧ (0 ≤ b_.n) ∧ (TOk b_.l) ∧ (d_.length + b_.l.length ≤ 1500000)) (fun a_ b_ c_ d_ => a_) (s1.l.length + 1) s1 (.slice none 0 0) [] rfl ⟨sk rfl, sk rfl, sc rfl (Cv.ov rfl), trivial⟩ (HSub.nil 1 9) ⟨Nat.lt_succ_self _, rfl, (by omega), (by omega), hT1, (by show 0 + s1.l.length ≤ _; omega)⟩ ?_))))
    rintro f z ov o ⟨hlf, hf, hzw, hzn, hz, hol⟩
    refine ja rfl (jn rfl ?_)
    obtain ⟨f, rfl⟩ : ∃ k, f = k + 1 := ⟨f - 1, by omega⟩
    refine jS rfl (jT rfl (oR 2 rfl (oP rfl (zd rfl zQ rfl) (oP rfl (ze rfl (i := 1) rfl Tryz.isAgg4 rfl) (oP rfl (zbc rfl) (oZ rfl ?_))))))
    refine jC rfl (fun hc5 => ?_) (fun hc5 => ?_)
    · simp only [bA, bB, bC, bD, bE, bF, bG, bH, bI, bJ] at hc5
      have hbf : z.b = false := by simpa using hc5
      refine zr rfl (zo (jB rfl (jT rfl (oR 2 rfl (OpsD.subH (HSub.perm (zc (i := 1) rfl)) (on rfl (oE rfl (zl [.bx g 72 (.agg [.sh 3 (z.l.map TokD.d), dI z.n, dB z.b])] [.sl ov 1 9 (o.map D.s)] [] rfl rfl (.cons ArgC.id (.cons ArgC.id .nil)) zh Tryz.call41 (zep g z 1 (by omega) (by omega) hz (by decide)) (.inl rfl)) ?_)))))))
      rintro _ _ ⟨_, ⟨t6, s6, e6, rfl, rfl⟩, rfl⟩
      obtain ⟨ka6, kb6, kc6, hT6⟩ := (zeo e6).out hz
      have kz6 := zen e6 hz
      refine on rfl (oE rfl (Qu.ef (d := .sh 1 ([t6].map D.s)) (zw [.tmp 20] rfl rfl (.cons CellD.s .nil) rfl Tryz.runUnderlying23 Tryz.sizeOf9 Tryz.zeroValue9 rfl rfl rfl rfl)) ?_)
      rintro _ _ ⟨rfl, rfl⟩
      refine oE rfl (zO (f := D.s) (l := o) (l' := [t6]) (i := 1) rfl rfl rfl (SrcD.sh) und_23 infz_9 rfl rfl (by unfold maxLen; (try simp only [la, lc, ln, lm, lt', ld, ls, lr]); omega) (by (try simp only [la, lc, ln, lm, lt', ld, ls, lr]); omega)) ?_
      rintro _ _ ⟨v7, rfl, rfl⟩
      refine on rfl (oR 1 rfl (oZ rfl (jT rfl (oR 1 rfl (oE rfl (Qu.ef (d := .sh 1 ([(⟨#[44]⟩ : ByteArray)].map D.s)) ((zw [.const (.string (⟨#[44]⟩ : ByteArray))] rfl rfl (.cons (CellD.v rfl) .nil) rfl Tryz.runUnderlying23 Tryz.sizeOf9 Tryz.zeroValue9 rfl rfl rfl rfl).cv (Cv.shs (.cons (Cv.str (by first | decide | (unfold maxLen; omega))) .nil)))) ?_)))))
      rintro _ _ ⟨rfl, rfl⟩
      refine oE rfl (zl [.bx g 72 (.agg [.sh 3 (s6.l.map TokD.d), dI s6.n, dB s6.b])] [.sl v7 1 9 ((o ++ [t6]).map D.s)] [] rfl rfl (.cons ArgC.id (.cons ArgC.id (.cons ArgC.id .nil))) zh Tryz.call40 (zcK g s6 5 [(⟨#[44]⟩ : ByteArray)] (by omega) (by omega) hT6 (by decide)) (.inl rfl)) ?_
      rintro _ _ ⟨_, ⟨t8, q8, s8, e8, rfl, rfl⟩, rfl⟩
      obtain ⟨ka8, kb8, kc8, hT8⟩ := (zcJ e8).out hT6
      have kz8 := zcI e8 hT6
      refine on rfl (oR 5 rfl (oZ rfl (jT rfl (oR 1 rfl (oP rfl (zbc rfl) (oZ rfl ?_))))))
      refine jC rfl (fun hc9 => ?_) (fun hc9 => ?_)
      · simp only [bA, bB, bC, bD, bE, bF, bG, bH, bI, bJ] at hc9
        have hff := hf.symm.trans (names_end hbf e6 e8 (by simpa using hc9))
        refine zah rfl (pd_block_exit_far rfl (zE (zC (zo (jk [0, 2, 3] rfl (jT rfl (oR 1 rfl (oE rfl (zl [.bx g 72 (.agg [.sh 3 (s8.l.map TokD.d), dI s8.n, dB s8.b])] [.sl v7 1 9 ((o ++ [t6]).map D.s)] [] rfl rfl (.cons ArgC.id (.cons (ArgC.cv (Cv.str (by first | decide | (unfold maxLen; omega)))) .nil)) zh Tryz.call200 (zbM g s8 (⟨#[41]⟩ : ByteArray) (by omega) (by omega) hT8) (.inl rfl)) ?_))))))))
        rintro _ _ ⟨_, ⟨s10, e10, rfl, rfl⟩, rfl⟩
        obtain ⟨ka10, kb10, kc10, hT10⟩ := (zbL e10).out hT8
        refine on rfl (oZ rfl (jT rfl (oR 2 rfl (oZ rfl (zn rfl (PD.subH (HSub.perm (zc (i := 1) rfl)) (pn rfl (zbb (Mv.freeze (K' := [(0, dP g 0), (2, .sh 1 ((o ++ [t6]).map D.s)), (3, .sh 1 ((o ++ [t6]).map D.s)), (31, dP g 0), (32, .tup []), (33, .sh 1 ((o ++ [t6]).map D.s))]) [.sl v7 1 9 ((o ++ [t6]).map D.s)] (H1 := [.bx g 72 (.agg [.sh 3 (s10.l.map TokD.d), dI s10.n, dB s10.b])]) (H1' := [.bx g 72 (.agg [.sh 3 (s10.l.map TokD.d), dI s10.n, dB s10.b])]) ⟨⟨_, rfl, ArgC.id⟩, ⟨_, rfl, ArgC.own (j := 0) rfl rfl⟩, ⟨_, rfl, ArgC.own (j := 0) rfl rfl⟩, ⟨_, rfl, ArgC.id⟩, ⟨_, rfl, ArgC.id⟩, ⟨_, rfl, ArgC.own (j := 0) rfl rfl⟩, trivial⟩ (.same .nil)) (pn rfl ?_)))))))))
        exact zi Tryz.results180 (.cons (zm rfl) .nil) rfl (HSub.fst 1 rfl) ⟨(o ++ [t6]), ⟨s10.l, s10.n, s10.b⟩, names_1 e1 (by simpa using hc3) hff e10, rfl, rfl⟩
      · simp only [bA, bB, bC, bD, bE, bF, bG, bH, bI, bJ] at hc9
        obtain ⟨ky, _⟩ := take_y e8 (by decide) (by simpa using hc9)
        refine zr rfl (zB (PD.subH (HSub.perm (zc (i := 1) rfl)) (pn rfl (pn rfl ?_))))
        exact pl4 f s8 v7 (o ++ [t6]) (sa rfl) HSub.rfl' ⟨by omega, (names_go hbf e6 e8 (by simpa using hc9)).symm.trans hf, by omega, by omega, hT8, by simp only [la, List.length_singleton]; omega⟩ (by omega)
    · simp only [bA, bB, bC, bD, bE, bF, bG, bH, bI, bJ] at hc5
      have hff := hf.symm.trans (names_bad (by simpa using hc5))
      refine zah rfl (zH (zE (zC (zo (jT rfl (oR 1 rfl (OpsD.subH (HSub.perm (zc (i := 1) rfl)) (on rfl (oE rfl (zl [.bx g 72 (.agg [.sh 3 (z.l.map TokD.d), dI z.n, dB z.b])] [.sl ov 1 9 (o.map D.s)] [] rfl rfl (.cons ArgC.id (.cons (ArgC.cv (Cv.str (by first | decide | (unfold maxLen; omega)))) .nil)) zh Tryz.call200 (zbM g z (⟨#[41]⟩ : ByteArray) (by omega) (by omega) hz) (.inl rfl)) ?_)))))))))
      rintro _ _ ⟨_, ⟨s11, e11, rfl, rfl⟩, rfl⟩
      obtain ⟨ka11, kb11, kc11, hT11⟩ := (zbL e11).out hz
      refine on rfl (oZ rfl (jT rfl (oR 2 rfl (oZ rfl (jk [2] rfl (zn rfl (PD.subH (HSub.perm (zc (i := 1) rfl)) (pn rfl (zbb (Mv.freeze (K' := [(2, .sh 1 (o.map D.s))]) [.sl ov 1 9 (o.map D.s)] (H1 := [.bx g 72 (.agg [.sh 3 (s11.l.map TokD.d), dI s11.n, dB s11.b])]) (H1' := [.bx g 72 (.agg [.sh 3 (s11.l.map TokD.d), dI s11.n, dB s11.b])]) ⟨⟨_, rfl, ArgC.own (j := 0) rfl rfl⟩, trivial⟩ (.same .nil)) (pn rfl ?_))))))))))
      exact zi Tryz.results180 (.cons (zm rfl) .nil) rfl (HSub.fst 1 rfl) ⟨o, ⟨s11.l, s11.n, s11.b⟩, names_1 e1 (by simpa using hc3) hff e11, rfl, rfl⟩

theorem mode_c (g : Nat) (s : Rd) (a b : ByteArray) (hw : s.n + 2 * (s.l.length : Int) ≤ 3000000) (hn : 0 ≤ s.n) (hT : TOk s.l) :
    CD Tryz.prog 157 [.bx g 72 (.agg [.sh 3 (s.l.map TokD.d), dI s.n, dB s.b])] [dP g 0, .s a, .s b] (fun r H' => ∃ m l s', (m, l, s') = s.mode a b ∧ r = .tup [dI m, .sh 1 (l.map D.s)] ∧ H' = [RB g s']) := by
  refine zq Tryz.func157 rfl (N := 29) rfl rfl (fun C => ?_)
  refine jk [0, 1, 2] rfl ?_
  refine JD.bd 1 rfl (fun bd1 => ?_)
  have sz1 : a.size ≤ 9223372036854775807 := bd1
  refine JD.bd 2 rfl (fun bd2 => ?_)
  have sz2 : b.size ≤ 9223372036854775807 := bd2
  refine jT rfl (oR 2 rfl (oZ rfl (jT rfl (oR 3 rfl (oE rfl (Qu.ef (d := .sh 1 ([a, b].map D.s)) (zw [.tmp 12, .tmp 13] rfl rfl (.cons CellD.s (.cons CellD.s .nil)) rfl Tryz.runUnderlying23 Tryz.sizeOf9 Tryz.zeroValue9 rfl rfl rfl rfl)) ?_)))))
  rintro _ _ ⟨rfl, rfl⟩
  refine oE rfl (zl [.bx g 72 (.agg [.sh 3 (s.l.map TokD.d), dI s.n, dB s.b])] [] [] rfl rfl (.cons ArgC.id (.cons ArgC.id (.cons ArgC.id .nil))) zh Tryz.call40 (zcK g s 1 [a, b] (by omega) (by omega) hT (by decide)) (.inl rfl)) ?_
  rintro _ _ ⟨_, ⟨t1, q1, s1, e1, rfl, rfl⟩, rfl⟩
  obtain ⟨ka1, kb1, kc1, hT1⟩ := (zcJ e1).out hT
  have kz1 := zcI e1 hT
  refine on rfl (oR 5 rfl (oZ rfl (jk [0, 1, 6, 7, 8, 9] rfl (jS rfl (jB rfl (jT rfl (oR 1 rfl (oP rfl (zbc rfl) (oR 1 rfl (oZ rfl ?_))))))))))
  refine jC rfl (fun hc2 => ?_) (fun hc2 => ?_)
  · simp only [bA, bB, bC, bD, bE, bF, bG, bH, bI, bJ] at hc2
    refine jT rfl (oR 2 rfl (oZ rfl (zn rfl (zk (zj (pn rfl ?_))))))
    exact zi Tryz.results157 (.cons (zm rfl) (.cons (zu (zm rfl) (Cv.nil)) .nil)) rfl (HSub.fst 1 rfl) ⟨0, [], ⟨s1.l, s1.n, s1.b⟩, mode_0 e1 (by simpa using hc2), rfl, rfl⟩
  · simp only [bA, bB, bC, bD, bE, bF, bG, bH, bI, bJ] at hc2
    refine jT rfl (oR 2 rfl (oP rfl (zat rfl rfl rfl) (oR 1 rfl (oZ rfl (jk [0, 6, 7, 21] rfl ?_)))))
    refine jD rfl (fun hc3 => ?_) (fun hc3 => ?_)
    · skip
      refine jT rfl (oR 1 rfl (oE rfl (zl [.bx g 72 (.agg [.sh 3 (s1.l.map TokD.d), dI s1.n, dB s1.b])] [] [] rfl rfl (.cons ArgC.id .nil) zh Tryz.call180 (names_c g s1 (by omega) (by omega) hT1) (.inl rfl)) ?_))
      rintro _ _ ⟨_, ⟨l4, s4, e4, rfl, rfl⟩, rfl⟩
      obtain ⟨ka4, kb4, kc4, hT4⟩ := (names_e e4).out hT1
      refine on rfl (oR 2 rfl (oZ rfl (zn rfl (zk (zj (pn rfl ?_))))))
      exact zi Tryz.results157 (.cons (zm rfl) (.cons (zm rfl) .nil)) rfl (HSub.fst 1 rfl) ⟨1, l4, ⟨s4.l, s4.n, s4.b⟩, mode_1 e1 (by simpa using hc2) hc3 e4, rfl, rfl⟩
    · skip
      refine zr rfl (zB (zo (jT rfl (oR 1 rfl (oE rfl (zl [.bx g 72 (.agg [.sh 3 (s1.l.map TokD.d), dI s1.n, dB s1.b])] [] [] rfl rfl (.cons ArgC.id .nil) zh Tryz.call180 (names_c g s1 (by omega) (by omega) hT1) (.inl rfl)) ?_)))))
      rintro _ _ ⟨_, ⟨l5, s5, e5, rfl, rfl⟩, rfl⟩
      obtain ⟨ka5, kb5, kc5, hT5⟩ := (names_e e5).out hT1
      refine on rfl (oR 2 rfl (oZ rfl (zn rfl (pn rfl ?_))))
      exact zi Tryz.results157 (.cons (zm rfl) (.cons (zm rfl) .nil)) rfl (HSub.fst 1 rfl) ⟨2, l5, ⟨s5.l, s5.n, s5.b⟩, mode_2 e1 (by simpa using hc2) hc3 e5, rfl, rfl⟩
end Lp
/-
  A zb8 of code with labels, of which none is gone to.
-/
set_option linter.unusedVariables false
namespace Lp
open Go Go.RowKit
def scopeOf : Code → Bool | .scope _ => true | _ => false
def qscope (Q : zaz) : zaz
  | .goto _, _, _, _ => False
  | e, ρ, w, F => Q e ρ w F
section
variable {P : Program} {N : Nat} {C : Ctx} {K : Kd} {H : List Hp} {Q : zaz} {c : Code} {p : List Bool}
theorem jd_scope (pa : List Bool) (hk : scopeOf (cd c p) = true) (ha : p ++ [false] = pa) (h : JD P N C (cd c pa) K H (qscope Q)) : JD P N C (cd c p) K H Q := by
  subst ha
  rw [zdV] at h
  cases hc : cd c p <;> rw [hc] at hk h <;> simp [scopeOf] at hk
  simp only [cd, zef] at h
  refine ⟨fun a w F ok hk g => wp_scope_straight (wp_mono (h.out a w F ok hk g) ?_)⟩
  rintro e a' w' ⟨ok', F', hq⟩
  cases e with
  | normal => exact ⟨ok', F', hq⟩
  | exit id => exact ⟨ok', F', hq⟩
  | goto l => exact hq.elim
  | ret => exact ⟨ok', F', hq⟩
  | panic ch => exact ⟨ok', F', hq⟩
  | outgrown => exact ⟨ok', F', hq⟩
theorem pd_scope_ret (h : PD C Q .ret K H) : PD C (qscope Q) .ret K H := ⟨h.out⟩
end
end Lp
/- Walks, printed by a program of mine. -/
set_option linter.unusedSimpArgs false
set_option linter.unusedVariables false
set_option maxHeartbeats 4000000
set_option maxRecDepth 100000
namespace Lp
open Go Go.RowKit Go.Proofs

namespace HdYtheccaeefigajaaGreatDoorV91
theorem cv_21_5 {a : Int} (h : 0 ≤ a ∧ a ≤ 255) : ∀ w, (convert 21 5 (.int .i32 a)).run Tryz.prog w = .ok (.int .u8 a) w := fun w => by
  have e : IntKind.u8.wrap a = a := by simp [IntKind.wrap, IntKind.bits, IntKind.signed]; omega
  simp [convert, run_underlying (show Tryz.prog.underlying 21 = some _ by kernel_rfl), run_underlying (show Tryz.prog.underlying 5 = some _ by kernel_rfl), Conv.intToInt, e]
end HdYtheccaeefigajaaGreatDoorV91
open HdYtheccaeefigajaaGreatDoorV91

abbrev tSig : ByteArray := ⟨#[42, 43, 63, 124, 41, 93]⟩
theorem ext_idxB (s : ByteArray) (u : Int) (w : World) : (callFunc 237 #[.string s, .int .u8 u]).run Tryz.prog w = .ok (.value (.int .i64 (firstIdx s u.toNat.toUInt8))) w := by
  rw [run_callFunc_extern Tryz.func237 (by kernel_rfl) (by kernel_rfl) (by kernel_rfl) (e := Extern.BytealgIndexByte.indexByte) (by kernel_rfl), run_indexByte_string]
  rfl
theorem p_idxB {ty : TypeId} {K : Kd} {H : List Hp} {x y : Operand} {ats : Array TypeId} {s : ByteArray} {u : Int} (hx : opS K x = some s) (hy : opD K y = some (.v (.int .u8 u))) : Pu Tryz.prog (.call { callee := .value (.func 237), args := #[x, y], argTypes := ats }) ty K H (dI (firstIdx s u.toNat.toUInt8)) :=
  ⟨fun ρ w F hk _ _ => e_ext (vs := [.string s, .int .u8 u]) (zz ρ [x, y]) (by rw [show (#[x, y] : Array Operand).toList = [x, y] from rfl, zcp ρ [x, y] [x, y] (fun _ h => h)]; have e : ev ρ y = _ := hk.op hy; simp [hk.opS hx, e]) (ext_idxB s u) ⟨rfl, rfl⟩⟩
theorem p_runeStr {ty : TypeId} {K : Kd} {H : List Hp} {x : Operand} {u : Int} (hx : opD K x = some (.v (.int .i32 u))) : Pu Tryz.prog (.convert 21 9 x) ty K H (.v (.string (Utf8.encode u))) :=
  ⟨fun ρ w F hk _ _ => by
    have e : ev ρ x = _ := hk.op hx
    refine EOp.of_run (v := .string (Utf8.encode u)) (w' := w) ?_ ⟨rfl, rfl⟩
    have := zbx (run_convert_int_string (P := Tryz.prog) w 21 9 .i32 u (by kernel_rfl) (by kernel_rfl))
    simpa [execOp, zak, e] using this⟩
theorem sig_any {u : Int} (h0 : 0 ≤ u) (h1 : u < 128) : decide (0 ≤ firstIdx tSig u.toNat.toUInt8) = sgnN.any (fun x => decide (x = u)) := by
  obtain ⟨n, rfl⟩ : ∃ n : Nat, u = n := ⟨u.toNat, by omega⟩
  have key : ∀ n : Nat, n < 128 → decide (0 ≤ firstIdx tSig (n : Int).toNat.toUInt8) = sgnN.any (fun x => decide (x = (n : Int))) := by decide +kernel
  exact key n (by omega)
theorem sig_no {u : Int} (h : ¬ (0 ≤ u ∧ u < 128)) : sgnN.any (fun x => decide (x = u)) = false := by
  show (decide (42 = u) || (decide (43 = u) || (decide (63 = u) || (decide (124 = u) || (decide (41 = u) || (decide (93 = u) || false)))))) = false
  simp only [Bool.or_false, Bool.or_eq_false_iff, decide_eq_false_iff_not]
  refine ⟨?_, ?_, ?_, ?_, ?_, ?_⟩ <;> omega
theorem sig_dec : ∀ p, p < 6 → ¬ (((decR tSig p : Nat) : Int) = 65533) := by decide +kernel
theorem sig_lt : ∀ b ∈ tSig.data.toList, b.toNat < 128 := by decide
theorem sig_at {i : Nat} {u : UInt8} (h : tSig[i]? = some u) : u.toNat < 128 := sig_lt u (by
  obtain ⟨hi, e⟩ := getElem?_eq_some_iff.1 h
  rw [← e]; exact Array.getElem_mem_toList (xs := tSig.data) hi)
theorem enc_last {u : Int} (hv : Utf8.valid u = true) (h : 128 ≤ u) {k : Nat} {b : UInt8} (hk : k + 1 = (Utf8.encode u).size) (hb : (Utf8.encode u)[k]? = some b) : 128 ≤ b.toNat := by
  obtain ⟨hi, e⟩ := getElem?_eq_some_iff.1 hb
  have h3 := (encode_facts u hv h).2.2
  rw [← e]
  have hk' : k = (Utf8.encode u).size - 1 := by omega
  subst hk'
  exact h3 hi
theorem p_slice_strC {P : Program} {ty : TypeId} {K : Kd} {H : List Hp} {t : TypeId} {a c : Nat} {x : Operand} {lo hi : Option Operand} {b : ByteArray} {rl rh : Option Int} (hx : opS K x = some b) (hm : b.size ≤ maxLen) (hlo : bndD K lo = some rl) (hhi : bndD K hi = some rh) (ha : Bnd rl 0 a) (hb : Bnd rh b.size c)
    (ht : ∀ w, (underlying t).run P w = .ok .string w) (hab : a ≤ c) (hbn : c ≤ b.size) : Pu P (.slice t x lo hi none) ty K H (.s (b.extract a c)) :=
  ⟨fun ρ w F hk hF _ => e_slice_str (zz ρ [x]) (opv1 ρ (hk.opS hx)) rfl rfl (ha.out (zdi hk hlo)) (hb.out (zdi hk hhi)) ht hab hbn ⟨rfl, rfl, Nat.le_trans (by rw [ByteArray.size_extract]; omega) hm⟩⟩

theorem idxB0_c (s : ByteArray) (c : Int)  :
    CD Tryz.prog 229 [] [.s s, .v (.int .u8 c)] (isR (dI (firstIdx s c.toNat.toUInt8))) := by
  refine zq Tryz.func229 rfl (N := 8) rfl rfl (fun C => ?_)
  refine jk [0, 1] rfl ?_
  refine JD.bd 0 rfl (fun bd0 => ?_)
  have sz0 : s.size ≤ 9223372036854775807 := bd0
  refine jT rfl (oR 1 rfl (oZ rfl (jT rfl (oR 2 rfl (oP rfl (p_idxB (s := s) (u := c) rfl rfl) (oR 1 rfl (oZ rfl (zn rfl ?_))))))))
  exact zi Tryz.results229 (.cons (zu (zm rfl) (Cv.eq (congrArg (fun n => D.v (.int .i64 n)) (by rfl)))) .nil) rfl HSub.none ⟨rfl, rfl⟩

theorem idxB_c (s : ByteArray) (c : Int)  :
    CD Tryz.prog 218 [] [.s s, .v (.int .u8 c)] (isR (dI (firstIdx s c.toNat.toUInt8))) := by
  refine zq Tryz.func218 rfl (N := 8) rfl rfl (fun C => ?_)
  refine jk [0, 1] rfl ?_
  refine JD.bd 0 rfl (fun bd0 => ?_)
  have sz0 : s.size ≤ 9223372036854775807 := bd0
  refine jT rfl (oR 1 rfl (oZ rfl (jT rfl (oR 2 rfl (oW rfl rfl acs Tryz.call229 (idxB0_c s c) (oR 1 rfl (oZ rfl (zn rfl ?_))))))))
  exact zi Tryz.results218 (.cons (zu (zm rfl) (Cv.eq (congrArg (fun n => D.v (.int .i64 n)) (by rfl)))) .nil) rfl HSub.none ⟨rfl, rfl⟩

theorem validR_c (u : Int)  :
    CD Tryz.prog 277 [] [.v (.int .i32 u)] (isR (dB (Utf8.valid u))) := by
  refine zq Tryz.func277 rfl (N := 17) rfl rfl (fun C => ?_)
  refine jk [0] rfl (jT rfl (oR 1 rfl (oZ rfl (jS rfl (jB rfl (jS rfl (jk [0, 2] rfl ?_)))))))
  refine zT 3 ((decide ((0 : Int) ≤ u) && decide (u < (55296 : Int)))) [] (fun _ hQ1 => ?_) ?_
  · skip
    by_cases hg2 : (0 : Int) ≤ u
    · skip
      refine zf rfl (oR 1 rfl (oP rfl (zbo rfl rfl (decide_eq_true hg2)) (oR 2 rfl (oG rfl (zaA rfl rfl rfl) (oR 2 rfl (zp rfl ?_))))))
      exact PD.sub ((3, dB (decide ((0 : Int) ≤ u) && decide (u < (55296 : Int)))) :: [(0, .v (.int .i32 u)), (2, dB false)]) ⟨sc rfl (Cv.eq (congrArg (fun b => D.v (.bool b)) (by first | (simp [hg2]; done) | (simp_all; done)))), sk rfl, sk rfl, trivial⟩ hQ1
    · skip
      refine zf rfl (oR 1 rfl (oP rfl (zbo rfl rfl (decide_eq_false hg2)) (oR 5 rfl (zp rfl ?_))))
      exact PD.sub ((3, dB (decide ((0 : Int) ≤ u) && decide (u < (55296 : Int)))) :: [(0, .v (.int .i32 u)), (2, dB false)]) ⟨sc rfl (Cv.eq (congrArg (fun b => D.v (.bool b)) (by first | (simp [hg2]; done) | (simp_all; done)))), sk rfl, sk rfl, trivial⟩ hQ1
  · skip
    refine zo ?_
    refine jC rfl (fun hc3 => ?_) (fun hc3 => ?_)
    · simp only [bA, bB, bC, bD, bE, bF, bG, bH, bI, bJ] at hc3
      refine jT rfl (oR 1 rfl (oZ rfl (zn rfl (zk (zj ?_)))))
      exact zi Tryz.results277 (.cons (zu (zm rfl) (Cv.eq (congrArg (fun b => D.v (.bool b)) (by rw [validRune_eq]; unfold validRune; simp only [eq_comm (a := true), eq_comm (a := false), decide_eq_true_eq, decide_eq_false_iff_not]; omega)))) .nil) rfl HSub.none ⟨rfl, rfl⟩
    · simp only [bA, bB, bC, bD, bE, bF, bG, bH, bI, bJ] at hc3
      refine jS rfl (jk [0, 2] rfl ?_)
      refine zT 10 ((decide ((57343 : Int) < u) && decide (u ≤ (1114111 : Int)))) [] (fun _ hQ4 => ?_) ?_
      · skip
        by_cases hg5 : (57343 : Int) < u
        · skip
          refine zf rfl (oR 1 rfl (oP rfl (zaA rfl rfl (decide_eq_true hg5)) (oR 2 rfl (oG rfl (zbo rfl rfl rfl) (oR 2 rfl (zp rfl ?_))))))
          exact PD.sub ((10, dB (decide ((57343 : Int) < u) && decide (u ≤ (1114111 : Int)))) :: [(0, .v (.int .i32 u)), (2, dB false)]) ⟨sc rfl (Cv.eq (congrArg (fun b => D.v (.bool b)) (by first | (simp [hg5]; done) | (simp_all; done)))), sk rfl, sk rfl, trivial⟩ hQ4
        · skip
          refine zf rfl (oR 1 rfl (oP rfl (zaA rfl rfl (decide_eq_false hg5)) (oR 5 rfl (zp rfl ?_))))
          exact PD.sub ((10, dB (decide ((57343 : Int) < u) && decide (u ≤ (1114111 : Int)))) :: [(0, .v (.int .i32 u)), (2, dB false)]) ⟨sc rfl (Cv.eq (congrArg (fun b => D.v (.bool b)) (by first | (simp [hg5]; done) | (simp_all; done)))), sk rfl, sk rfl, trivial⟩ hQ4
      · skip
        refine zo ?_
        refine jC rfl (fun hc6 => ?_) (fun hc6 => ?_)
        · simp only [bA, bB, bC, bD, bE, bF, bG, bH, bI, bJ] at hc6
          refine jT rfl (oR 1 rfl (oZ rfl (zn rfl (zk (zj ?_)))))
          exact zi Tryz.results277 (.cons (zu (zm rfl) (Cv.eq (congrArg (fun b => D.v (.bool b)) (by rw [validRune_eq]; unfold validRune; simp only [eq_comm (a := true), eq_comm (a := false), decide_eq_true_eq, decide_eq_false_iff_not]; omega)))) .nil) rfl HSub.none ⟨rfl, rfl⟩
        · simp only [bA, bB, bC, bD, bE, bF, bG, bH, bI, bJ] at hc6
          refine zr rfl (zB (zo (jT rfl (oR 1 rfl (oZ rfl (zn rfl ?_))))))
          exact zi Tryz.results277 (.cons (zu (zm rfl) (Cv.eq (congrArg (fun b => D.v (.bool b)) (by rw [validRune_eq]; unfold validRune; simp only [eq_comm (a := true), eq_comm (a := false), decide_eq_true_eq, decide_eq_false_iff_not]; omega)))) .nil) rfl HSub.none ⟨rfl, rfl⟩

theorem indexRune_c (u : Int) (h0 : 0 ≤ u) (h1 : u < 1114112) :
    CD Tryz.prog 276 [] [.v (.string (⟨#[42, 43, 63, 124, 41, 93]⟩ : ByteArray)), .v (.int .i32 u)] (fun r H' => (∃ i : Int, r = dI i ∧ decide (0 ≤ i) = sgnN.any (fun x => decide (x = u))) ∧ H' = []) := by
  refine zq Tryz.func276 rfl (N := 187) rfl rfl (fun C => ?_)
  refine jk [0, 1] rfl ?_
  have hz6 : tSig.size = 6 := rfl
  refine jT rfl (oR 1 rfl (oZ rfl (jB rfl (jS rfl (jk [0, 1, 4] rfl ?_)))))
  refine zT 160 ((decide ((0 : Int) ≤ u) && decide (u < (128 : Int)))) [] (fun _ hQ1 => ?_) ?_
  · skip
    by_cases hg2 : (0 : Int) ≤ u
    · skip
      refine zf rfl (oR 1 rfl (oP rfl (zbo rfl rfl (decide_eq_true hg2)) (oR 2 rfl (oG rfl (zaA rfl rfl rfl) (oR 2 rfl (zp rfl ?_))))))
      exact PD.sub ((160, dB (decide ((0 : Int) ≤ u) && decide (u < (128 : Int)))) :: [(0, .v (.string (⟨#[42, 43, 63, 124, 41, 93]⟩ : ByteArray))), (1, .v (.int .i32 u)), (4, dI 0)]) ⟨sc rfl (Cv.eq (congrArg (fun b => D.v (.bool b)) (by first | (simp [hg2]; done) | (simp_all; done)))), sk rfl, sk rfl, sk rfl, trivial⟩ hQ1
    · skip
      refine zf rfl (oR 1 rfl (oP rfl (zbo rfl rfl (decide_eq_false hg2)) (oR 5 rfl (zp rfl ?_))))
      exact PD.sub ((160, dB (decide ((0 : Int) ≤ u) && decide (u < (128 : Int)))) :: [(0, .v (.string (⟨#[42, 43, 63, 124, 41, 93]⟩ : ByteArray))), (1, .v (.int .i32 u)), (4, dI 0)]) ⟨sc rfl (Cv.eq (congrArg (fun b => D.v (.bool b)) (by first | (simp [hg2]; done) | (simp_all; done)))), sk rfl, sk rfl, sk rfl, trivial⟩ hQ1
  · skip
    refine zo ?_
    refine jC rfl (fun hc3 => ?_) (fun hc3 => ?_)
    · simp only [bA, bB, bC, bD, bE, bF, bG, bH, bI, bJ] at hc3
      have ha : 0 ≤ u ∧ u < 128 := by simpa using hc3
      refine jT rfl (oR 2 rfl (oP rfl (zaY rfl (c := u) (cv_21_5 (by omega))) (oW rfl rfl (.cons (ArgC.cv (Cv.str (by first | decide | (unfold maxLen; omega)))) (.cons ArgC.id .nil)) Tryz.call218 (idxB_c (⟨#[42, 43, 63, 124, 41, 93]⟩ : ByteArray) u) (oR 1 rfl (oZ rfl (zn rfl (zk ?_)))))))
      exact zi Tryz.results276 (.cons (zm rfl) .nil) rfl HSub.none ⟨⟨firstIdx (⟨#[42, 43, 63, 124, 41, 93]⟩ : ByteArray) (u).toNat.toUInt8, rfl, sig_any ha.1 ha.2⟩, rfl⟩
    · simp only [bA, bB, bC, bD, bE, bF, bG, bH, bI, bJ] at hc3
      have hna : ¬ (0 ≤ u ∧ u < 128) := by have h := hc3; omega
      refine jT rfl (oR 1 rfl (oP rfl (zA rfl rfl rfl) (oR 1 rfl (oZ rfl ?_))))
      refine jD rfl (fun hc4 => ?_) (fun hc4 => ?_)
      · skip
        refine jS rfl (jT rfl (oR 1 rfl (oE rfl (zdf rfl Tryz.runUnderlying9) ?_)))
        rintro _ _ ⟨g5, rfl, rfl⟩
        refine oZ rfl (jB rfl (jl1 (fun (a_ : Nat) => [(175, dP g5 0)]) (fun a_ => [.it g5 (⟨#[42, 43, 63, 124, 41, 93]⟩ : ByteArray) a_]) (fun a_ => (a_ ≤ (⟨#[42, 43, 63, 124, 41, 93]⟩ : ByteArray).size)) (fun a_ => (⟨#[42, 43, 63, 124, 41, 93]⟩ : ByteArray).size - a_) 0 rfl (sa rfl) HSub.rfl' (Nat.zero_le _) ?_))
        rintro p hp
        refine ja rfl (jn rfl ?_)
        rcases Nat.lt_or_ge p (⟨#[42, 43, 63, 124, 41, 93]⟩ : ByteArray).size with hlt | hge
        · skip
          have hrune := zaK hlt
          have hrl := zcC (⟨#[42, 43, 63, 124, 41, 93]⟩ : ByteArray) p
          have hdw := zaJ (⟨#[42, 43, 63, 124, 41, 93]⟩ : ByteArray) p hlt
          have hdp := zS (⟨#[42, 43, 63, 124, 41, 93]⟩ : ByteArray) p
          refine jT rfl (oE rfl (zcH (i := 0) rfl rfl hlt) ?_)
          rintro _ _ ⟨rfl, rfl⟩
          refine on rfl (oR 1 rfl (oZ rfl (jS rfl (jCt rfl (zr rfl (zo (jB rfl (jT rfl (oR 4 rfl (oZ rfl (jT rfl (oR 1 rfl (oP rfl (zA rfl rfl rfl) (oZ rfl ?_))))))))))))))
          refine jD rfl (fun hc6 => ?_) (fun hc6 => ?_)
          · skip
            exfalso; exact sig_dec p (show p < 6 from hlt) hc6
          · skip
            refine zr rfl (zB ?_)
            exact pl1 (p + decW (⟨#[42, 43, 63, 124, 41, 93]⟩ : ByteArray) p) (sa rfl) HSub.rfl' (by have := zaJ (⟨#[42, 43, 63, 124, 41, 93]⟩ : ByteArray) p hlt; omega) (by have := zS (⟨#[42, 43, 63, 124, 41, 93]⟩ : ByteArray) p; omega)
        · skip
          have hrune := za5 hge
          refine jT rfl (oP rfl (zc5 (i := 0) rfl rfl hge) (oR 1 rfl (oZ rfl (jS rfl (jCf rfl (zah rfl (zH (zE (zC (zo (jT rfl (oR 1 rfl (oZ rfl (zn rfl (zk ?_)))))))))))))))
          exact zi Tryz.results276 (.cons (zm rfl) .nil) rfl HSub.none ⟨⟨(-1), rfl, (sig_no hna).symm⟩, rfl⟩
      · skip
        refine jT rfl (oR 1 rfl (oW rfl rfl acs Tryz.call277 (validR_c u) (oP rfl (zbc rfl) (oR 1 rfl (oZ rfl ?_)))))
        refine jC rfl (fun hc7 => ?_) (fun hc7 => ?_)
        · simp only [bA, bB, bC, bD, bE, bF, bG, bH, bI, bJ] at hc7
          refine jT rfl (oR 1 rfl (oZ rfl (jk [4] rfl (zn rfl (zk ?_)))))
          exact zi Tryz.results276 (.cons (zm rfl) .nil) rfl HSub.none ⟨⟨(-1), rfl, (sig_no hna).symm⟩, rfl⟩
        · simp only [bA, bB, bC, bD, bE, bF, bG, bH, bI, bJ] at hc7
          have hval : Utf8.valid u = true := by simpa using hc7
          refine jd_scope _ rfl rfl (jT rfl (oR 1 rfl ?_))
          obtain ⟨en1, en2, _⟩ := encode_facts u hval (by omega)
          refine oP rfl ((p_runeStr rfl).cv (Cv.str (by unfold maxLen; omega))) (oR 1 rfl (oZ rfl (jk [0, 1, 4, 7] rfl (jT rfl (oR 1 rfl (oP rfl (zR rfl Tryz.runUnderlying9) (oP rfl (zet (c := ((((Utf8.encode u).size) - 1 : Nat) : Int)) rfl rfl (zaZ (by omega) (by omega))) (oR 1 rfl (oZ rfl (jT rfl (oR 2 rfl (oZ rfl (jT rfl (oR 1 rfl (oZ rfl (jS rfl (jB rfl (jl1 (fun (_ : Unit) => [(0, .v (.string (⟨#[42, 43, 63, 124, 41, 93]⟩ : ByteArray))), (1, .v (.int .i32 u)), (7, .s (Utf8.encode u)), (8, dN (((Utf8.encode u).size) - 1)), (9, dN (((Utf8.encode u).size) - 1)), (10, dI 0)]) (fun _ => []) (fun _ => True) (fun _ => 0) () rfl (sa rfl) HSub.rfl' trivial ?_))))))))))))))))))
          rintro _ _
          refine ja rfl (jn rfl (jS rfl (jT rfl (oR 2 rfl (oP rfl (zR rfl Tryz.runUnderlying9) (oP rfl (zaA rfl rfl rfl) (oZ rfl ?_)))))))
          refine jD rfl (fun hc8 => ?_) (fun hc8 => ?_)
          · skip
            refine zr rfl (zo (jB rfl (jd_scope _ rfl rfl (jS rfl (jS rfl ?_)))))
            obtain ⟨u1, hu1⟩ := zb3 tSig (((Utf8.encode u).size) - 1) (by show _ < 6; omega)
            have hl1 := sig_at hu1
            obtain ⟨u2, hu2⟩ := zb3 (Utf8.encode u) (((Utf8.encode u).size) - 1) (by omega)
            have hl2 := enc_last hval (by omega) (by omega) hu2
            have hl3 := u2.toNat_lt
            have hne : ((u1.toNat : Nat) : Int) ≠ ((u2.toNat : Nat) : Int) := by omega
            refine jk [0, 1, 7, 8, 9, 10, 23, 24, 25, 26] rfl (jn rfl (zch 6 [(27, .v (.string (⟨#[42, 43, 63, 124, 41, 93]⟩ : ByteArray)), none), (28, dN (((Utf8.encode u).size) - 1), none), (29, .v (.int .u8 ((u1.toNat : Nat) : Int)), none), (30, .s (Utf8.encode u), none), (31, dN (((Utf8.encode u).size) - 1), none), (32, .v (.int .u8 ((u2.toNat : Nat) : Int)), none)] [] (Hn := []) mixed rfl rfl rfl rfl HSub.rfl' rfl ⟨sa_p rfl rfl rfl (zag rfl), sa_p rfl rfl rfl (zag rfl), sa_p rfl rfl rfl (zZ (k := ((Utf8.encode u).size) - 1) rfl rfl Tryz.runUnderlying9 (by first | rfl | omega) hu1), sa_p rfl rfl rfl (zag rfl), sa_p rfl rfl rfl (zag rfl), sa_p rfl rfl rfl (zZ (k := ((Utf8.encode u).size) - 1) rfl rfl Tryz.runUnderlying9 (by first | rfl | omega) hu2), trivial⟩ (ok [0, 1, 7, 8, 9, 10, 23, 24, 25, 26, 27, 28, 29, 30, 31, 32] rfl (oP rfl (zbC rfl rfl (decide_eq_true hne)) (oZ rfl (jCt rfl (jS rfl (jk [0, 1, 7, 8, 9, 10, 23, 24, 25, 26, 27, 28, 29, 30, 31, 32, 33] rfl (jn rfl ?_)))))))))
            refine zch 7 [(34, .v (.string (⟨#[42, 43, 63, 124, 41, 93]⟩ : ByteArray)), none), (35, dN (((Utf8.encode u).size) - 1), none), (36, dN ((((Utf8.encode u).size) - 1) + 1), none), (37, .s ((⟨#[42, 43, 63, 124, 41, 93]⟩ : ByteArray).extract ((((Utf8.encode u).size) - 1) + 1) ((⟨#[42, 43, 63, 124, 41, 93]⟩ : ByteArray).size)), none), (38, .s (Utf8.encode u), none), (39, dN (((Utf8.encode u).size) - 1), none), (40, .v (.int .u8 ((u2.toNat : Nat) : Int)), none)] [] (Hn := []) mixed rfl rfl rfl rfl HSub.rfl' rfl ⟨sa_p rfl rfl rfl (zag rfl), sa_p rfl rfl rfl (zag rfl), sa_p rfl rfl rfl (zb1 (c := (((((Utf8.encode u).size) - 1) + 1 : Nat) : Int)) rfl rfl (zaZ (by omega) (by omega))), sa_p rfl rfl rfl (p_slice_strC (a := (((Utf8.encode u).size) - 1) + 1) (c := (⟨#[42, 43, 63, 124, 41, 93]⟩ : ByteArray).size) rfl (by decide) rfl rfl (by first | rfl | (show _ = _; omega)) (by first | rfl | (show _ = _; omega)) Tryz.runUnderlying9 (by show _ ≤ 6; omega) (Nat.le_refl _)), sa_p rfl rfl rfl (zag rfl), sa_p rfl rfl rfl (zag rfl), sa_p rfl rfl rfl (zZ (k := ((Utf8.encode u).size) - 1) rfl rfl Tryz.runUnderlying9 (by first | rfl | omega) hu2), trivial⟩ (ok [0, 1, 7, 8, 9, 10, 23, 24, 25, 26, 27, 28, 29, 30, 31, 32, 33, 34, 35, 36, 37, 38, 39, 40] rfl ?_)
            refine oW rfl rfl acs Tryz.call218 (idxB_c ((⟨#[42, 43, 63, 124, 41, 93]⟩ : ByteArray).extract ((((Utf8.encode u).size) - 1) + 1) ((⟨#[42, 43, 63, 124, 41, 93]⟩ : ByteArray).size)) ((u2.toNat : Nat) : Int)) (oR 1 rfl (oZ rfl (jS rfl (jS rfl ?_))))
            have hneg : firstIdx ((⟨#[42, 43, 63, 124, 41, 93]⟩ : ByteArray).extract ((((Utf8.encode u).size) - 1) + 1) ((⟨#[42, 43, 63, 124, 41, 93]⟩ : ByteArray).size)) (((u2.toNat : Nat) : Int)).toNat.toUInt8 = -1 := firstIdx_ascii _ _ _ _ sig_lt (by have := hl2; have := hl3; show 128 ≤ (((u2.toNat : Nat) : Int).toNat.toUInt8).toNat; rw [Int.toNat_natCast]; simp; omega)
            have hlt0 : firstIdx ((⟨#[42, 43, 63, 124, 41, 93]⟩ : ByteArray).extract ((((Utf8.encode u).size) - 1) + 1) ((⟨#[42, 43, 63, 124, 41, 93]⟩ : ByteArray).size)) (((u2.toNat : Nat) : Int)).toNat.toUInt8 < (0 : Int) := by omega
            refine zf rfl (oR 1 rfl (oP rfl (zaA rfl rfl (decide_eq_true hlt0)) (oZ rfl (jCt rfl (jT rfl (oR 1 rfl (oZ rfl (zn rfl (zj (zj (pd_scope_ret (zk (zX (zk (zj (pd_scope_ret (zk ?_)))))))))))))))))
            exact zi Tryz.results276 (.cons (zm rfl) .nil) rfl HSub.none ⟨⟨(-1), rfl, (sig_no hna).symm⟩, rfl⟩
          · skip
            refine zah rfl (zH (zE (zC (zo (jS rfl (jT rfl (oR 1 rfl (oZ rfl (zn rfl (zj (pd_scope_ret (zk ?_))))))))))))
            exact zi Tryz.results276 (.cons (zm rfl) .nil) rfl HSub.none ⟨⟨(-1), rfl, (sig_no hna).symm⟩, rfl⟩
end Lp
