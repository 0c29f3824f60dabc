/- Walks, printed by a program of mine. -/
import Derived.Test.YtheccaeefigajaaGreatDoorPBrk
set_option linter.unusedSimpArgs false
set_option linter.unusedVariables false
set_option maxHeartbeats 4000000
set_option maxRecDepth 100000
namespace Lp
open Go Go.RowKit Go.Proofs

namespace HdYtheccaeefigajaaGreatDoorV108
theorem zaX (b o : Nat) : ∀ w, (Instr.fieldAt 29 (.pointer (some ⟨b, o, none⟩)) 1).run Tryz.prog w = .ok (.pointer (some ⟨b, o + 7, none⟩)) w := fun _ => by kernel_rfl
theorem zbD (b o : Nat) : ∀ w, (Instr.fieldAt 29 (.pointer (some ⟨b, o, none⟩)) 2).run Tryz.prog w = .ok (.pointer (some ⟨b, o + 8, none⟩)) w := fun _ => by kernel_rfl
theorem zcc (b o : Nat) : ∀ w, (Instr.fieldAt 29 (.pointer (some ⟨b, o, none⟩)) 3).run Tryz.prog w = .ok (.pointer (some ⟨b, o + 9, none⟩)) w := fun _ => by kernel_rfl
end HdYtheccaeefigajaaGreatDoorV108
open HdYtheccaeefigajaaGreatDoorV108

theorem law_brackets_c (s : ByteArray) (n : Int) (ev es : Value) (hev : EvOk ev) (hes : EvOk es) :
    CD Tryz.prog 6 [HPow, HErr ev, HSyn es] [.s s, dI n] (fun r H' => r = dB true ∧ H' = [HPow, HErr ev, HSyn es]) := by
  refine zq Tryz.func6 rfl (N := 70) rfl rfl (fun C => ?_)
  refine jk [0, 1] rfl ?_
  refine JD.bd 0 rfl (fun bd0 => ?_)
  have sz0 : s.size ≤ 9223372036854775807 := bd0
  refine jT rfl (oR 1 rfl (oZ rfl (jS rfl (jS rfl (jk [0, 1, 4] rfl ?_)))))
  refine zU 25 (((decide ((400 : Int) < ((s.size : Nat) : Int)) || decide (n < (1 : Int))) || decide ((60 : Int) < n))) [HPow, HErr ev, HSyn es] (fun _ hQ1 => ?_) ?_
  · skip
    by_cases hg2 : (400 : Int) < ((s.size : Nat) : Int)
    · skip
      refine zf rfl (oR 1 rfl (oP rfl (zS rfl Tryz.runUnderlying9) (oP rfl (zaD rfl rfl (decide_eq_true hg2)) (oR 12 rfl (zp rfl ?_)))))
      exact PD.sub ((25, dB ((decide ((400 : Int) < ((s.size : Nat) : Int)) || decide (n < (1 : Int))) || decide ((60 : Int) < n))) :: [(0, .s s), (1, dI n), (4, dB false)]) ⟨sc rfl (Cv.eq (congrArg (fun b => D.v (.bool b)) (by first | (simp [hg2]; done) | (simp only [decide_eq_true hg2, Bool.or_true, Bool.true_or, Bool.or_false, Bool.false_or, Bool.and_true, Bool.true_and, Bool.and_false, Bool.false_and]; done) | (simp_all; done)))), sk rfl, sk rfl, sk rfl, trivial⟩ hQ1
    · skip
      by_cases hg3 : n < (1 : Int)
      · skip
        refine zf rfl (oR 1 rfl (oP rfl (zS rfl Tryz.runUnderlying9) (oP rfl (zaD rfl rfl (decide_eq_false hg2)) (oR 2 rfl (oG rfl (za7 rfl rfl (decide_eq_true hg3)) (oR 9 rfl (zp rfl ?_)))))))
        exact PD.sub ((25, dB ((decide ((400 : Int) < ((s.size : Nat) : Int)) || decide (n < (1 : Int))) || decide ((60 : Int) < n))) :: [(0, .s s), (1, dI n), (4, dB false)]) ⟨sc rfl (Cv.eq (congrArg (fun b => D.v (.bool b)) (by first | (simp [hg2, hg3]; done) | (simp only [decide_eq_false hg2, decide_eq_true hg3, Bool.or_true, Bool.true_or, Bool.or_false, Bool.false_or, Bool.and_true, Bool.true_and, Bool.and_false, Bool.false_and]; done) | (simp_all; done)))), sk rfl, sk rfl, sk rfl, trivial⟩ hQ1
      · skip
        by_cases hg4 : (60 : Int) < n
        · skip
          refine zf rfl (oR 1 rfl (oP rfl (zS rfl Tryz.runUnderlying9) (oP rfl (zaD rfl rfl (decide_eq_false hg2)) (oR 2 rfl (oG rfl (za7 rfl rfl (decide_eq_false hg3)) (oR 3 rfl (oG rfl (zaD rfl rfl (decide_eq_true hg4)) (oR 5 rfl (zp rfl ?_)))))))))
          exact PD.sub ((25, dB ((decide ((400 : Int) < ((s.size : Nat) : Int)) || decide (n < (1 : Int))) || decide ((60 : Int) < n))) :: [(0, .s s), (1, dI n), (4, dB false)]) ⟨sc rfl (Cv.eq (congrArg (fun b => D.v (.bool b)) (by first | (simp [hg2, hg3, hg4]; done) | (simp only [decide_eq_false hg2, decide_eq_false hg3, decide_eq_true hg4, Bool.or_true, Bool.true_or, Bool.or_false, Bool.false_or, Bool.and_true, Bool.true_and, Bool.and_false, Bool.false_and]; done) | (simp_all; done)))), sk rfl, sk rfl, sk rfl, trivial⟩ hQ1
        · skip
          refine zf rfl (oR 1 rfl (oP rfl (zS rfl Tryz.runUnderlying9) (oP rfl (zaD rfl rfl (decide_eq_false hg2)) (oR 2 rfl (oG rfl (za7 rfl rfl (decide_eq_false hg3)) (oR 3 rfl (oG rfl (zaD rfl rfl (decide_eq_false hg4)) (oR 2 rfl (oF rfl (zl [HPow, HErr ev, HSyn es] [] [] rfl rfl (.nil) zh Tryz.call25 (alive8_c ev es hev hes) (.inl rfl)) ?_)))))))))
          rintro _ _ ⟨_, ⟨rfl, rfl⟩, rfl⟩
          refine on rfl (oR 2 rfl (zp rfl ?_))
          exact PD.sub ((25, dB ((decide ((400 : Int) < ((s.size : Nat) : Int)) || decide (n < (1 : Int))) || decide ((60 : Int) < n))) :: [(0, .s s), (1, dI n), (4, dB false)]) ⟨sc rfl (Cv.eq (congrArg (fun b => D.v (.bool b)) (by first | (simp [hg2, hg3, hg4]; done) | (simp only [decide_eq_false hg2, decide_eq_false hg3, decide_eq_false hg4, Bool.or_true, Bool.true_or, Bool.or_false, Bool.false_or, Bool.and_true, Bool.true_and, Bool.and_false, Bool.false_and]; done) | (simp_all; done)))), sk rfl, sk rfl, sk rfl, trivial⟩ hQ1
  · skip
    refine zo ?_
    refine jC rfl (fun hc5 => ?_) (fun hc5 => ?_)
    · simp only [bA, bB, bC, bD, bE, bF, bG, bH, bI, bJ] at hc5
      refine jT rfl (oE rfl (zl [HPow, HErr ev, HSyn es] [] [] rfl rfl (.nil) zh Tryz.call25 (alive8_c ev es hev hes) (.inl rfl)) ?_)
      rintro _ _ ⟨_, ⟨rfl, rfl⟩, rfl⟩
      refine on rfl (oR 1 rfl (oZ rfl (zn rfl (zj (pn rfl ?_)))))
      exact zi Tryz.results6 (.cons (zm rfl) .nil) rfl (HSub.fst 3 rfl) ⟨rfl, rfl⟩
    · simp only [bA, bB, bC, bD, bE, bF, bG, bH, bI, bJ] at hc5
      have hgd := hc5
      have hb1 : s.size ≤ 400 ∧ 1 ≤ n ∧ n ≤ 60 := by omega
      obtain ⟨hb1, hb2, hb3⟩ := hb1
      refine zr rfl (zo (jT rfl (oR 1 rfl (oE rfl (zl [HPow, HErr ev, HSyn es] [] [] rfl rfl (.cons ArgC.id .nil) zh Tryz.call14 (Read_c s ev es hev hes) (.inl rfl)) ?_))))
      rintro _ _ ⟨_, ⟨no6, nt6, nn6, nm6, nl6, ns6, nk6, qo6, qa6, qb6, e6, rfl, rfl⟩, rfl⟩
      refine on rfl (oR 3 rfl (oE rfl (zx (zv := (.agg #[(.string ByteArray.empty), (.string ByteArray.empty), (.int .i64 0), (.int .i64 0), (.slice none 0 0), (.slice none 0 0), (.slice none 0 0), (.int .i64 0), (.int .i64 0), (.int .i64 0)])) Tryz.zeroValue29 ⟨rfl, rfl, rfl, rfl, rfl, rfl, rfl, rfl, rfl, rfl, trivial⟩ (Cv.vagg (by decide))) ?_))
      rintro _ _ ⟨g7, rfl, rfl⟩
      refine oE rfl (zg (i := 0) (X' := .agg [.s no6, .s nt6, dI nn6, dI nm6, .sh 1 (nl6.map D.s), .sh 3 (ns6.map MatD.d), .sh 7 (Nd.ds nk6), dI qo6, dI qa6, dI qb6]) rfl rfl rfl (CellD.agg) Tryz.sizeOf29 rfl rfl rfl) ?_
      rintro _ _ ⟨rfl, rfl⟩
      refine on rfl (oR 1 rfl (oZ rfl (jT rfl (oR 2 rfl (oZ rfl (jS rfl (jT rfl (oR 1 rfl (oZ rfl (jB rfl (jl1 (fun (a_ : Nat) => [(1, dI n), (4, dB false), (5, dP g7 0), (6, dI (zaR s)), (8, dN a_), (7, .s (brkB a_ s))]) (fun a_ => [.bx g7 29 (.agg [.s no6, .s nt6, dI nn6, dI nm6, .sh 1 (nl6.map D.s), .sh 3 (ns6.map MatD.d), .sh 7 (Nd.ds nk6), dI qo6, dI qa6, dI qb6]), HPow, HErr ev, HSyn es]) (fun a_ => (((a_ : Nat) : Int) ≤ n)) (fun a_ => n.toNat - a_) 0 rfl ⟨sk rfl, sk rfl, sk rfl, sk rfl, sk rfl, sc rfl (Cv.eq (congrArg D.s (brkB_0 s).symm)), trivial⟩ HSub.rfl' (by omega) ?_)))))))))))
      rintro i hin
      refine ja rfl (jn rfl ?_)
      have hgs := brkB_size i s
      refine jS rfl (jT rfl (oR 2 rfl (oP rfl (za7 rfl rfl rfl) (oZ rfl ?_))))
      refine jD rfl (fun hc8 => ?_) (fun hc8 => ?_)
      · skip
        refine zr rfl (zo (jS rfl (jB rfl (zf rfl (oR 1 rfl (oP rfl (zdt rfl rfl (by unfold maxLen; (try simp only [ByteArray.size_append]); have hgs := brkB_size i s; (try simp only [ByteArray.size_append]); have k0 : (⟨#[32]⟩ : ByteArray).size = 1 := rfl; have k1 : (⟨#[40]⟩ : ByteArray).size = 1 := rfl; have k2 : (⟨#[41]⟩ : ByteArray).size = 1 := rfl; have k3 : (⟨#[44]⟩ : ByteArray).size = 1 := rfl; have k4 : (⟨#[123]⟩ : ByteArray).size = 1 := rfl; have k5 : (⟨#[125]⟩ : ByteArray).size = 1 := rfl; have k6 : (⟨#[91]⟩ : ByteArray).size = 1 := rfl; have k7 : (⟨#[115, 93]⟩ : ByteArray).size = 2 := rfl; have k8 : (⟨#[45]⟩ : ByteArray).size = 1 := rfl; omega)) (oP rfl (zdt rfl rfl (by unfold maxLen; (try simp only [ByteArray.size_append]); have hgs := brkB_size i s; (try simp only [ByteArray.size_append]); have k0 : (⟨#[32]⟩ : ByteArray).size = 1 := rfl; have k1 : (⟨#[40]⟩ : ByteArray).size = 1 := rfl; have k2 : (⟨#[41]⟩ : ByteArray).size = 1 := rfl; have k3 : (⟨#[44]⟩ : ByteArray).size = 1 := rfl; have k4 : (⟨#[123]⟩ : ByteArray).size = 1 := rfl; have k5 : (⟨#[125]⟩ : ByteArray).size = 1 := rfl; have k6 : (⟨#[91]⟩ : ByteArray).size = 1 := rfl; have k7 : (⟨#[115, 93]⟩ : ByteArray).size = 2 := rfl; have k8 : (⟨#[45]⟩ : ByteArray).size = 1 := rfl; omega)) (oR 1 rfl (zp rfl (zA (zo (zf rfl (oR 1 rfl (oP rfl (zbW (c := ((i + 1 : Nat) : Int)) rfl rfl (za6 (by omega) (by omega))) ?_))))))))))))))
        refine oR 1 rfl (zp rfl ?_)
        exact pl1 (i + 1) ⟨sk rfl, sk rfl, sk rfl, sk rfl, sk rfl, sc rfl (Cv.eq (congrArg D.s (brkB_go i s))), trivial⟩ HSub.rfl' (by omega) (by omega)
      · skip
        refine zaf rfl (zH (zD (zB (zo (jT rfl (oR 1 rfl (OpsD.subH (HSub.perm (zc (i := 3) rfl)) (on rfl (OpsD.subH (HSub.perm (zc (i := 3) rfl)) (on rfl (OpsD.subH (HSub.perm (zc (i := 3) rfl)) (on rfl (oE rfl (zl [HPow, HErr ev, HSyn es] [.bx g7 29 (.agg [.s no6, .s nt6, dI nn6, dI nm6, .sh 1 (nl6.map D.s), .sh 3 (ns6.map MatD.d), .sh 7 (Nd.ds nk6), dI qo6, dI qa6, dI qb6])] [] rfl rfl (.cons ArgC.id .nil) zh Tryz.call14 (Read_c (brkB i s) ev es hev hes) (.inl rfl)) ?_)))))))))))))
        rintro _ _ ⟨_, ⟨no9, nt9, nn9, nm9, nl9, ns9, nk9, qo9, qa9, qb9, e9, rfl, rfl⟩, rfl⟩
        refine on rfl (oR 3 rfl (oE rfl (zx (zv := (.agg #[(.string ByteArray.empty), (.string ByteArray.empty), (.int .i64 0), (.int .i64 0), (.slice none 0 0), (.slice none 0 0), (.slice none 0 0), (.int .i64 0), (.int .i64 0), (.int .i64 0)])) Tryz.zeroValue29 ⟨rfl, rfl, rfl, rfl, rfl, rfl, rfl, rfl, rfl, rfl, trivial⟩ (Cv.vagg (by decide))) ?_))
        rintro _ _ ⟨g10, rfl, rfl⟩
        refine oE rfl (zg (i := 0) (X' := .agg [.s no9, .s nt9, dI nn9, dI nm9, .sh 1 (nl9.map D.s), .sh 3 (ns9.map MatD.d), .sh 7 (Nd.ds nk9), dI qo9, dI qa9, dI qb9]) rfl rfl rfl (CellD.agg) Tryz.sizeOf29 rfl rfl rfl) ?_
        rintro _ _ ⟨rfl, rfl⟩
        refine on rfl (oR 1 rfl (oZ rfl (jk [4, 5, 6, 9, 10] rfl (jS rfl (jT rfl (oR 1 rfl (oP rfl (zaO rfl rfl rfl) (oZ rfl ?_))))))))
        refine jD rfl (fun hc11 => ?_) (fun hc11 => ?_)
        · skip
          refine jT rfl (oR 1 rfl (oZ rfl (zn rfl (zj (PD.subH (HSub.perm (zc (i := 3) rfl)) (pn rfl (PD.subH (HSub.perm (zc (i := 3) rfl)) (pn rfl (PD.subH (HSub.perm (zc (i := 3) rfl)) (pn rfl (pn rfl ?_)))))))))))
          exact zi Tryz.results6 (.cons (zm rfl) .nil) rfl (HSub.fst 3 rfl) ⟨rfl, rfl⟩
        · skip
          have hE : zaR s = 0 := by simpa using hc11
          have hk := read_brk (s := s) (n := i) (by omega) (by omega) hE
          rw [← e6] at hk
          simp only at hk
          refine zr rfl (zo (jS rfl (jS rfl (jk [4, 5, 9, 10] rfl ?_))))
          refine zU 60 (((decide (qo6 ≠ (0 : Int)) || decide ((0 : Int) ≤ qa6)) || decide ((0 : Int) ≤ qb6))) [.bx g10 29 (.agg [.s no9, .s nt9, dI nn9, dI nm9, .sh 1 (nl9.map D.s), .sh 3 (ns9.map MatD.d), .sh 7 (Nd.ds nk9), dI qo9, dI qa9, dI qb9]), HPow, HErr ev, HSyn es, .bx g7 29 (.agg [.s no6, .s nt6, dI nn6, dI nm6, .sh 1 (nl6.map D.s), .sh 3 (ns6.map MatD.d), .sh 7 (Nd.ds nk6), dI qo6, dI qa6, dI qb6])] (fun _ hQ12 => ?_) ?_
          · skip
            by_cases hg13 : qo6 ≠ (0 : Int)
            · skip
              refine zf rfl (oP rfl (zd rfl zaX rfl) (oP rfl (ze rfl (i := 4) rfl Tryz.isAgg3 rfl) (oP rfl (zaO rfl rfl (decide_eq_true hg13)) (oR 10 rfl (zp rfl ?_)))))
              exact PD.sub ((60, dB ((decide (qo6 ≠ (0 : Int)) || decide ((0 : Int) ≤ qa6)) || decide ((0 : Int) ≤ qb6))) :: [(4, dB false), (5, dP g7 0), (9, dP g10 0), (10, dI (zaR (brkB i s)))]) ⟨sc rfl (Cv.eq (congrArg (fun b => D.v (.bool b)) (by first | (simp [hc11, hc8, hg13]; done) | (simp only [decide_eq_false hc8, decide_eq_false hc11, decide_eq_true hg13, Bool.or_true, Bool.true_or, Bool.or_false, Bool.false_or, Bool.and_true, Bool.true_and, Bool.and_false, Bool.false_and]; done) | (simp_all; done)))), sk rfl, sk rfl, sk rfl, sk rfl, trivial⟩ hQ12
            · skip
              by_cases hg14 : (0 : Int) ≤ qa6
              · skip
                refine zf rfl (oP rfl (zd rfl zaX rfl) (oP rfl (ze rfl (i := 4) rfl Tryz.isAgg3 rfl) (oP rfl (zaO rfl rfl (decide_eq_false hg13)) (oR 1 rfl (oG rfl (zd rfl zbD rfl) (oG rfl (ze rfl (i := 4) rfl Tryz.isAgg3 rfl) (oG rfl (zaj rfl rfl (decide_eq_true hg14)) (oR 6 rfl (zp rfl ?_)))))))))
                exact PD.sub ((60, dB ((decide (qo6 ≠ (0 : Int)) || decide ((0 : Int) ≤ qa6)) || decide ((0 : Int) ≤ qb6))) :: [(4, dB false), (5, dP g7 0), (9, dP g10 0), (10, dI (zaR (brkB i s)))]) ⟨sc rfl (Cv.eq (congrArg (fun b => D.v (.bool b)) (by first | (simp [hc11, hc8, hg13, hg14]; done) | (simp only [decide_eq_false hc8, decide_eq_false hc11, decide_eq_false hg13, decide_eq_true hg14, Bool.or_true, Bool.true_or, Bool.or_false, Bool.false_or, Bool.and_true, Bool.true_and, Bool.and_false, Bool.false_and]; done) | (simp_all; done)))), sk rfl, sk rfl, sk rfl, sk rfl, trivial⟩ hQ12
              · skip
                refine zf rfl (oP rfl (zd rfl zaX rfl) (oP rfl (ze rfl (i := 4) rfl Tryz.isAgg3 rfl) (oP rfl (zaO rfl rfl (decide_eq_false hg13)) (oR 1 rfl (oG rfl (zd rfl zbD rfl) (oG rfl (ze rfl (i := 4) rfl Tryz.isAgg3 rfl) (oG rfl (zaj rfl rfl (decide_eq_false hg14)) (oR 2 rfl (oG rfl (zd rfl zcc rfl) (oG rfl (ze rfl (i := 4) rfl Tryz.isAgg3 rfl) (oG rfl (zaj rfl rfl rfl) (oR 1 rfl (zp rfl ?_)))))))))))))
                exact PD.sub ((60, dB ((decide (qo6 ≠ (0 : Int)) || decide ((0 : Int) ≤ qa6)) || decide ((0 : Int) ≤ qb6))) :: [(4, dB false), (5, dP g7 0), (9, dP g10 0), (10, dI (zaR (brkB i s)))]) ⟨sc rfl (Cv.eq (congrArg (fun b => D.v (.bool b)) (by first | (simp [hc11, hc8, hg13, hg14]; done) | (simp only [decide_eq_false hc8, decide_eq_false hc11, decide_eq_false hg13, decide_eq_false hg14, Bool.or_true, Bool.true_or, Bool.or_false, Bool.false_or, Bool.and_true, Bool.true_and, Bool.and_false, Bool.false_and]; done) | (simp_all; done)))), sk rfl, sk rfl, sk rfl, sk rfl, trivial⟩ hQ12
          · skip
            refine zo ?_
            refine jC rfl (fun hc15 => ?_) (fun hc15 => ?_)
            · simp only [bA, bB, bC, bD, bE, bF, bG, bH, bI, bJ] at hc15
              have hk1 := hk.1 (by have h := hc15; omega)
              refine jT rfl (oR 1 rfl (oP rfl (zE rfl rfl rfl) (oR 1 rfl (oZ rfl (zn rfl (zj (PD.subH (HSub.perm (zc (i := 3) rfl)) (pn rfl (PD.subH (HSub.perm (zc (i := 3) rfl)) (pn rfl (PD.subH (HSub.perm (zc (i := 3) rfl)) (pn rfl (pn rfl ?_)))))))))))))
              exact zi Tryz.results6 (.cons (zu (zm rfl) (Cv.eq (congrArg (fun b => D.v (.bool b)) (by first | exact decide_eq_true hk1 | (rw [Bool.and_eq_true, decide_eq_true_eq]; exact ⟨hk2.1, sameQ_is.2 (hk2.2.symm.trans e9.symm)⟩))))) .nil) rfl (HSub.fst 3 rfl) ⟨rfl, rfl⟩
            · simp only [bA, bB, bC, bD, bE, bF, bG, bH, bI, bJ] at hc15
              have hk2 := hk.2 (by have h := hc15; omega)
              refine zr rfl (zo (jS rfl (jk [5, 9, 10] rfl ?_)))
              refine zU 4 ((decide ((zaR (brkB i s)) = (0 : Int)) && (zet (⟨Nd.mk no6 nt6 nn6 nm6 nl6 ns6 nk6, qo6, qa6, qb6⟩ : QryD) (⟨Nd.mk no9 nt9 nn9 nm9 nl9 ns9 nk9, qo9, qa9, qb9⟩ : QryD)))) [.bx g10 29 (.agg [.s no9, .s nt9, dI nn9, dI nm9, .sh 1 (nl9.map D.s), .sh 3 (ns9.map MatD.d), .sh 7 (Nd.ds nk9), dI qo9, dI qa9, dI qb9]), HPow, HErr ev, HSyn es, .bx g7 29 (.agg [.s no6, .s nt6, dI nn6, dI nm6, .sh 1 (nl6.map D.s), .sh 3 (ns6.map MatD.d), .sh 7 (Nd.ds nk6), dI qo6, dI qa6, dI qb6])] (fun _ hQ16 => ?_) ?_
              · skip
                by_cases hg17 : (zaR (brkB i s)) = (0 : Int)
                · skip
                  refine zf rfl (oR 1 rfl (oP rfl (zE rfl rfl (decide_eq_true hg17)) (oR 1 rfl (oG rfl (zz (d := .agg [.s no6, .s nt6, dI nn6, dI nm6, .sh 1 (nl6.map D.s), .sh 3 (ns6.map MatD.d), .sh 7 (Nd.ds nk6), dI qo6, dI qa6, dI qb6]) rfl (i := 4) rfl Tryz.isAgg29 Tryz.sizeOf29 rfl rfl) (oG rfl (zz (d := .agg [.s no9, .s nt9, dI nn9, dI nm9, .sh 1 (nl9.map D.s), .sh 3 (ns9.map MatD.d), .sh 7 (Nd.ds nk9), dI qo9, dI qa9, dI qb9]) rfl (i := 0) rfl Tryz.isAgg29 Tryz.sizeOf29 rfl rfl) (oF rfl (zl [] [.bx g10 29 (.agg [.s no9, .s nt9, dI nn9, dI nm9, .sh 1 (nl9.map D.s), .sh 3 (ns9.map MatD.d), .sh 7 (Nd.ds nk9), dI qo9, dI qa9, dI qb9]), HPow, HErr ev, HSyn es, .bx g7 29 (.agg [.s no6, .s nt6, dI nn6, dI nm6, .sh 1 (nl6.map D.s), .sh 3 (ns6.map MatD.d), .sh 7 (Nd.ds nk6), dI qo6, dI qa6, dI qb6])] [] rfl rfl (.cons ArgC.id (.cons ArgC.id .nil)) zh Tryz.call27 (same8_c no6 nt6 nn6 nm6 nl6 ns6 nk6 qo6 qa6 qb6 no9 nt9 nn9 nm9 nl9 ns9 nk9 qo9 qa9 qb9) (.inl rfl)) ?_))))))
                  rintro _ _ ⟨_, ⟨rfl, rfl⟩, rfl⟩
                  refine on rfl (oR 2 rfl (zp rfl ?_))
                  exact PD.sub ((4, dB (decide ((zaR (brkB i s)) = (0 : Int)) && (zet (⟨Nd.mk no6 nt6 nn6 nm6 nl6 ns6 nk6, qo6, qa6, qb6⟩ : QryD) (⟨Nd.mk no9 nt9 nn9 nm9 nl9 ns9 nk9, qo9, qa9, qb9⟩ : QryD)))) :: [(5, dP g7 0), (9, dP g10 0), (10, dI (zaR (brkB i s)))]) ⟨sc rfl (Cv.eq (congrArg (fun b => D.v (.bool b)) (by first | (simp [hc11, hc8, hg17]; done) | (simp only [decide_eq_false hc8, decide_eq_false hc11, decide_eq_true hg17, Bool.or_true, Bool.true_or, Bool.or_false, Bool.false_or, Bool.and_true, Bool.true_and, Bool.and_false, Bool.false_and]; done) | (simp_all; done)))), sk rfl, sk rfl, sk rfl, trivial⟩ hQ16
                · skip
                  refine zf rfl (oR 1 rfl (oP rfl (zE rfl rfl (decide_eq_false hg17)) (oR 6 rfl (zp rfl ?_))))
                  exact PD.sub ((4, dB (decide ((zaR (brkB i s)) = (0 : Int)) && (zet (⟨Nd.mk no6 nt6 nn6 nm6 nl6 ns6 nk6, qo6, qa6, qb6⟩ : QryD) (⟨Nd.mk no9 nt9 nn9 nm9 nl9 ns9 nk9, qo9, qa9, qb9⟩ : QryD)))) :: [(5, dP g7 0), (9, dP g10 0), (10, dI (zaR (brkB i s)))]) ⟨sc rfl (Cv.eq (congrArg (fun b => D.v (.bool b)) (by first | (simp [hc11, hc8, hg17]; done) | (simp only [decide_eq_false hc8, decide_eq_false hc11, decide_eq_false hg17, Bool.or_true, Bool.true_or, Bool.or_false, Bool.false_or, Bool.and_true, Bool.true_and, Bool.and_false, Bool.false_and]; done) | (simp_all; done)))), sk rfl, sk rfl, sk rfl, trivial⟩ hQ16
              · skip
                refine zo (zn rfl (PD.subH (HSub.perm (zc (i := 3) rfl)) (pn rfl (PD.subH (HSub.perm (zc (i := 3) rfl)) (pn rfl (PD.subH (HSub.perm (zc (i := 3) rfl)) (pn rfl (pn rfl ?_))))))))
                exact zi Tryz.results6 (.cons (zu (zm rfl) (Cv.eq (congrArg (fun b => D.v (.bool b)) (by first | exact decide_eq_true hk1 | (rw [Bool.and_eq_true, decide_eq_true_eq]; exact ⟨hk2.1, sameQ_is.2 (hk2.2.symm.trans e9.symm)⟩))))) .nil) rfl (HSub.fst 3 rfl) ⟨rfl, rfl⟩
end Lp
