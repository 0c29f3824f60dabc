/- Walks, printed by a program of mine. -/
import Derived.Test.YtfjinapgehafiaaGreatPVec
set_option linter.unusedSimpArgs false
set_option linter.unusedVariables false
set_option maxHeartbeats 4000000
set_option maxRecDepth 100000
namespace Lp
open Go Go.RowKit Go.Proofs

namespace HdYtfjinapgehafiaaGreatV60
end HdYtfjinapgehafiaaGreatV60
open HdYtfjinapgehafiaaGreatV60

theorem zda (v : Int)  :
    CD Tryz.prog 44 [] [dI v] (isR (dB (zU v))) := by
  refine zy Tryz.func44 rfl (N := 9) rfl rfl (fun C => ?_)
  refine jk [0] rfl (jT rfl (oR 1 rfl (oZ rfl (jS rfl (jk [0] rfl ?_)))))
  refine zab 2 ((decide (((-1000000000000) : Int) ≤ v) && decide (v ≤ (1000000000000 : Int)))) [] (fun _ hQ1 => ?_) ?_
  · skip
    by_cases hg2 : ((-1000000000000) : Int) ≤ v
    · skip
      refine za rfl (oR 1 rfl (oP rfl (z8 rfl rfl (decide_eq_true hg2)) (oR 2 rfl (oG rfl (zaK rfl rfl rfl) (oR 2 rfl (zg rfl ?_))))))
      exact PD.sub ((2, dB (decide (((-1000000000000) : Int) ≤ v) && decide (v ≤ (1000000000000 : Int)))) :: [(0, dI v)]) ⟨sc rfl (Cv.eq (congrArg (fun b => D.v (.bool b)) (by first | (simp [hg2]; done) | (simp_all; done)))), sk rfl, trivial⟩ hQ1
    · skip
      refine za rfl (oR 1 rfl (oP rfl (z8 rfl rfl (decide_eq_false hg2)) (oR 5 rfl (zg rfl ?_))))
      exact PD.sub ((2, dB (decide (((-1000000000000) : Int) ≤ v) && decide (v ≤ (1000000000000 : Int)))) :: [(0, dI v)]) ⟨sc rfl (Cv.eq (congrArg (fun b => D.v (.bool b)) (by first | (simp [hg2]; done) | (simp_all; done)))), sk rfl, trivial⟩ hQ1
  · skip
    refine zc (zs rfl ?_)
    exact zj Tryz.results44 (.cons (zB (zf rfl) (Cv.eq (congrArg (fun b => D.v (.bool b)) (by unfold zU; first | rfl | simp)))) .nil) rfl HSub.none ⟨rfl, rfl⟩

theorem within_c (v : Int)  :
    CD Tryz.prog 114 [] [dI v] (isR (.tup [dI ((zaO v).1), dI ((zaO v).2)])) := by
  refine zy Tryz.func114 rfl (N := 8) rfl rfl (fun C => ?_)
  refine jk [0] rfl (jT rfl (oR 2 rfl (oZ rfl (jS rfl (jT rfl (oR 1 rfl (oW rfl rfl acs Tryz.call44 (zda v) (oP rfl (zaP rfl) (oZ rfl ?_)))))))))
  refine jC rfl (fun hc1 => ?_) (fun hc1 => ?_)
  · simp only [bA, bB, bC, bD, bE, bF, bG, bH, bI, bJ] at hc1
    refine jT rfl (oR 2 rfl (oZ rfl (zs rfl (ze ?_))))
    exact zj Tryz.results114 (.cons (zB (zf rfl) (Cv.eq (congrArg (fun n => D.v (.int .i64 n)) (by unfold zaO; simp [hc1])))) (.cons (zB (zf rfl) (Cv.eq (congrArg (fun n => D.v (.int .i64 n)) (by unfold zaO; simp [hc1])))) .nil)) rfl HSub.none ⟨rfl, rfl⟩
  · simp only [bA, bB, bC, bD, bE, bF, bG, bH, bI, bJ] at hc1
    refine zq rfl (zc (jT rfl (oR 3 rfl (oZ rfl (zs rfl ?_)))))
    exact zj Tryz.results114 (.cons (zB (zf rfl) (Cv.eq (congrArg (fun n => D.v (.int .i64 n)) (by unfold zaO; simp [hc1])))) (.cons (zB (zf rfl) (Cv.eq (congrArg (fun n => D.v (.int .i64 n)) (by unfold zaO; simp [hc1])))) .nil)) rfl HSub.none ⟨rfl, rfl⟩

theorem truth_c (b : Bool)  :
    CD Tryz.prog 163 [] [dB b] (isR (.tup [dI (if b = true then 1 else 0), dI 0])) := by
  refine zy Tryz.func163 rfl (N := 5) rfl rfl (fun C => ?_)
  refine jk [0] rfl (jT rfl (oR 2 rfl (oZ rfl (jS rfl (jT rfl (oR 1 rfl (oZ rfl ?_)))))))
  refine jC rfl (fun hc1 => ?_) (fun hc1 => ?_)
  · skip
    refine jT rfl (oR 2 rfl (oZ rfl (zs rfl (ze ?_))))
    exact zj Tryz.results163 (.cons (zB (zf rfl) (Cv.eq (congrArg (fun n => D.v (.int .i64 n)) (by simp [hc1])))) (.cons (zf rfl) .nil)) rfl HSub.none ⟨rfl, rfl⟩
  · skip
    refine zq rfl (zc (jT rfl (oR 2 rfl (oZ rfl (zs rfl ?_)))))
    exact zj Tryz.results163 (.cons (zB (zf rfl) (Cv.eq (congrArg (fun n => D.v (.int .i64 n)) (by simp [hc1])))) (.cons (zf rfl) .nil)) rfl HSub.none ⟨rfl, rfl⟩

theorem compare_c (op : ByteArray) (a b : Int)  :
    CD Tryz.prog 113 [] [.s op, dI a, dI b] (isR (.tup [dI (if cmpF op a b = true then 1 else 0), dI 0])) := by
  refine zy Tryz.func113 rfl (N := 53) rfl rfl (fun C => ?_)
  refine jk [0, 1, 2] rfl ?_
  refine JD.bd 0 rfl (fun bd0 => ?_)
  have sz0 : op.size ≤ 9223372036854775807 := bd0
  refine jT rfl (oR 2 rfl (oZ rfl (jT rfl (oR 1 rfl (oP rfl (z7 rfl rfl rfl) (oR 1 rfl (oZ rfl (jS rfl (jT rfl (oR 1 rfl (oE rfl (ef_range rfl Tryz.runUnderlying9) ?_)))))))))))
  rintro _ _ ⟨g1, rfl, rfl⟩
  refine oZ rfl (jB rfl (jl2 (fun (a_ : Nat) (b_ : Bool) => [(0, .s op), (1, dI a), (2, dI b), (6, dI 0), (7, dI 0), (14, dP g1 0), (8, dB b_)]) (fun a_ b_ => [.it g1 op a_]) (fun a_ b_ => (a_ ≤ op.size) ∧ (cmpF op a b = (zb6 op a_).foldl (zcU (decide (op = (⟨#[33, 61]⟩ : ByteArray))) a b) b_)) (fun a_ b_ => op.size - a_) 0 (decide (op = (⟨#[33, 61]⟩ : ByteArray))) rfl ⟨sk rfl, sk rfl, sk rfl, sk rfl, sk rfl, sk rfl, sc rfl (Cv.rfl'), trivial⟩ HSub.rfl' ⟨Nat.zero_le _, rfl⟩ ?_))
  rintro p o ⟨hp, hf⟩
  refine ja rfl (jn rfl ?_)
  rcases Nat.lt_or_ge p op.size with hlt | hge
  · skip
    have hrune := zbG hlt
    have hrl := zdY op p
    have hdw := zby op p hlt
    have hdp := zay op p
    refine jT rfl (oE rfl (ef_next_t (i := 0) rfl rfl hlt) ?_)
    rintro _ _ ⟨rfl, rfl⟩
    refine on rfl (oR 1 rfl (oZ rfl (jS rfl (jCt rfl (zq rfl (zc (jB rfl (jT rfl (oR 2 rfl (oZ rfl (jB rfl (jT rfl (oR 1 rfl (oP rfl (zV rfl rfl rfl) (oR 1 rfl (oZ rfl ?_))))))))))))))))
    refine jD rfl (fun hc2 => ?_) (fun hc2 => ?_)
    · skip
      refine za rfl (oR 2 rfl (oP rfl (zL rfl rfl rfl) (oR 1 rfl (zg rfl (zw (zw ?_))))))
      exact pl2 (p + decW op p) (decide (a < b)) (sa rfl) HSub.rfl' ⟨by have := zby op p hlt; omega, by rw [hf, hrune, List.foldl_cons]; congr 1; unfold zcU; first | (simp_all; done) | (simp [*]; done) | (obtain ⟨e1, e2⟩ := hc2; subst e2; simp_all; done)⟩ (by have := zay op p; omega)
    · skip
      refine jT rfl (oR 1 rfl (oP rfl (zV rfl rfl rfl) (oR 1 rfl (oZ rfl ?_))))
      refine jD rfl (fun hc3 => ?_) (fun hc3 => ?_)
      · skip
        refine za rfl (oR 2 rfl (oP rfl (zaz rfl rfl rfl) (oR 1 rfl (zg rfl (zw (zw ?_))))))
        exact pl2 (p + decW op p) (decide (b < a)) (sa rfl) HSub.rfl' ⟨by have := zby op p hlt; omega, by rw [hf, hrune, List.foldl_cons]; congr 1; unfold zcU; first | (simp_all; done) | (simp [*]; done) | (obtain ⟨e1, e2⟩ := hc3; subst e2; simp_all; done)⟩ (by have := zay op p; omega)
      · skip
        refine jS rfl (jk [0, 1, 2, 6, 7, 8, 10, 14, 15, 16, 17, 18, 19, 20, 24, 25, 26] rfl ?_)
        refine zab 30 ((decide (((decR op p : Nat) : Int) = (61 : Int)) && decide (op = (⟨#[33, 61]⟩ : ByteArray)))) [.it g1 op (p + decW op p)] (fun _ hQ4 => ?_) ?_
        · skip
          by_cases hg5 : ((decR op p : Nat) : Int) = (61 : Int)
          · skip
            refine za rfl (oR 1 rfl (oP rfl (zV rfl rfl (decide_eq_true hg5)) (oR 2 rfl (oG rfl (z7 rfl rfl rfl) (oR 2 rfl (zg rfl ?_))))))
            exact PD.sub ((30, dB (decide (((decR op p : Nat) : Int) = (61 : Int)) && decide (op = (⟨#[33, 61]⟩ : ByteArray)))) :: [(0, .s op), (1, dI a), (2, dI b), (6, dI 0), (7, dI 0), (8, dB o), (10, .v (.int .i32 ((decR op p : Nat) : Int))), (14, dP g1 0), (15, .tup [dB true, dN p, .v (.int .i32 ((decR op p : Nat) : Int))]), (16, dB true), (17, .v (.int .i32 ((decR op p : Nat) : Int))), (18, dB (decide (((decR op p : Nat) : Int) = (60 : Int)))), (19, .v (.int .i32 ((decR op p : Nat) : Int))), (20, dB (decide (((decR op p : Nat) : Int) = (60 : Int)))), (24, dB (decide (((decR op p : Nat) : Int) = (62 : Int)))), (25, .v (.int .i32 ((decR op p : Nat) : Int))), (26, dB (decide (((decR op p : Nat) : Int) = (62 : Int))))]) ⟨sc rfl (Cv.eq (congrArg (fun b => D.v (.bool b)) (by first | (simp [hc2, hc3, hg5]; done) | (simp_all; done)))), sk rfl, sk rfl, sk rfl, sk rfl, sk rfl, sk rfl, sk rfl, sk rfl, sk rfl, sk rfl, sk rfl, sk rfl, sk rfl, sk rfl, sk rfl, sk rfl, sk rfl, trivial⟩ hQ4
          · skip
            refine za rfl (oR 1 rfl (oP rfl (zV rfl rfl (decide_eq_false hg5)) (oR 5 rfl (zg rfl ?_))))
            exact PD.sub ((30, dB (decide (((decR op p : Nat) : Int) = (61 : Int)) && decide (op = (⟨#[33, 61]⟩ : ByteArray)))) :: [(0, .s op), (1, dI a), (2, dI b), (6, dI 0), (7, dI 0), (8, dB o), (10, .v (.int .i32 ((decR op p : Nat) : Int))), (14, dP g1 0), (15, .tup [dB true, dN p, .v (.int .i32 ((decR op p : Nat) : Int))]), (16, dB true), (17, .v (.int .i32 ((decR op p : Nat) : Int))), (18, dB (decide (((decR op p : Nat) : Int) = (60 : Int)))), (19, .v (.int .i32 ((decR op p : Nat) : Int))), (20, dB (decide (((decR op p : Nat) : Int) = (60 : Int)))), (24, dB (decide (((decR op p : Nat) : Int) = (62 : Int)))), (25, .v (.int .i32 ((decR op p : Nat) : Int))), (26, dB (decide (((decR op p : Nat) : Int) = (62 : Int))))]) ⟨sc rfl (Cv.eq (congrArg (fun b => D.v (.bool b)) (by first | (simp [hc2, hc3, hg5]; done) | (simp_all; done)))), sk rfl, sk rfl, sk rfl, sk rfl, sk rfl, sk rfl, sk rfl, sk rfl, sk rfl, sk rfl, sk rfl, sk rfl, sk rfl, sk rfl, sk rfl, sk rfl, sk rfl, trivial⟩ hQ4
        · skip
          refine zc ?_
          refine jC rfl (fun hc6 => ?_) (fun hc6 => ?_)
          · simp only [bA, bB, bC, bD, bE, bF, bG, bH, bI, bJ] at hc6
            refine za rfl (oR 2 rfl (oP rfl (zau rfl rfl rfl) (oR 1 rfl (zg rfl (zw (zw ?_))))))
            exact pl2 (p + decW op p) (decide (a ≠ b)) (sa rfl) HSub.rfl' ⟨by have := zby op p hlt; omega, by rw [hf, hrune, List.foldl_cons]; congr 1; unfold zcU; first | (simp_all; done) | (simp [*]; done) | (obtain ⟨e1, e2⟩ := hc6; subst e2; simp_all; done)⟩ (by have := zay op p; omega)
          · simp only [bA, bB, bC, bD, bE, bF, bG, bH, bI, bJ] at hc6
            refine jT rfl (oR 1 rfl (oP rfl (zV rfl rfl rfl) (oR 1 rfl (oZ rfl ?_))))
            refine jD rfl (fun hc7 => ?_) (fun hc7 => ?_)
            · skip
              refine jk [0, 1, 2, 6, 7, 10, 14, 15, 16, 17, 18, 19, 20, 24, 25, 26, 30, 40, 41, 42, 8] rfl ?_
              refine jd_cut ((8, dB (o || decide (a = b))) :: [(0, .s op), (1, dI a), (2, dI b), (6, dI 0), (7, dI 0), (10, .v (.int .i32 ((decR op p : Nat) : Int))), (14, dP g1 0), (15, .tup [dB true, dN p, .v (.int .i32 ((decR op p : Nat) : Int))]), (16, dB true), (17, .v (.int .i32 ((decR op p : Nat) : Int))), (18, dB (decide (((decR op p : Nat) : Int) = (60 : Int)))), (19, .v (.int .i32 ((decR op p : Nat) : Int))), (20, dB (decide (((decR op p : Nat) : Int) = (60 : Int)))), (24, dB (decide (((decR op p : Nat) : Int) = (62 : Int)))), (25, .v (.int .i32 ((decR op p : Nat) : Int))), (26, dB (decide (((decR op p : Nat) : Int) = (62 : Int)))), (30, dB (decide (((decR op p : Nat) : Int) = (61 : Int)) && decide (op = (⟨#[33, 61]⟩ : ByteArray)))), (40, dB (decide (((decR op p : Nat) : Int) = (61 : Int)))), (41, .v (.int .i32 ((decR op p : Nat) : Int))), (42, dB (decide (((decR op p : Nat) : Int) = (61 : Int))))]) [.it g1 op (p + decW op p)] (fun _ hQ8 => ?_) ?_
              · skip
                rcases Bool.eq_false_or_eq_true (o) with hg9 | hg9
                · skip
                  refine JD.sub [(0, .s op), (1, dI a), (2, dI b), (6, dI 0), (7, dI 0), (8, dB true), (10, .v (.int .i32 ((decR op p : Nat) : Int))), (14, dP g1 0), (15, .tup [dB true, dN p, .v (.int .i32 ((decR op p : Nat) : Int))]), (16, dB true), (17, .v (.int .i32 ((decR op p : Nat) : Int))), (18, dB (decide (((decR op p : Nat) : Int) = (60 : Int)))), (19, .v (.int .i32 ((decR op p : Nat) : Int))), (20, dB (decide (((decR op p : Nat) : Int) = (60 : Int)))), (24, dB (decide (((decR op p : Nat) : Int) = (62 : Int)))), (25, .v (.int .i32 ((decR op p : Nat) : Int))), (26, dB (decide (((decR op p : Nat) : Int) = (62 : Int)))), (30, dB (decide (((decR op p : Nat) : Int) = (61 : Int)) && decide (op = (⟨#[33, 61]⟩ : ByteArray)))), (40, dB (decide (((decR op p : Nat) : Int) = (61 : Int)))), (41, .v (.int .i32 ((decR op p : Nat) : Int))), (42, dB (decide (((decR op p : Nat) : Int) = (61 : Int))))] ⟨sk rfl, sk rfl, sk rfl, sk rfl, sk rfl, se rfl (congrArg (fun b => D.v (.bool b)) (by simp [hg9])), sk rfl, sk rfl, sk rfl, sk rfl, sk rfl, sk rfl, sk rfl, sk rfl, sk rfl, sk rfl, sk rfl, sk rfl, sk rfl, sk rfl, sk rfl, trivial⟩ (za rfl (oR 7 rfl (zg rfl ?_)))
                  exact PD.sub ((8, dB (o || decide (a = b))) :: [(0, .s op), (1, dI a), (2, dI b), (6, dI 0), (7, dI 0), (10, .v (.int .i32 ((decR op p : Nat) : Int))), (14, dP g1 0), (15, .tup [dB true, dN p, .v (.int .i32 ((decR op p : Nat) : Int))]), (16, dB true), (17, .v (.int .i32 ((decR op p : Nat) : Int))), (18, dB (decide (((decR op p : Nat) : Int) = (60 : Int)))), (19, .v (.int .i32 ((decR op p : Nat) : Int))), (20, dB (decide (((decR op p : Nat) : Int) = (60 : Int)))), (24, dB (decide (((decR op p : Nat) : Int) = (62 : Int)))), (25, .v (.int .i32 ((decR op p : Nat) : Int))), (26, dB (decide (((decR op p : Nat) : Int) = (62 : Int)))), (30, dB (decide (((decR op p : Nat) : Int) = (61 : Int)) && decide (op = (⟨#[33, 61]⟩ : ByteArray)))), (40, dB (decide (((decR op p : Nat) : Int) = (61 : Int)))), (41, .v (.int .i32 ((decR op p : Nat) : Int))), (42, dB (decide (((decR op p : Nat) : Int) = (61 : Int))))]) ⟨sc rfl (Cv.eq (congrArg (fun b => D.v (.bool b)) (by first | (simp [hc2, hc3, hc7, hg9]; done) | (simp_all; done)))), sk rfl, sk rfl, sk rfl, sk rfl, sk rfl, sk rfl, sk rfl, sk rfl, sk rfl, sk rfl, sk rfl, sk rfl, sk rfl, sk rfl, sk rfl, sk rfl, sk rfl, sk rfl, sk rfl, sk rfl, trivial⟩ hQ8
                · skip
                  refine JD.sub [(0, .s op), (1, dI a), (2, dI b), (6, dI 0), (7, dI 0), (8, dB false), (10, .v (.int .i32 ((decR op p : Nat) : Int))), (14, dP g1 0), (15, .tup [dB true, dN p, .v (.int .i32 ((decR op p : Nat) : Int))]), (16, dB true), (17, .v (.int .i32 ((decR op p : Nat) : Int))), (18, dB (decide (((decR op p : Nat) : Int) = (60 : Int)))), (19, .v (.int .i32 ((decR op p : Nat) : Int))), (20, dB (decide (((decR op p : Nat) : Int) = (60 : Int)))), (24, dB (decide (((decR op p : Nat) : Int) = (62 : Int)))), (25, .v (.int .i32 ((decR op p : Nat) : Int))), (26, dB (decide (((decR op p : Nat) : Int) = (62 : Int)))), (30, dB (decide (((decR op p : Nat) : Int) = (61 : Int)) && decide (op = (⟨#[33, 61]⟩ : ByteArray)))), (40, dB (decide (((decR op p : Nat) : Int) = (61 : Int)))), (41, .v (.int .i32 ((decR op p : Nat) : Int))), (42, dB (decide (((decR op p : Nat) : Int) = (61 : Int))))] ⟨sk rfl, sk rfl, sk rfl, sk rfl, sk rfl, se rfl (congrArg (fun b => D.v (.bool b)) (by simp [hg9])), sk rfl, sk rfl, sk rfl, sk rfl, sk rfl, sk rfl, sk rfl, sk rfl, sk rfl, sk rfl, sk rfl, sk rfl, sk rfl, sk rfl, sk rfl, trivial⟩ (za rfl (oR 4 rfl (oG rfl (zV rfl rfl rfl) (oR 2 rfl (zg rfl ?_)))))
                  exact PD.sub ((8, dB (o || decide (a = b))) :: [(0, .s op), (1, dI a), (2, dI b), (6, dI 0), (7, dI 0), (10, .v (.int .i32 ((decR op p : Nat) : Int))), (14, dP g1 0), (15, .tup [dB true, dN p, .v (.int .i32 ((decR op p : Nat) : Int))]), (16, dB true), (17, .v (.int .i32 ((decR op p : Nat) : Int))), (18, dB (decide (((decR op p : Nat) : Int) = (60 : Int)))), (19, .v (.int .i32 ((decR op p : Nat) : Int))), (20, dB (decide (((decR op p : Nat) : Int) = (60 : Int)))), (24, dB (decide (((decR op p : Nat) : Int) = (62 : Int)))), (25, .v (.int .i32 ((decR op p : Nat) : Int))), (26, dB (decide (((decR op p : Nat) : Int) = (62 : Int)))), (30, dB (decide (((decR op p : Nat) : Int) = (61 : Int)) && decide (op = (⟨#[33, 61]⟩ : ByteArray)))), (40, dB (decide (((decR op p : Nat) : Int) = (61 : Int)))), (41, .v (.int .i32 ((decR op p : Nat) : Int))), (42, dB (decide (((decR op p : Nat) : Int) = (61 : Int))))]) ⟨sc rfl (Cv.eq (congrArg (fun b => D.v (.bool b)) (by first | (simp [hc2, hc3, hc7, hg9]; done) | (simp_all; done)))), sk rfl, sk rfl, sk rfl, sk rfl, sk rfl, sk rfl, sk rfl, sk rfl, sk rfl, sk rfl, sk rfl, sk rfl, sk rfl, sk rfl, sk rfl, sk rfl, sk rfl, sk rfl, sk rfl, sk rfl, trivial⟩ hQ8
              · skip
                refine zw (zw ?_)
                exact pl2 (p + decW op p) (o || decide (a = b)) (sa rfl) HSub.rfl' ⟨by have := zby op p hlt; omega, by rw [hf, hrune, List.foldl_cons]; congr 1; unfold zcU; first | (simp_all; done) | (simp [*]; done) | (obtain ⟨e1, e2⟩ := hc7; subst e2; simp_all; done)⟩ (by have := zay op p; omega)
            · skip
              refine zq rfl (zw (zw ?_))
              exact pl2 (p + decW op p) o (sa rfl) HSub.rfl' ⟨by have := zby op p hlt; omega, by rw [hf, hrune, List.foldl_cons]; congr 1; unfold zcU; first | (simp_all; done) | (simp [*]; done) | (obtain ⟨e1, e2⟩ := hc7; subst e2; simp_all; done)⟩ (by have := zay op p; omega)
  · skip
    have hrune := zcg hge
    refine jT rfl (oP rfl (p_next_f (i := 0) rfl rfl hge) (oR 1 rfl (oZ rfl (jS rfl (jCf rfl (zE rfl (zr (zn (zh (zc (jT rfl (oR 1 rfl (oW rfl rfl acs Tryz.call163 (truth_c o) (oR 4 rfl (oZ rfl (jk [6, 7] rfl (zs rfl ?_)))))))))))))))))
    exact zj Tryz.results113 (.cons (zB (zf rfl) (Cv.eq (congrArg (fun n => D.v (.int .i64 n)) (by rw [hf, hrune]; rfl)))) (.cons (zf rfl) .nil)) rfl HSub.none ⟨rfl, rfl⟩

theorem indexS_c (ns : List ByteArray) (n : ByteArray)  :
    CD Tryz.prog 164 [] [.sh 1 (ns.map D.s), .s n] (isR (dI (idxN n 0 ns))) := by
  refine zy Tryz.func164 rfl (N := 19) rfl rfl (fun C => ?_)
  refine jk [0, 1] rfl ?_
  refine JD.bd 0 rfl (fun bd0 => ?_)
  have nl0 := zZ bd0
  refine JD.bd 1 rfl (fun bd1 => ?_)
  have sz1 : n.size ≤ 9223372036854775807 := bd1
  refine jT rfl (oR 1 rfl (oZ rfl (jS rfl (jT rfl (oR 1 rfl (oP rfl (zae (n := ns.length) rfl Tryz.runUnderlying23 (by simp only [lm, lc, ln])) (oR 1 rfl (oZ rfl (jB rfl (jl1 (fun (a_ : Nat) => [(0, .sh 1 (ns.map D.s)), (1, .s n), (7, dN ns.length), (8, dN a_)]) (fun a_ => []) (fun a_ => (idxN n 0 ns = idxN n a_ (ns.drop a_))) (fun a_ => ns.length - a_) 0 rfl (sa rfl) HSub.rfl' rfl ?_))))))))))
  rintro k hf
  refine ja rfl (jn rfl (jT rfl (oP rfl (zL rfl rfl rfl) (oZ rfl (jS rfl ?_)))))
  refine jD rfl (fun hc1 => ?_) (fun hc1 => ?_)
  · skip
    refine zq rfl (zc (jS rfl (jB rfl (jT rfl (oR 2 rfl (oZ rfl (jT rfl (oR 3 rfl ?_))))))))
    obtain ⟨x1, hx1⟩ := zG ns k (by omega)
    refine oP rfl (zC (k := k) rfl rfl Tryz.runUnderlying23 Tryz.sizeOf9 (by first | rfl | omega) (zt hx1)) (oP rfl (zH rfl Tryz.isAgg9 rfl) (oP rfl (z7 rfl rfl rfl) (oZ rfl ?_)))
    refine jD rfl (fun hc2 => ?_) (fun hc2 => ?_)
    · skip
      refine jT rfl (oR 2 rfl (oZ rfl (zs rfl (zi (ze (zQ (zi (ze ?_))))))))
      exact zj Tryz.results164 (.cons (zB (zf rfl) (Cv.eq (congrArg (fun n => D.v (.int .i64 n)) (by exact idxN_at hx1 hf hc2)))) .nil) rfl HSub.none ⟨rfl, rfl⟩
    · skip
      refine zq rfl (zw (zc (za rfl (oP rfl (zS (c := ((k + 1 : Nat) : Int)) rfl rfl (zF (by omega) (by omega))) (oR 1 rfl (zg rfl ?_))))))
      exact pl1 (k + 1) (sa rfl) HSub.rfl' (idxN_next hx1 hf hc2) (by omega)
  · skip
    refine zE rfl (zr (zn (zh (zc (jT rfl (oR 1 rfl (oZ rfl (zs rfl ?_))))))))
    exact zj Tryz.results164 (.cons (zB (zf rfl) (Cv.eq (congrArg (fun n => D.v (.int .i64 n)) (by exact idxN_end (by omega) hf)))) .nil) rfl HSub.none ⟨rfl, rfl⟩

theorem containsS_c (ns : List ByteArray) (n : ByteArray)  :
    CD Tryz.prog 117 [] [.sh 1 (ns.map D.s), .s n] (isR (dB (hasN ns n))) := by
  refine zy Tryz.func117 rfl (N := 9) rfl rfl (fun C => ?_)
  refine jk [0, 1] rfl ?_
  refine JD.bd 0 rfl (fun bd0 => ?_)
  have nl0 := zZ bd0
  refine JD.bd 1 rfl (fun bd1 => ?_)
  have sz1 : n.size ≤ 9223372036854775807 := bd1
  refine jT rfl (oR 1 rfl (oZ rfl (jT rfl (oR 2 rfl (oW rfl rfl acs Tryz.call164 (indexS_c ns n) (oP rfl (z8 rfl rfl rfl) (oR 1 rfl (oZ rfl (zs rfl ?_)))))))))
  exact zj Tryz.results117 (.cons (zB (zf rfl) (Cv.eq (congrArg (fun b => D.v (.bool b)) (by exact idxN_has n ns 0)))) .nil) rfl HSub.none ⟨rfl, rfl⟩

theorem Compares_c (op : ByteArray)  :
    CD Tryz.prog 46 [] [.s op] (isR (dB (cmpB op))) := by
  refine zy Tryz.func46 rfl (N := 6) rfl rfl (fun C => ?_)
  refine jk [0] rfl ?_
  refine JD.bd 0 rfl (fun bd0 => ?_)
  have sz0 : op.size ≤ 9223372036854775807 := bd0
  refine jT rfl (oR 1 rfl (oZ rfl (jT rfl (oE rfl (Qu.ef (d := .sh 1 ([(⟨#[61, 61]⟩ : ByteArray), (⟨#[33, 61]⟩ : ByteArray), (⟨#[60]⟩ : ByteArray), (⟨#[60, 61]⟩ : ByteArray), (⟨#[62]⟩ : ByteArray), (⟨#[62, 61]⟩ : ByteArray)].map D.s)) ((zaN [.const (.string (⟨#[61, 61]⟩ : ByteArray)), .const (.string (⟨#[33, 61]⟩ : ByteArray)), .const (.string (⟨#[60]⟩ : ByteArray)), .const (.string (⟨#[60, 61]⟩ : ByteArray)), .const (.string (⟨#[62]⟩ : ByteArray)), .const (.string (⟨#[62, 61]⟩ : ByteArray))] rfl rfl (.cons (CellD.v rfl) (.cons (CellD.v rfl) (.cons (CellD.v rfl) (.cons (CellD.v rfl) (.cons (CellD.v rfl) (.cons (CellD.v rfl) .nil)))))) rfl Tryz.runUnderlying23 Tryz.sizeOf9 Tryz.zeroValue9 rfl rfl rfl rfl).cv (Cv.shs (.cons (Cv.str (by first | decide | (unfold maxLen; omega))) (.cons (Cv.str (by first | decide | (unfold maxLen; omega))) (.cons (Cv.str (by first | decide | (unfold maxLen; omega))) (.cons (Cv.str (by first | decide | (unfold maxLen; omega))) (.cons (Cv.str (by first | decide | (unfold maxLen; omega))) (.cons (Cv.str (by first | decide | (unfold maxLen; omega))) .nil))))))))) ?_))))
  rintro _ _ ⟨rfl, rfl⟩
  refine oR 1 rfl (oW rfl rfl acs Tryz.call117 (containsS_c [(⟨#[61, 61]⟩ : ByteArray), (⟨#[33, 61]⟩ : ByteArray), (⟨#[60]⟩ : ByteArray), (⟨#[60, 61]⟩ : ByteArray), (⟨#[62]⟩ : ByteArray), (⟨#[62, 61]⟩ : ByteArray)] op) (oR 1 rfl (oZ rfl (zs rfl ?_))))
  exact zj Tryz.results46 (.cons (zB (zf rfl) (Cv.eq (congrArg (fun b => D.v (.bool b)) (by rfl)))) .nil) rfl HSub.none ⟨rfl, rfl⟩

theorem divides_c (op : ByteArray) (a b : Int) (ha : -1000000000000 ≤ a ∧ a ≤ 1000000000000) :
    CD Tryz.prog 116 [] [.s op, dI a, dI b] (isR (.tup [dI ((divE op a b).1), dI ((divE op a b).2)])) := by
  refine zy Tryz.func116 rfl (N := 20) rfl rfl (fun C => ?_)
  refine jk [0, 1, 2] rfl ?_
  refine JD.bd 0 rfl (fun bd0 => ?_)
  have sz0 : op.size ≤ 9223372036854775807 := bd0
  refine jT rfl (oR 2 rfl (oZ rfl (jS rfl (jB rfl (jT rfl (oR 1 rfl (oP rfl (zV rfl rfl rfl) (oR 1 rfl (oZ rfl ?_)))))))))
  refine jD rfl (fun hc1 => ?_) (fun hc1 => ?_)
  · skip
    refine jT rfl (oR 2 rfl (oZ rfl (zs rfl (zi (ze ?_)))))
    exact zj Tryz.results116 (.cons (zB (zf rfl) (Cv.eq (congrArg (fun n => D.v (.int .i64 n)) (by unfold divE; simp [*])))) (.cons (zB (zf rfl) (Cv.eq (congrArg (fun n => D.v (.int .i64 n)) (by unfold divE; simp [*])))) .nil)) rfl HSub.none ⟨rfl, rfl⟩
  · skip
    refine jT rfl (oR 1 rfl (oP rfl (z7 rfl rfl rfl) (oR 1 rfl (oZ rfl ?_))))
    refine jD rfl (fun hc2 => ?_) (fun hc2 => ?_)
    · skip
      refine jT rfl (oR 2 rfl ?_)
      have htd := zdI a b
      refine oP rfl (zel (c := (Int.tdiv a b)) rfl rfl (by omega) (zF rfl (by omega))) (oR 2 rfl (oZ rfl (jk [1, 2, 6, 7] rfl (zs rfl (zi (ze ?_))))))
      exact zj Tryz.results116 (.cons (zB (zf rfl) (Cv.eq (congrArg (fun n => D.v (.int .i64 n)) (by unfold divE; simp [*])))) (.cons (zB (zf rfl) (Cv.eq (congrArg (fun n => D.v (.int .i64 n)) (by unfold divE; simp [*])))) .nil)) rfl HSub.none ⟨rfl, rfl⟩
    · skip
      refine zq rfl (zw (zc (jT rfl (oR 2 rfl (oP rfl (p_rem (c := (Int.tmod a b)) rfl rfl (by omega) rfl) (oR 2 rfl (oZ rfl (jk [6, 7] rfl (zs rfl ?_)))))))))
      exact zj Tryz.results116 (.cons (zB (zf rfl) (Cv.eq (congrArg (fun n => D.v (.int .i64 n)) (by unfold divE; simp [*])))) (.cons (zB (zf rfl) (Cv.eq (congrArg (fun n => D.v (.int .i64 n)) (by unfold divE; simp [*])))) .nil)) rfl HSub.none ⟨rfl, rfl⟩

theorem times_c (a b : Int) (ha : -1000000000000 ≤ a ∧ a ≤ 1000000000000) (hb : -1000000000000 ≤ b ∧ b ≤ 1000000000000) :
    CD Tryz.prog 115 [] [dI a, dI b] (isR (.tup [dI ((zbV a b).1), dI ((zbV a b).2)])) := by
  refine zy Tryz.func115 rfl (N := 27) rfl rfl (fun C => ?_)
  refine jk [0, 1] rfl (jT rfl (oR 2 rfl (oZ rfl (jS rfl (jS rfl (jk [0, 1, 4, 5] rfl ?_))))))
  refine zab 23 (((decide (a ≠ (0 : Int)) && decide (b ≠ (0 : Int))) && decide ((Int.tdiv 1000000000000 (max b (-b))) < (max a (-a))))) [] (fun _ hQ1 => ?_) ?_
  · skip
    by_cases hg2 : a ≠ (0 : Int)
    · skip
      by_cases hg3 : b ≠ (0 : Int)
      · skip
        refine za rfl (oR 1 rfl (oP rfl (zau rfl rfl (decide_eq_true hg2)) (oR 2 rfl (oG rfl (zau rfl rfl (decide_eq_true hg3)) (oR 4 rfl (oG rfl (p_neg rfl (c := (-a)) (zF (by omega) (by omega))) (oG rfl (p_max rfl rfl rfl) (oR 2 rfl (oG rfl (p_neg rfl (c := (-b)) (zF (by omega) (by omega))) (oG rfl (p_max rfl rfl rfl) ?_))))))))))
        have htd := zdI (1000000000000) (max b (-b))
        refine oG rfl (zel (c := (Int.tdiv 1000000000000 (max b (-b)))) rfl rfl (by omega) (zF rfl (by omega))) (oG rfl (zaz rfl rfl rfl) (oR 1 rfl (zg rfl ?_)))
        exact PD.sub ((23, dB ((decide (a ≠ (0 : Int)) && decide (b ≠ (0 : Int))) && decide ((Int.tdiv 1000000000000 (max b (-b))) < (max a (-a))))) :: [(0, dI a), (1, dI b), (4, dI 0), (5, dI 0)]) ⟨sc rfl (Cv.eq (congrArg (fun b => D.v (.bool b)) (by first | (simp [hg2, hg3]; done) | (simp_all; done)))), sk rfl, sk rfl, sk rfl, sk rfl, trivial⟩ hQ1
      · skip
        refine za rfl (oR 1 rfl (oP rfl (zau rfl rfl (decide_eq_true hg2)) (oR 2 rfl (oG rfl (zau rfl rfl (decide_eq_false hg3)) (oR 13 rfl (zg rfl ?_))))))
        exact PD.sub ((23, dB ((decide (a ≠ (0 : Int)) && decide (b ≠ (0 : Int))) && decide ((Int.tdiv 1000000000000 (max b (-b))) < (max a (-a))))) :: [(0, dI a), (1, dI b), (4, dI 0), (5, dI 0)]) ⟨sc rfl (Cv.eq (congrArg (fun b => D.v (.bool b)) (by first | (simp [hg2, hg3]; done) | (simp_all; done)))), sk rfl, sk rfl, sk rfl, sk rfl, trivial⟩ hQ1
    · skip
      refine za rfl (oR 1 rfl (oP rfl (zau rfl rfl (decide_eq_false hg2)) (oR 16 rfl (zg rfl ?_))))
      exact PD.sub ((23, dB ((decide (a ≠ (0 : Int)) && decide (b ≠ (0 : Int))) && decide ((Int.tdiv 1000000000000 (max b (-b))) < (max a (-a))))) :: [(0, dI a), (1, dI b), (4, dI 0), (5, dI 0)]) ⟨sc rfl (Cv.eq (congrArg (fun b => D.v (.bool b)) (by first | (simp [hg2]; done) | (simp_all; done)))), sk rfl, sk rfl, sk rfl, sk rfl, trivial⟩ hQ1
  · skip
    refine zc ?_
    refine jC rfl (fun hc4 => ?_) (fun hc4 => ?_)
    · simp only [bA, bB, bC, bD, bE, bF, bG, bH, bI, bJ] at hc4
      refine jT rfl (oR 2 rfl (oZ rfl (zs rfl (ze ?_))))
      exact zj Tryz.results115 (.cons (zB (zf rfl) (Cv.eq (congrArg (fun n => D.v (.int .i64 n)) (by unfold zbV; (split <;> first | rfl | (exfalso; omega)))))) (.cons (zB (zf rfl) (Cv.eq (congrArg (fun n => D.v (.int .i64 n)) (by unfold zbV; (split <;> first | rfl | (exfalso; omega)))))) .nil)) rfl HSub.none ⟨rfl, rfl⟩
    · simp only [bA, bB, bC, bD, bE, bF, bG, bH, bI, bJ] at hc4
      refine zq rfl (zc (jT rfl (oR 2 rfl ?_)))
      have hmb := times_bd (a := a) (b := b) (by have h := hc4; omega)
      refine oP rfl (zdV (c := (a * b)) rfl rfl (zF rfl (by omega))) (oR 2 rfl (oZ rfl (zs rfl ?_)))
      exact zj Tryz.results115 (.cons (zB (zf rfl) (Cv.eq (congrArg (fun n => D.v (.int .i64 n)) (by unfold zbV; (split <;> first | rfl | (exfalso; omega)))))) (.cons (zB (zf rfl) (Cv.eq (congrArg (fun n => D.v (.int .i64 n)) (by unfold zbV; (split <;> first | rfl | (exfalso; omega)))))) .nil)) rfl HSub.none ⟨rfl, rfl⟩

theorem Do_c (op : ByteArray) (a b : Int)  :
    CD Tryz.prog 45 [] [.s op, dI a, dI b] (isR (.tup [dI ((doE op a b).1), dI ((doE op a b).2)])) := by
  refine zy Tryz.func45 rfl (N := 64) rfl rfl (fun C => ?_)
  refine jk [0, 1, 2] rfl ?_
  refine JD.bd 0 rfl (fun bd0 => ?_)
  have sz0 : op.size ≤ 9223372036854775807 := bd0
  refine jT rfl (oR 2 rfl (oZ rfl (jS rfl (jS rfl (jk [0, 1, 2, 6, 7] rfl ?_)))))
  refine zab 15 ((!(zU a) || !(zU b))) [] (fun _ hQ1 => ?_) ?_
  · skip
    rcases Bool.eq_false_or_eq_true (zU a) with hg2 | hg2
    · skip
      refine za rfl (oR 1 rfl (oW rfl rfl acs Tryz.call44 (zda a) (os 9 rfl (congrArg (fun b => D.v (.bool b)) hg2) (oR 3 rfl (oV rfl rfl acs Tryz.call44 (zda b) (oG rfl (zaP rfl) (oR 1 rfl (zg rfl ?_))))))))
      exact PD.sub ((15, dB (!(zU a) || !(zU b))) :: [(0, .s op), (1, dI a), (2, dI b), (6, dI 0), (7, dI 0)]) ⟨sc rfl (Cv.eq (congrArg (fun b => D.v (.bool b)) (by first | (simp [hg2]; done) | (simp_all; done)))), sk rfl, sk rfl, sk rfl, sk rfl, sk rfl, trivial⟩ hQ1
    · skip
      refine za rfl (oR 1 rfl (oW rfl rfl acs Tryz.call44 (zda a) (os 9 rfl (congrArg (fun b => D.v (.bool b)) hg2) (oR 6 rfl (zg rfl ?_)))))
      exact PD.sub ((15, dB (!(zU a) || !(zU b))) :: [(0, .s op), (1, dI a), (2, dI b), (6, dI 0), (7, dI 0)]) ⟨sc rfl (Cv.eq (congrArg (fun b => D.v (.bool b)) (by first | (simp [hg2]; done) | (simp_all; done)))), sk rfl, sk rfl, sk rfl, sk rfl, sk rfl, trivial⟩ hQ1
  · skip
    refine zc ?_
    refine jC rfl (fun hc3 => ?_) (fun hc3 => ?_)
    · simp only [bA, bB, bC, bD, bE, bF, bG, bH, bI, bJ] at hc3
      refine jT rfl (oR 2 rfl (oZ rfl (zs rfl (ze ?_))))
      exact zj Tryz.results45 (.cons (zB (zf rfl) (Cv.eq (congrArg (fun n => D.v (.int .i64 n)) (by unfold doE; simp_all)))) (.cons (zB (zf rfl) (Cv.eq (congrArg (fun n => D.v (.int .i64 n)) (by unfold doE; simp_all)))) .nil)) rfl HSub.none ⟨rfl, rfl⟩
    · simp only [bA, bB, bC, bD, bE, bF, bG, bH, bI, bJ] at hc3
      have hr := hc3
      have hab : (-1000000000000 ≤ a ∧ a ≤ 1000000000000) ∧ (-1000000000000 ≤ b ∧ b ≤ 1000000000000) := by unfold zU at hr; simp only [Bool.and_eq_true, decide_eq_true_eq] at hr; omega
      obtain ⟨ha, hb⟩ := hab
      refine zq rfl (zc (jS rfl (jB rfl (jT rfl (oR 1 rfl (oW rfl rfl acs Tryz.call46 (Compares_c op) (oR 1 rfl (oZ rfl ?_))))))))
      refine jC rfl (fun hc4 => ?_) (fun hc4 => ?_)
      · skip
        refine jT rfl (oR 3 rfl (oW rfl rfl acs Tryz.call113 (compare_c op a b) (oR 4 rfl (oZ rfl (jk [6, 7] rfl (zs rfl (zi (ze ?_))))))))
        exact zj Tryz.results45 (.cons (zB (zf rfl) (Cv.eq (congrArg (fun n => D.v (.int .i64 n)) (by unfold doE; simp_all)))) (.cons (zB (zf rfl) (Cv.eq (congrArg (fun n => D.v (.int .i64 n)) (by unfold doE; simp_all)))) .nil)) rfl HSub.none ⟨rfl, rfl⟩
      · skip
        refine jT rfl (oR 1 rfl (oP rfl (z7 rfl rfl rfl) (oR 1 rfl (oZ rfl ?_))))
        refine jD rfl (fun hc5 => ?_) (fun hc5 => ?_)
        · skip
          refine jT rfl (oR 2 rfl (oP rfl (zS (c := (a + b)) rfl rfl (zF (by omega) (by omega))) (oW rfl rfl acs Tryz.call114 (within_c (a + b)) (oR 4 rfl (oZ rfl (jk [6, 7] rfl (zs rfl (zi (ze ?_)))))))))
          exact zj Tryz.results45 (.cons (zB (zf rfl) (Cv.eq (congrArg (fun n => D.v (.int .i64 n)) (by unfold doE; simp_all)))) (.cons (zB (zf rfl) (Cv.eq (congrArg (fun n => D.v (.int .i64 n)) (by unfold doE; simp_all)))) .nil)) rfl HSub.none ⟨rfl, rfl⟩
        · skip
          refine jT rfl (oR 1 rfl (oP rfl (z7 rfl rfl rfl) (oR 1 rfl (oZ rfl (jk [0, 1, 2, 6, 7, 34] rfl ?_)))))
          refine jD rfl (fun hc6 => ?_) (fun hc6 => ?_)
          · skip
            refine jT rfl (oR 2 rfl (oP rfl (zaG (c := (a - b)) rfl rfl (zF (by omega) (by omega))) (oW rfl rfl acs Tryz.call114 (within_c (a - b)) (oR 4 rfl (oZ rfl (jk [6, 7] rfl (zs rfl (zi (ze ?_)))))))))
            exact zj Tryz.results45 (.cons (zB (zf rfl) (Cv.eq (congrArg (fun n => D.v (.int .i64 n)) (by unfold doE; simp_all)))) (.cons (zB (zf rfl) (Cv.eq (congrArg (fun n => D.v (.int .i64 n)) (by unfold doE; simp_all)))) .nil)) rfl HSub.none ⟨rfl, rfl⟩
          · skip
            refine jT rfl (oR 1 rfl (oP rfl (z7 rfl rfl rfl) (oR 1 rfl (oZ rfl ?_))))
            refine jD rfl (fun hc7 => ?_) (fun hc7 => ?_)
            · skip
              refine jT rfl (oR 2 rfl (oW rfl rfl acs Tryz.call115 (times_c a b (by omega) (by omega)) (oR 4 rfl (oZ rfl (jk [6, 7] rfl (zs rfl (zi (ze ?_))))))))
              exact zj Tryz.results45 (.cons (zB (zf rfl) (Cv.eq (congrArg (fun n => D.v (.int .i64 n)) (by unfold doE; simp_all)))) (.cons (zB (zf rfl) (Cv.eq (congrArg (fun n => D.v (.int .i64 n)) (by unfold doE; simp_all)))) .nil)) rfl HSub.none ⟨rfl, rfl⟩
            · skip
              refine jS rfl (jk [0, 1, 2, 6, 7] rfl ?_)
              refine zab 51 ((decide (op = (⟨#[47]⟩ : ByteArray)) || decide (op = (⟨#[37]⟩ : ByteArray)))) [] (fun _ hQ8 => ?_) ?_
              · skip
                by_cases hg9 : op = (⟨#[47]⟩ : ByteArray)
                · skip
                  refine za rfl (oR 1 rfl (oP rfl (z7 rfl rfl (decide_eq_true hg9)) (oR 5 rfl (zg rfl ?_))))
                  exact PD.sub ((51, dB (decide (op = (⟨#[47]⟩ : ByteArray)) || decide (op = (⟨#[37]⟩ : ByteArray)))) :: [(0, .s op), (1, dI a), (2, dI b), (6, dI 0), (7, dI 0)]) ⟨sc rfl (Cv.eq (congrArg (fun b => D.v (.bool b)) (by first | (simp [hc4, hc5, hc6, hc7, hg9]; done) | (simp_all; done)))), sk rfl, sk rfl, sk rfl, sk rfl, sk rfl, trivial⟩ hQ8
                · skip
                  refine za rfl (oR 1 rfl (oP rfl (z7 rfl rfl (decide_eq_false hg9)) (oR 2 rfl (oG rfl (z7 rfl rfl rfl) (oR 2 rfl (zg rfl ?_))))))
                  exact PD.sub ((51, dB (decide (op = (⟨#[47]⟩ : ByteArray)) || decide (op = (⟨#[37]⟩ : ByteArray)))) :: [(0, .s op), (1, dI a), (2, dI b), (6, dI 0), (7, dI 0)]) ⟨sc rfl (Cv.eq (congrArg (fun b => D.v (.bool b)) (by first | (simp [hc4, hc5, hc6, hc7, hg9]; done) | (simp_all; done)))), sk rfl, sk rfl, sk rfl, sk rfl, sk rfl, trivial⟩ hQ8
              · skip
                refine zc ?_
                refine jC rfl (fun hc10 => ?_) (fun hc10 => ?_)
                · simp only [bA, bB, bC, bD, bE, bF, bG, bH, bI, bJ] at hc10
                  refine jT rfl (oR 3 rfl (oW rfl rfl acs Tryz.call116 (divides_c op a b (by omega)) (oR 4 rfl (oZ rfl (jk [6, 7] rfl (zs rfl (zi (ze ?_))))))))
                  exact zj Tryz.results45 (.cons (zB (zf rfl) (Cv.eq (congrArg (fun n => D.v (.int .i64 n)) (by unfold doE; simp_all)))) (.cons (zB (zf rfl) (Cv.eq (congrArg (fun n => D.v (.int .i64 n)) (by unfold doE; simp_all)))) .nil)) rfl HSub.none ⟨rfl, rfl⟩
                · simp only [bA, bB, bC, bD, bE, bF, bG, bH, bI, bJ] at hc10
                  refine zq rfl (zw (zc (jT rfl (oR 2 rfl (oZ rfl (zs rfl ?_))))))
                  exact zj Tryz.results45 (.cons (zB (zf rfl) (Cv.eq (congrArg (fun n => D.v (.int .i64 n)) (by unfold doE; simp_all)))) (.cons (zB (zf rfl) (Cv.eq (congrArg (fun n => D.v (.int .i64 n)) (by unfold doE; simp_all)))) .nil)) rfl HSub.none ⟨rfl, rfl⟩
end Lp
/-
  Texts of labels, as plain data: zaZ as bytes, quotation marks, joining.
-/
set_option linter.unusedVariables false
namespace Lp
open Go

/-- a rune as bytes -/
def encR (x : Nat) : List UInt8 :=
  if x ≤ 127 then [UInt8.ofNat (x % 256)]
  else if x ≤ 2047 then [UInt8.ofNat (192 + x / 64 % 256), UInt8.ofNat (128 + x % 256 % 64)]
  else if x < 55296 ∨ (57343 < x ∧ x ≤ 65535) then [UInt8.ofNat (224 + x / 4096 % 256), UInt8.ofNat (128 + x / 64 % 256 % 64), UInt8.ofNat (128 + x % 256 % 64)]
  else if 65535 < x ∧ x ≤ 1114111 then [UInt8.ofNat (240 + x / 262144 % 256), UInt8.ofNat (128 + x / 4096 % 256 % 64), UInt8.ofNat (128 + x / 64 % 256 % 64), UInt8.ofNat (128 + x % 256 % 64)]
  else [239, 191, 189]
theorem zdc (x : Nat) : (encR x).length ≤ 4 := by unfold encR; (repeat' split) <;> simp
def hasP (a b : ByteArray) : Bool := decide (b.size ≤ a.size) && decide (a.extract 0 b.size = b)
def wide : ByteArray := ⟨#[239, 191, 189]⟩
def hexd : ByteArray := ⟨#[48, 49, 50, 51, 52, 53, 54, 55, 56, 57, 97, 98, 99, 100, 101, 102]⟩
def hexB (n : Nat) : UInt8 := hexd[n]?.getD 0
def zdF (s : ByteArray) (p : Nat) : Nat := (s[p]?.getD 0).toNat
/-- what a rune becomes between quotation marks -/
def zcw (s : ByteArray) (p : Nat) : List UInt8 :=
  if decR s p = 34 ∨ decR s p = 92 then 92 :: encR (decR s p)
  else if decR s p = 10 then [92, 110]
  else if decR s p = 65533 ∧ hasP (s.extract p s.size) wide = false then [92, 120, hexB (zdF s p / 16), hexB (zdF s p % 16)]
  else encR (decR s p)
theorem piece_len (s : ByteArray) (p : Nat) : (zcw s p).length ≤ 5 := by
  have := zdc (decR s p)
  unfold zcw
  (repeat' split) <;> simp <;> omega
def zbf (s : ByteArray) (p : Nat) : List UInt8 := if h : p < s.size then zcw s p ++ zbf s (p + decW s p) else []
termination_by s.size - p
decreasing_by have := zay s p; omega
theorem zbv {s : ByteArray} {p : Nat} (h : p < s.size) : zbf s p = zcw s p ++ zbf s (p + decW s p) := by
  conv => lhs; unfold zbf
  rw [dif_pos h]
theorem zch {s : ByteArray} {p : Nat} (h : s.size ≤ p) : zbf s p = [] := by
  unfold zbf; rw [dif_neg (by omega)]
def quoteL (s : ByteArray) : List UInt8 := 34 :: (zbf s 0 ++ [34])
def zdi (s : ByteArray) : ByteArray := ⟨(quoteL s).toArray⟩
/-- texts, something between them -/
def zb3 (sep : ByteArray) : List ByteArray → List UInt8
  | [] => []
  | [x] => x.data.toList
  | x :: y :: r => x.data.toList ++ sep.data.toList ++ zb3 sep (y :: r)
def zd8 (sep : ByteArray) (l : List ByteArray) : ByteArray := ⟨(zb3 sep l).toArray⟩
def zdl (x : Lbl) : ByteArray := x.n ++ (⟨#[61]⟩ : ByteArray) ++ zdi x.v
def zcv (l : List Lbl) : ByteArray := (⟨#[123]⟩ : ByteArray) ++ zd8 ⟨#[44]⟩ (l.map zdl) ++ (⟨#[125]⟩ : ByteArray)

theorem piece_1 {s : ByteArray} {p : Nat} (h : decR s p = 34 ∨ decR s p = 92) : zcw s p = [92] ++ encR (decR s p) := by unfold zcw; rw [if_pos h]; rfl
theorem piece_2 {s : ByteArray} {p : Nat} (h : ¬ (decR s p = 34 ∨ decR s p = 92)) (h2 : decR s p = 10) : zcw s p = [92, 110] := by unfold zcw; rw [if_neg h, if_pos h2]
theorem piece_3 {s : ByteArray} {p : Nat} (h : ¬ (decR s p = 34 ∨ decR s p = 92)) (h2 : ¬ decR s p = 10) (h3 : decR s p = 65533 ∧ hasP (s.extract p s.size) wide = false) : zcw s p = [92, 120, hexB (zdF s p / 16), hexB (zdF s p % 16)] := by unfold zcw; rw [if_neg h, if_neg h2, if_pos h3]
theorem piece_4 {s : ByteArray} {p : Nat} (h : ¬ (decR s p = 34 ∨ decR s p = 92)) (h2 : ¬ decR s p = 10) (h3 : ¬ (decR s p = 65533 ∧ hasP (s.extract p s.size) wide = false)) : zcw s p = encR (decR s p) := by unfold zcw; rw [if_neg h, if_neg h2, if_neg h3]
theorem hexB_at {n : Nat} {u : UInt8} (h : hexd[n]? = some u) : u = hexB n := by unfold hexB; rw [h]; rfl
theorem byteAt_at {s : ByteArray} {p : Nat} {u : UInt8} (h : s[p]? = some u) : u.toNat = zdF s p := by unfold zdF; rw [h]; rfl
def zbd (l : List ByteArray) : Nat := (l.map ByteArray.size).sum
theorem zcf {l : List ByteArray} {k : Nat} {x : ByteArray} (h : l[k]? = some x) : zbd (l.take (k + 1)) = zbd (l.take k) + x.size := by
  rw [z0 h]; simp [zbd]
theorem zdo (l : List ByteArray) (k : Nat) : zbd (l.take k) ≤ zbd l := by
  conv => rhs; rw [← List.take_append_drop k l]
  unfold zbd; rw [List.map_append, List.sum_append]; omega
theorem joinL_snoc (sep : ByteArray) : ∀ (l : List ByteArray) (x : ByteArray), l ≠ [] → zb3 sep (l ++ [x]) = zb3 sep l ++ sep.data.toList ++ x.data.toList
  | [], x, h => absurd rfl h
  | [a], x, _ => by simp [zb3]
  | a :: b :: r, x, _ => by
    have := joinL_snoc sep (b :: r) x (by simp)
    show a.data.toList ++ sep.data.toList ++ zb3 sep ((b :: r) ++ [x]) = _
    rw [this]; simp [zb3, List.append_assoc]
theorem joinL_take {sep : ByteArray} {l : List ByteArray} {k : Nat} {x : ByteArray} (h : l[k + 1]? = some x) : zb3 sep (l.take (k + 2)) = zb3 sep (l.take (k + 1)) ++ sep.data.toList ++ x.data.toList := by
  rw [z0 h, joinL_snoc]
  intro e
  have h0 : (l.take (k + 1)).length = 0 := by rw [e]; rfl
  have hk := (List.getElem?_eq_some_iff.1 h).1
  rw [List.length_take] at h0
  omega
theorem joinL_one {sep : ByteArray} {l : List ByteArray} {x : ByteArray} (h : l[0]? = some x) : zb3 sep (l.take 1) = x.data.toList := by
  rw [show (1 : Nat) = 0 + 1 from rfl, z0 h]; simp [zb3]
theorem joinB_none {sep : ByteArray} {l : List ByteArray} (h : l.length = 0) : ByteArray.empty = zd8 sep l := by
  rw [List.eq_nil_of_length_eq_zero h]; rfl
theorem joinB_one {sep : ByteArray} {l : List ByteArray} {x : ByteArray} (h : l[0]? = some x) (hl : l.length = 1) : x = zd8 sep l := by
  have := joinL_one (sep := sep) h
  rw [List.take_of_length_le (by omega)] at this
  unfold zd8; rw [this]
theorem joinB_all {sep : ByteArray} {l : List ByteArray} {k : Nat} {bs : List UInt8} (h : bs = zb3 sep (l.take (k + 1))) (hl : l.length ≤ k + 1) : (⟨bs.toArray⟩ : ByteArray) = zd8 sep l := by
  rw [h, List.take_of_length_le hl]; rfl
theorem zbX (x : ByteArray) : x.data.toList.length = x.size := by simp
theorem quoteAt_len (s : ByteArray) : ∀ (n p : Nat), s.size - p = n → (zbf s p).length ≤ 5 * (s.size - p) := by
  intro n
  induction n using Nat.strongRecOn with
  | _ n ih =>
    intro p hp
    rcases Nat.lt_or_ge p s.size with h | h
    · have h1 := zay s p
      have h2 := piece_len s p
      rw [zbv h, List.length_append]
      have := ih (s.size - (p + decW s p)) (by omega) _ rfl
      omega
    · rw [zch h]; simp
theorem quoteB_size (s : ByteArray) : (zdi s).size ≤ 5 * s.size + 2 := by
  have := quoteAt_len s _ 0 rfl
  show (quoteL s).toArray.size ≤ _
  unfold quoteL
  simp only [List.size_toArray, List.length_cons, List.length_append, List.length_nil]
  omega
theorem partB_size (x : Lbl) : (zdl x).size ≤ x.n.size + 5 * x.v.size + 3 := by
  have := quoteB_size x.v
  unfold zdl
  simp only [ByteArray.size_append]
  have e : (⟨#[61]⟩ : ByteArray).size = 1 := rfl
  omega
theorem joinL_len {sep : ByteArray} (h : sep.size = 1) : ∀ l : List ByteArray, (zb3 sep l).length ≤ zbd l + l.length
  | [] => by simp [zb3]
  | [x] => by simp [zb3, zbd]
  | x :: y :: r => by
    have := joinL_len h (y :: r)
    simp only [zb3, List.length_append, zbX, zbd, List.map_cons, List.sum_cons, List.length_cons] at *
    omega
theorem joinB_size {sep : ByteArray} (h : sep.size = 1) (l : List ByteArray) : (zd8 sep l).size ≤ zbd l + l.length := by
  have := joinL_len h l
  show (zb3 sep l).toArray.size ≤ _
  simpa using this
theorem sumSz_part {l : List Lbl} (hz : ∀ x ∈ l, x.n.size ≤ 100000 ∧ x.v.size ≤ 100000) : zbd (l.map zdl) ≤ l.length * 600003 := by
  induction l with
  | nil => simp [zbd]
  | cons x r ih =>
    have h1 := partB_size x
    have h2 := hz x List.mem_cons_self
    have h3 := ih (fun y hy => hz y (List.mem_cons_of_mem _ hy))
    simp only [zbd, List.map_cons, List.sum_cons, List.length_cons] at *
    omega
theorem sumSz_parts {l : List Lbl} (hl : l.length ≤ 1000) (hz : ∀ x ∈ l, x.n.size ≤ 100000 ∧ x.v.size ≤ 100000) (k : Nat) : zbd ((l.take k).map zdl) ≤ 1000000000 := by
  have h1 := sumSz_part (l := l.take k) (fun x hx => hz x (List.mem_of_mem_take hx))
  rw [List.length_take] at h1
  omega
end Lp
/-
  What is said of labels (chapter 2), as plain data.
-/
set_option linter.unusedVariables false
namespace Lp
open Go

theorem cmpLs_self (a : List Lbl) : z1 a a = 0 := by have := cmpLs_neg a a; omega
theorem cmpLbl_eq {a b : Lbl} : zN a b = 0 ↔ a = b := by
  constructor
  · intro h
    unfold zN or2 at h
    split at h
    · contradiction
    · rename_i h1
      have h1 : cmpS a.n b.n = 0 := by omega
      have e1 := (zca _ _).1 h1
      have e2 := (zca _ _).1 h
      obtain ⟨_, _⟩ := a; obtain ⟨_, _⟩ := b; simp at e1 e2; simp [e1, e2]
  · rintro rfl; have := cmpLbl_neg a a; omega
theorem zdf : ∀ {a b : List Lbl}, z1 a b = 0 ↔ a = b
  | [], [] => by simp [z1]
  | [], _ :: _ => by simp [z1]
  | _ :: _, [] => by simp [z1]
  | a :: r, b :: s => by
    unfold z1
    split
    · rename_i h
      constructor
      · intro h'; contradiction
      · intro h'; cases h'; exact absurd (cmpLbl_eq.2 rfl) h
    · rename_i h
      have h : zN a b = 0 := by omega
      rw [zdf, cmpLbl_eq.1 h]; simp

/-! ### order -/
theorem isort_len' (l : List Lbl) : (zR zN l).length = l.length := zcA _ l rfl
theorem tidyL_len (l : List Lbl) : (zP l).length ≤ l.length := by
  unfold zP; cases zaa l
  · simp
  · simp [isort_len']
theorem tidyE_cases (l : List Lbl) : (zaY l = 0 ∧ zaa l = true ∧ zP l = zR zN l) ∨ (zaY l = 1 ∧ zP l = []) := by
  unfold zP zaY; cases zaa l <;> simp
theorem tidy_srt (l : List Lbl) : Srt zN (zP l) := by
  rcases tidyE_cases l with ⟨_, _, h⟩ | ⟨_, h⟩ <;> rw [h]
  · exact (zaB zcj _ l rfl).srt
  · exact List.Pairwise.nil
theorem tidy_ok_len {l : List Lbl} (h : zaa l = true) : l.length ≤ 8 := by unfold zaa at h; simp at h; exact h.1
theorem tidy_ok_b {l : List Lbl} (h : zaa l = true) : zdn (zR zN l) = true := by unfold zaa at h; simp at h; exact h.2
theorem runes_one {s : ByteArray} {r : Nat} (h0 : 0 < s.size) (h1 : decR s 0 = r) (h2 : s.size ≤ decW s 0) : zaZ s = [(r : Int)] := by
  unfold zaZ; rw [zbG h0, zcg (by omega), h1]
theorem name_a : zb8 ⟨#[97]⟩ = true := by unfold zb8; rw [runes_one (r := 97) (by decide) (by decide) (by decide)]; decide
end Lp
