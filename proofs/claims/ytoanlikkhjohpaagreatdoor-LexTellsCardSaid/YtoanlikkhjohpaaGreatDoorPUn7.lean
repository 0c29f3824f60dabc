/- Walks, printed by a program of mine. -/
import Derived.Test.YtoanlikkhjohpaaGreatDoorPRef7
set_option linter.unusedSimpArgs false
set_option linter.unusedVariables false
namespace Lp
open Go Go.RowKit Go.Proofs

namespace HdYtoanlikkhjohpaaGreatDoorV47
end HdYtoanlikkhjohpaaGreatDoorV47
open HdYtoanlikkhjohpaaGreatDoorV47

theorem zaf {l : List ByteArray} {s : ByteArray} (h : ∀ m ∈ l, ¬ s = m) : hasN l s = false := by
  unfold hasN
  rw [List.any_eq_false]
  intro m hm e
  rw [decide_eq_true_eq] at e
  exact h m hm e.symm

set_option maxHeartbeats 4000000 in
set_option maxRecDepth 100000 in
theorem rfirst_c (s : ByteArray) (hz : 0 < s.size) :
    CD Tryz.prog 16 [] [.s s] (isR (dR ((decR s 0 : Nat) : Int))) := by
  refine zH Tryz.func16 rfl (N := 11) rfl rfl (fun C => ?_)
  refine JD.keep [0] [(0, .s s)] rfl ?_
  refine JD.bd 0 rfl (fun bd0 => ?_)
  have sz0 : s.size ≤ 9223372036854775807 := bd0
  refine zf _ _ rfl rfl rfl (zb rfl (za rfl rfl (zd rfl) (zg rfl (ze (zf _ _ rfl rfl rfl (zf _ _ rfl rfl rfl (zb rfl (za rfl rfl (zc rfl) (zj rfl rfl (zbH rfl Tryz.runUnderlying9) ?_)))))))))
  rintro _ _ ⟨g1, rfl, rfl⟩
  refine zg rfl (ze (zB _ rfl rfl (zS (fun (g : Nat) => [(6, dP g1 0)]) (fun (g : Nat) => [.it g1 s g]) (fun (g : Nat) => (g ≤ s.size) ∧ (g = 0)) (fun (g : Nat) => s.size - g) _ 0 rfl rfl ⟨sk rfl, trivial⟩ HSub.rfl' ⟨Nat.zero_le _, rfl⟩ ?_)))
  rintro p ⟨hp, hp0⟩
  refine JD.keep [6] [(6, dP g1 0)] rfl (JD.norm [.it g1 s p] rfl ?_)
  rcases Nat.lt_or_ge p s.size with hlt | hge
  · skip
    have hrune := zaQ hlt
    have hrl := zbu s p
    have hdw := zan s p hlt
    have hdp := zY s p
    refine zf _ _ rfl rfl rfl (zb rfl (zj rfl rfl (zba (i := 0) rfl rfl hlt) ?_))
    rintro _ _ ⟨rfl, rfl⟩
    refine OpsD.norm [.it g1 s (p + decW s p)] rfl (za rfl rfl (zJ rfl rfl) (zg rfl (ze (zf _ _ rfl rfl rfl (zaB _ rfl rfl rfl (zy rfl (ze (zB _ rfl rfl (zf _ _ rfl rfl rfl (zb rfl (za rfl rfl (zJ rfl rfl) (za rfl rfl (zd rfl) (zg rfl (ze (zf _ _ rfl rfl rfl (zb rfl (za rfl rfl (zc rfl) (za rfl rfl (zd rfl) (zg rfl (ze (zu rfl (zn (zam (zn (zq ?_)))))))))))))))))))))))))
    exact zk Tryz.results16 (.cons (zC (zo rfl) (Cv.eq (congrArg (fun n => D.v (.int .i32 n)) (by rw [hp0])))) .nil) rfl HSub.none ⟨rfl, rfl⟩
  · skip
    have hrune := zaZ hge
    refine zf _ _ rfl rfl rfl (zb rfl (za rfl rfl (zbD (i := 0) rfl rfl hge) (za rfl rfl (zJ rfl rfl) (zg rfl (ze (zf _ _ rfl rfl rfl (zah _ rfl rfl rfl (zO rfl (zD (zz (zw (ze (zf _ _ rfl rfl rfl (zb rfl (za rfl rfl (zd rfl) (zg rfl (ze (zu rfl ?_))))))))))))))))))
    exact zk Tryz.results16 (.cons (zC (zo rfl) (Cv.eq (congrArg (fun n => D.v (.int .i32 n)) (by exfalso; omega)))) .nil) rfl HSub.none ⟨rfl, rfl⟩

set_option maxHeartbeats 4000000 in
set_option maxRecDepth 100000 in
theorem rwide_c (s : ByteArray) (hz : 0 < s.size) :
    CD Tryz.prog 97 [] [.s s] (isR (dN (decW s 0))) := by
  refine zH Tryz.func97 rfl (N := 14) rfl rfl (fun C => ?_)
  refine JD.keep [0] [(0, .s s)] rfl ?_
  refine JD.bd 0 rfl (fun bd0 => ?_)
  have sz0 : s.size ≤ 9223372036854775807 := bd0
  have hw0 := zan s 0 hz
  have hw1 := zY s 0
  refine zf _ _ rfl rfl rfl (zb rfl (za rfl rfl (zd rfl) (zg rfl (ze (zf _ _ rfl rfl rfl (zf _ _ rfl rfl rfl (zb rfl (za rfl rfl (zc rfl) (zj rfl rfl (zbH rfl Tryz.runUnderlying9) ?_)))))))))
  rintro _ _ ⟨g1, rfl, rfl⟩
  refine zg rfl (ze (zB _ rfl rfl (zS (fun (g : Nat) => [(0, .s s), (5, dP g1 0)]) (fun (g : Nat) => [.it g1 s g]) (fun (g : Nat) => (g ≤ s.size) ∧ (g = 0 ∨ g = decW s 0)) (fun (g : Nat) => s.size - g) _ 0 rfl rfl ⟨sk rfl, sk rfl, trivial⟩ HSub.rfl' ⟨Nat.zero_le _, .inl rfl⟩ ?_)))
  rintro p ⟨hp, hp0⟩
  refine JD.keep [0, 5] [(0, .s s), (5, dP g1 0)] rfl (JD.norm [.it g1 s p] rfl ?_)
  rcases Nat.lt_or_ge p s.size with hlt | hge
  · skip
    have hrune := zaQ hlt
    have hrl := zbu s p
    have hdw := zan s p hlt
    have hdp := zY s p
    refine zf _ _ rfl rfl rfl (zb rfl (zj rfl rfl (zba (i := 0) rfl rfl hlt) ?_))
    rintro _ _ ⟨rfl, rfl⟩
    refine OpsD.norm [.it g1 s (p + decW s p)] rfl (za rfl rfl (zJ rfl rfl) (zg rfl (ze (zf _ _ rfl rfl rfl (zaB _ rfl rfl rfl (zy rfl (ze (zB _ rfl rfl (zf _ _ rfl rfl rfl (zb rfl (za rfl rfl (zJ rfl rfl) (za rfl rfl (zd rfl) (zg rfl (ze (zf _ _ rfl rfl rfl (zb rfl (za rfl rfl (zc rfl) (za rfl rfl (zaM rfl rfl rfl) (zg rfl (ze ?_))))))))))))))))))))
    refine zl _ _ rfl rfl rfl rfl (fun hc2 => ?_) (fun hc2 => ?_)
    · replace hc2 := of_decide_eq_true hc2
      refine zf _ _ rfl rfl rfl (zb rfl (za rfl rfl (zc rfl) (za rfl rfl (zd rfl) (zg rfl (ze (zu rfl (zn (zam (zn (zq ?_))))))))))
      exact zk Tryz.results97 (.cons (zC (zo rfl) (Cv.eq (congrArg dN (by omega)))) .nil) rfl HSub.none ⟨rfl, rfl⟩
    · replace hc2 := of_decide_eq_false hc2
      refine zy rfl (zG ?_)
      exact zZ (p + decW s p) ⟨sk rfl, sk rfl, trivial⟩ HSub.rfl' ⟨by have := zan s p hlt; omega, .inr (by have hp1 : p = 0 := (by omega); rw [hp1, Nat.zero_add])⟩ (by have := zY s p; omega)
  · skip
    have hrune := zaZ hge
    refine zf _ _ rfl rfl rfl (zb rfl (za rfl rfl (zbD (i := 0) rfl rfl hge) (za rfl rfl (zJ rfl rfl) (zg rfl (ze (zf _ _ rfl rfl rfl (zah _ rfl rfl rfl (zO rfl (zD (zz (zw (ze (zf _ _ rfl rfl rfl (zb rfl (za rfl rfl (zc rfl) (za rfl rfl (zP rfl Tryz.runUnderlying9) (za rfl rfl (zd rfl) (zg rfl (ze (zu rfl ?_))))))))))))))))))))
    exact zk Tryz.results97 (.cons (zC (zo rfl) (Cv.eq (congrArg dN (by have hw0 := zan s 0 hz; have hw1 := zY s 0; omega)))) .nil) rfl HSub.none ⟨rfl, rfl⟩

set_option maxHeartbeats 4000000 in
set_option maxRecDepth 100000 in
theorem rSign_c (s : ByteArray)  :
    CD Tryz.prog 10 [] [.s s] (isR (dB (hasN zN s))) := by
  refine zH Tryz.func10 rfl (N := 26) rfl rfl (fun C => ?_)
  refine JD.keep [0] [(0, .s s)] rfl ?_
  refine JD.bd 0 rfl (fun bd0 => ?_)
  have sz0 : s.size ≤ 9223372036854775807 := bd0
  refine zf _ _ rfl rfl rfl (zb rfl (za rfl rfl (zd rfl) (zg rfl (ze (zf _ _ rfl rfl rfl (zf _ _ rfl rfl rfl (zb rfl (za rfl rfl (zc rfl) (zg rfl (ze (zB _ rfl rfl (zf _ _ rfl rfl rfl (zf _ _ rfl rfl rfl (zb rfl (za rfl rfl (zaD rfl rfl rfl) (za rfl rfl (zd rfl) (zg rfl (ze ?_))))))))))))))))))
  refine zl _ _ rfl rfl rfl rfl (fun hc1 => ?_) (fun hc1 => ?_)
  · replace hc1 := of_decide_eq_true hc1
    refine zy rfl (ze ?_)
    refine zl _ _ rfl rfl rfl rfl (fun hc2 => ?_) (fun hc2 => ?_)
    · replace hc2 := of_decide_eq_true hc2
      refine zf _ _ rfl rfl rfl (zb rfl (za rfl rfl (zd rfl) (zg rfl (ze (zu rfl (zn (zq ?_)))))))
      exact zk Tryz.results10 (.cons (zC (zo rfl) (Cv.eq (congrArg (fun b => D.v (.bool b)) (by first | (rw [hc2]; decide) | (exfalso; simp_all; done) | exact (zaf (by simp only [zN, List.forall_mem_cons]; exact ⟨by assumption, by assumption, by assumption, by assumption, by assumption, by assumption, by assumption, by assumption, by assumption, by assumption, by assumption, by assumption, by assumption, by assumption, by assumption, by assumption, by assumption, by assumption, by assumption, by assumption, by assumption, by simp⟩)).symm)))) .nil) rfl HSub.none ⟨rfl, rfl⟩
    · replace hc2 := of_decide_eq_false hc2
      refine zy rfl (zG (ze (zf _ _ rfl rfl rfl (zb rfl (za rfl rfl (zd rfl) (zg rfl (ze (zu rfl ?_))))))))
      exact zk Tryz.results10 (.cons (zC (zo rfl) (Cv.eq (congrArg (fun b => D.v (.bool b)) (by first | (rw [hc2]; decide) | (exfalso; simp_all; done) | exact (zaf (by simp only [zN, List.forall_mem_cons]; exact ⟨by assumption, by assumption, by assumption, by assumption, by assumption, by assumption, by assumption, by assumption, by assumption, by assumption, by assumption, by assumption, by assumption, by assumption, by assumption, by assumption, by assumption, by assumption, by assumption, by assumption, by assumption, by simp⟩)).symm)))) .nil) rfl HSub.none ⟨rfl, rfl⟩
  · replace hc1 := of_decide_eq_false hc1
    refine zf _ _ rfl rfl rfl (zb rfl (za rfl rfl (zaD rfl rfl rfl) (za rfl rfl (zd rfl) (zg rfl (ze ?_)))))
    refine zl _ _ rfl rfl rfl rfl (fun hc3 => ?_) (fun hc3 => ?_)
    · replace hc3 := of_decide_eq_true hc3
      refine zy rfl (ze ?_)
      refine zl _ _ rfl rfl rfl rfl (fun hc4 => ?_) (fun hc4 => ?_)
      · replace hc4 := of_decide_eq_true hc4
        refine zf _ _ rfl rfl rfl (zb rfl (za rfl rfl (zd rfl) (zg rfl (ze (zu rfl (zn (zq ?_)))))))
        exact zk Tryz.results10 (.cons (zC (zo rfl) (Cv.eq (congrArg (fun b => D.v (.bool b)) (by first | (rw [hc4]; decide) | (exfalso; simp_all; done) | exact (zaf (by simp only [zN, List.forall_mem_cons]; exact ⟨by assumption, by assumption, by assumption, by assumption, by assumption, by assumption, by assumption, by assumption, by assumption, by assumption, by assumption, by assumption, by assumption, by assumption, by assumption, by assumption, by assumption, by assumption, by assumption, by assumption, by assumption, by simp⟩)).symm)))) .nil) rfl HSub.none ⟨rfl, rfl⟩
      · replace hc4 := of_decide_eq_false hc4
        refine zy rfl (zG (ze (zf _ _ rfl rfl rfl (zb rfl (za rfl rfl (zd rfl) (zg rfl (ze (zu rfl ?_))))))))
        exact zk Tryz.results10 (.cons (zC (zo rfl) (Cv.eq (congrArg (fun b => D.v (.bool b)) (by first | (rw [hc4]; decide) | (exfalso; simp_all; done) | exact (zaf (by simp only [zN, List.forall_mem_cons]; exact ⟨by assumption, by assumption, by assumption, by assumption, by assumption, by assumption, by assumption, by assumption, by assumption, by assumption, by assumption, by assumption, by assumption, by assumption, by assumption, by assumption, by assumption, by assumption, by assumption, by assumption, by assumption, by simp⟩)).symm)))) .nil) rfl HSub.none ⟨rfl, rfl⟩
    · replace hc3 := of_decide_eq_false hc3
      refine zf _ _ rfl rfl rfl (zb rfl (za rfl rfl (zaD rfl rfl rfl) (za rfl rfl (zd rfl) (zg rfl (ze ?_)))))
      refine zl _ _ rfl rfl rfl rfl (fun hc5 => ?_) (fun hc5 => ?_)
      · replace hc5 := of_decide_eq_true hc5
        refine zy rfl (ze ?_)
        refine zl _ _ rfl rfl rfl rfl (fun hc6 => ?_) (fun hc6 => ?_)
        · replace hc6 := of_decide_eq_true hc6
          refine zf _ _ rfl rfl rfl (zb rfl (za rfl rfl (zd rfl) (zg rfl (ze (zu rfl (zn (zq ?_)))))))
          exact zk Tryz.results10 (.cons (zC (zo rfl) (Cv.eq (congrArg (fun b => D.v (.bool b)) (by first | (rw [hc6]; decide) | (exfalso; simp_all; done) | exact (zaf (by simp only [zN, List.forall_mem_cons]; exact ⟨by assumption, by assumption, by assumption, by assumption, by assumption, by assumption, by assumption, by assumption, by assumption, by assumption, by assumption, by assumption, by assumption, by assumption, by assumption, by assumption, by assumption, by assumption, by assumption, by assumption, by assumption, by simp⟩)).symm)))) .nil) rfl HSub.none ⟨rfl, rfl⟩
        · replace hc6 := of_decide_eq_false hc6
          refine zy rfl (zG (ze (zf _ _ rfl rfl rfl (zb rfl (za rfl rfl (zd rfl) (zg rfl (ze (zu rfl ?_))))))))
          exact zk Tryz.results10 (.cons (zC (zo rfl) (Cv.eq (congrArg (fun b => D.v (.bool b)) (by first | (rw [hc6]; decide) | (exfalso; simp_all; done) | exact (zaf (by simp only [zN, List.forall_mem_cons]; exact ⟨by assumption, by assumption, by assumption, by assumption, by assumption, by assumption, by assumption, by assumption, by assumption, by assumption, by assumption, by assumption, by assumption, by assumption, by assumption, by assumption, by assumption, by assumption, by assumption, by assumption, by assumption, by simp⟩)).symm)))) .nil) rfl HSub.none ⟨rfl, rfl⟩
      · replace hc5 := of_decide_eq_false hc5
        refine zf _ _ rfl rfl rfl (zb rfl (za rfl rfl (zaD rfl rfl rfl) (za rfl rfl (zd rfl) (zg rfl (ze ?_)))))
        refine zl _ _ rfl rfl rfl rfl (fun hc7 => ?_) (fun hc7 => ?_)
        · replace hc7 := of_decide_eq_true hc7
          refine zy rfl (ze ?_)
          refine zl _ _ rfl rfl rfl rfl (fun hc8 => ?_) (fun hc8 => ?_)
          · replace hc8 := of_decide_eq_true hc8
            refine zf _ _ rfl rfl rfl (zb rfl (za rfl rfl (zd rfl) (zg rfl (ze (zu rfl (zn (zq ?_)))))))
            exact zk Tryz.results10 (.cons (zC (zo rfl) (Cv.eq (congrArg (fun b => D.v (.bool b)) (by first | (rw [hc8]; decide) | (exfalso; simp_all; done) | exact (zaf (by simp only [zN, List.forall_mem_cons]; exact ⟨by assumption, by assumption, by assumption, by assumption, by assumption, by assumption, by assumption, by assumption, by assumption, by assumption, by assumption, by assumption, by assumption, by assumption, by assumption, by assumption, by assumption, by assumption, by assumption, by assumption, by assumption, by simp⟩)).symm)))) .nil) rfl HSub.none ⟨rfl, rfl⟩
          · replace hc8 := of_decide_eq_false hc8
            refine zy rfl (zG (ze (zf _ _ rfl rfl rfl (zb rfl (za rfl rfl (zd rfl) (zg rfl (ze (zu rfl ?_))))))))
            exact zk Tryz.results10 (.cons (zC (zo rfl) (Cv.eq (congrArg (fun b => D.v (.bool b)) (by first | (rw [hc8]; decide) | (exfalso; simp_all; done) | exact (zaf (by simp only [zN, List.forall_mem_cons]; exact ⟨by assumption, by assumption, by assumption, by assumption, by assumption, by assumption, by assumption, by assumption, by assumption, by assumption, by assumption, by assumption, by assumption, by assumption, by assumption, by assumption, by assumption, by assumption, by assumption, by assumption, by assumption, by simp⟩)).symm)))) .nil) rfl HSub.none ⟨rfl, rfl⟩
        · replace hc7 := of_decide_eq_false hc7
          refine zf _ _ rfl rfl rfl (zb rfl (za rfl rfl (zaD rfl rfl rfl) (za rfl rfl (zd rfl) (zg rfl (ze ?_)))))
          refine zl _ _ rfl rfl rfl rfl (fun hc9 => ?_) (fun hc9 => ?_)
          · replace hc9 := of_decide_eq_true hc9
            refine zy rfl (ze ?_)
            refine zl _ _ rfl rfl rfl rfl (fun hc10 => ?_) (fun hc10 => ?_)
            · replace hc10 := of_decide_eq_true hc10
              refine zf _ _ rfl rfl rfl (zb rfl (za rfl rfl (zd rfl) (zg rfl (ze (zu rfl (zn (zq ?_)))))))
              exact zk Tryz.results10 (.cons (zC (zo rfl) (Cv.eq (congrArg (fun b => D.v (.bool b)) (by first | (rw [hc10]; decide) | (exfalso; simp_all; done) | exact (zaf (by simp only [zN, List.forall_mem_cons]; exact ⟨by assumption, by assumption, by assumption, by assumption, by assumption, by assumption, by assumption, by assumption, by assumption, by assumption, by assumption, by assumption, by assumption, by assumption, by assumption, by assumption, by assumption, by assumption, by assumption, by assumption, by assumption, by simp⟩)).symm)))) .nil) rfl HSub.none ⟨rfl, rfl⟩
            · replace hc10 := of_decide_eq_false hc10
              refine zy rfl (zG (ze (zf _ _ rfl rfl rfl (zb rfl (za rfl rfl (zd rfl) (zg rfl (ze (zu rfl ?_))))))))
              exact zk Tryz.results10 (.cons (zC (zo rfl) (Cv.eq (congrArg (fun b => D.v (.bool b)) (by first | (rw [hc10]; decide) | (exfalso; simp_all; done) | exact (zaf (by simp only [zN, List.forall_mem_cons]; exact ⟨by assumption, by assumption, by assumption, by assumption, by assumption, by assumption, by assumption, by assumption, by assumption, by assumption, by assumption, by assumption, by assumption, by assumption, by assumption, by assumption, by assumption, by assumption, by assumption, by assumption, by assumption, by simp⟩)).symm)))) .nil) rfl HSub.none ⟨rfl, rfl⟩
          · replace hc9 := of_decide_eq_false hc9
            refine zf _ _ rfl rfl rfl (zb rfl (za rfl rfl (zaD rfl rfl rfl) (za rfl rfl (zd rfl) (zg rfl (ze ?_)))))
            refine zl _ _ rfl rfl rfl rfl (fun hc11 => ?_) (fun hc11 => ?_)
            · replace hc11 := of_decide_eq_true hc11
              refine zy rfl (ze ?_)
              refine zl _ _ rfl rfl rfl rfl (fun hc12 => ?_) (fun hc12 => ?_)
              · replace hc12 := of_decide_eq_true hc12
                refine zf _ _ rfl rfl rfl (zb rfl (za rfl rfl (zd rfl) (zg rfl (ze (JD.keep [2] [(2, dB true)] rfl (zu rfl (zn (zq ?_))))))))
                exact zk Tryz.results10 (.cons (zC (zo rfl) (Cv.eq (congrArg (fun b => D.v (.bool b)) (by first | (rw [hc12]; decide) | (exfalso; simp_all; done) | exact (zaf (by simp only [zN, List.forall_mem_cons]; exact ⟨by assumption, by assumption, by assumption, by assumption, by assumption, by assumption, by assumption, by assumption, by assumption, by assumption, by assumption, by assumption, by assumption, by assumption, by assumption, by assumption, by assumption, by assumption, by assumption, by assumption, by assumption, by simp⟩)).symm)))) .nil) rfl HSub.none ⟨rfl, rfl⟩
              · replace hc12 := of_decide_eq_false hc12
                refine zy rfl (zG (ze (JD.keep [2] [(2, dB false)] rfl (zf _ _ rfl rfl rfl (zb rfl (za rfl rfl (zd rfl) (zg rfl (ze (zu rfl ?_)))))))))
                exact zk Tryz.results10 (.cons (zC (zo rfl) (Cv.eq (congrArg (fun b => D.v (.bool b)) (by first | (rw [hc12]; decide) | (exfalso; simp_all; done) | exact (zaf (by simp only [zN, List.forall_mem_cons]; exact ⟨by assumption, by assumption, by assumption, by assumption, by assumption, by assumption, by assumption, by assumption, by assumption, by assumption, by assumption, by assumption, by assumption, by assumption, by assumption, by assumption, by assumption, by assumption, by assumption, by assumption, by assumption, by simp⟩)).symm)))) .nil) rfl HSub.none ⟨rfl, rfl⟩
            · replace hc11 := of_decide_eq_false hc11
              refine zf _ _ rfl rfl rfl (zb rfl (za rfl rfl (zaD rfl rfl rfl) (za rfl rfl (zd rfl) (zg rfl (ze ?_)))))
              refine zl _ _ rfl rfl rfl rfl (fun hc13 => ?_) (fun hc13 => ?_)
              · replace hc13 := of_decide_eq_true hc13
                refine zy rfl (ze (JD.keep [2, 4] [(2, dB false), (4, dB (decide (s = (⟨#[41]⟩ : ByteArray))))] rfl ?_))
                refine zl _ _ rfl rfl rfl rfl (fun hc14 => ?_) (fun hc14 => ?_)
                · replace hc14 := of_decide_eq_true hc14
                  refine zf _ _ rfl rfl rfl (zb rfl (za rfl rfl (zd rfl) (zg rfl (ze (zu rfl (zn (zq ?_)))))))
                  exact zk Tryz.results10 (.cons (zC (zo rfl) (Cv.eq (congrArg (fun b => D.v (.bool b)) (by first | (rw [hc14]; decide) | (exfalso; simp_all; done) | exact (zaf (by simp only [zN, List.forall_mem_cons]; exact ⟨by assumption, by assumption, by assumption, by assumption, by assumption, by assumption, by assumption, by assumption, by assumption, by assumption, by assumption, by assumption, by assumption, by assumption, by assumption, by assumption, by assumption, by assumption, by assumption, by assumption, by assumption, by simp⟩)).symm)))) .nil) rfl HSub.none ⟨rfl, rfl⟩
                · replace hc14 := of_decide_eq_false hc14
                  refine zy rfl (zG (ze (zf _ _ rfl rfl rfl (zb rfl (za rfl rfl (zd rfl) (zg rfl (ze (zu rfl ?_))))))))
                  exact zk Tryz.results10 (.cons (zC (zo rfl) (Cv.eq (congrArg (fun b => D.v (.bool b)) (by first | (rw [hc14]; decide) | (exfalso; simp_all; done) | exact (zaf (by simp only [zN, List.forall_mem_cons]; exact ⟨by assumption, by assumption, by assumption, by assumption, by assumption, by assumption, by assumption, by assumption, by assumption, by assumption, by assumption, by assumption, by assumption, by assumption, by assumption, by assumption, by assumption, by assumption, by assumption, by assumption, by assumption, by simp⟩)).symm)))) .nil) rfl HSub.none ⟨rfl, rfl⟩
              · replace hc13 := of_decide_eq_false hc13
                refine zf _ _ rfl rfl rfl (zb rfl (za rfl rfl (zaD rfl rfl rfl) (za rfl rfl (zd rfl) (zg rfl (ze (JD.keep [2, 3, 4] [(2, dB false), (3, .s s), (4, dB (decide (s = (⟨#[123]⟩ : ByteArray))))] rfl ?_))))))
                refine zl _ _ rfl rfl rfl rfl (fun hc15 => ?_) (fun hc15 => ?_)
                · replace hc15 := of_decide_eq_true hc15
                  refine zy rfl (ze ?_)
                  refine zl _ _ rfl rfl rfl rfl (fun hc16 => ?_) (fun hc16 => ?_)
                  · replace hc16 := of_decide_eq_true hc16
                    refine zf _ _ rfl rfl rfl (zb rfl (za rfl rfl (zd rfl) (zg rfl (ze (zu rfl (zn (zq ?_)))))))
                    exact zk Tryz.results10 (.cons (zC (zo rfl) (Cv.eq (congrArg (fun b => D.v (.bool b)) (by first | (rw [hc16]; decide) | (exfalso; simp_all; done) | exact (zaf (by simp only [zN, List.forall_mem_cons]; exact ⟨by assumption, by assumption, by assumption, by assumption, by assumption, by assumption, by assumption, by assumption, by assumption, by assumption, by assumption, by assumption, by assumption, by assumption, by assumption, by assumption, by assumption, by assumption, by assumption, by assumption, by assumption, by simp⟩)).symm)))) .nil) rfl HSub.none ⟨rfl, rfl⟩
                  · replace hc16 := of_decide_eq_false hc16
                    refine zy rfl (zG (ze (zf _ _ rfl rfl rfl (zb rfl (za rfl rfl (zd rfl) (zg rfl (ze (zu rfl ?_))))))))
                    exact zk Tryz.results10 (.cons (zC (zo rfl) (Cv.eq (congrArg (fun b => D.v (.bool b)) (by first | (rw [hc16]; decide) | (exfalso; simp_all; done) | exact (zaf (by simp only [zN, List.forall_mem_cons]; exact ⟨by assumption, by assumption, by assumption, by assumption, by assumption, by assumption, by assumption, by assumption, by assumption, by assumption, by assumption, by assumption, by assumption, by assumption, by assumption, by assumption, by assumption, by assumption, by assumption, by assumption, by assumption, by simp⟩)).symm)))) .nil) rfl HSub.none ⟨rfl, rfl⟩
                · replace hc15 := of_decide_eq_false hc15
                  refine zf _ _ rfl rfl rfl (zb rfl (za rfl rfl (zaD rfl rfl rfl) (za rfl rfl (zd rfl) (zg rfl (ze ?_)))))
                  refine zl _ _ rfl rfl rfl rfl (fun hc17 => ?_) (fun hc17 => ?_)
                  · replace hc17 := of_decide_eq_true hc17
                    refine zy rfl (ze ?_)
                    refine zl _ _ rfl rfl rfl rfl (fun hc18 => ?_) (fun hc18 => ?_)
                    · replace hc18 := of_decide_eq_true hc18
                      refine zf _ _ rfl rfl rfl (zb rfl (za rfl rfl (zd rfl) (zg rfl (ze (zu rfl (zn (zq ?_)))))))
                      exact zk Tryz.results10 (.cons (zC (zo rfl) (Cv.eq (congrArg (fun b => D.v (.bool b)) (by first | (rw [hc18]; decide) | (exfalso; simp_all; done) | exact (zaf (by simp only [zN, List.forall_mem_cons]; exact ⟨by assumption, by assumption, by assumption, by assumption, by assumption, by assumption, by assumption, by assumption, by assumption, by assumption, by assumption, by assumption, by assumption, by assumption, by assumption, by assumption, by assumption, by assumption, by assumption, by assumption, by assumption, by simp⟩)).symm)))) .nil) rfl HSub.none ⟨rfl, rfl⟩
                    · replace hc18 := of_decide_eq_false hc18
                      refine zy rfl (zG (ze (zf _ _ rfl rfl rfl (zb rfl (za rfl rfl (zd rfl) (zg rfl (ze (zu rfl ?_))))))))
                      exact zk Tryz.results10 (.cons (zC (zo rfl) (Cv.eq (congrArg (fun b => D.v (.bool b)) (by first | (rw [hc18]; decide) | (exfalso; simp_all; done) | exact (zaf (by simp only [zN, List.forall_mem_cons]; exact ⟨by assumption, by assumption, by assumption, by assumption, by assumption, by assumption, by assumption, by assumption, by assumption, by assumption, by assumption, by assumption, by assumption, by assumption, by assumption, by assumption, by assumption, by assumption, by assumption, by assumption, by assumption, by simp⟩)).symm)))) .nil) rfl HSub.none ⟨rfl, rfl⟩
                  · replace hc17 := of_decide_eq_false hc17
                    refine zf _ _ rfl rfl rfl (zb rfl (za rfl rfl (zaD rfl rfl rfl) (za rfl rfl (zd rfl) (zg rfl (ze ?_)))))
                    refine zl _ _ rfl rfl rfl rfl (fun hc19 => ?_) (fun hc19 => ?_)
                    · replace hc19 := of_decide_eq_true hc19
                      refine zy rfl (ze ?_)
                      refine zl _ _ rfl rfl rfl rfl (fun hc20 => ?_) (fun hc20 => ?_)
                      · replace hc20 := of_decide_eq_true hc20
                        refine zf _ _ rfl rfl rfl (zb rfl (za rfl rfl (zd rfl) (zg rfl (ze (zu rfl (zn (zq ?_)))))))
                        exact zk Tryz.results10 (.cons (zC (zo rfl) (Cv.eq (congrArg (fun b => D.v (.bool b)) (by first | (rw [hc20]; decide) | (exfalso; simp_all; done) | exact (zaf (by simp only [zN, List.forall_mem_cons]; exact ⟨by assumption, by assumption, by assumption, by assumption, by assumption, by assumption, by assumption, by assumption, by assumption, by assumption, by assumption, by assumption, by assumption, by assumption, by assumption, by assumption, by assumption, by assumption, by assumption, by assumption, by assumption, by simp⟩)).symm)))) .nil) rfl HSub.none ⟨rfl, rfl⟩
                      · replace hc20 := of_decide_eq_false hc20
                        refine zy rfl (zG (ze (zf _ _ rfl rfl rfl (zb rfl (za rfl rfl (zd rfl) (zg rfl (ze (zu rfl ?_))))))))
                        exact zk Tryz.results10 (.cons (zC (zo rfl) (Cv.eq (congrArg (fun b => D.v (.bool b)) (by first | (rw [hc20]; decide) | (exfalso; simp_all; done) | exact (zaf (by simp only [zN, List.forall_mem_cons]; exact ⟨by assumption, by assumption, by assumption, by assumption, by assumption, by assumption, by assumption, by assumption, by assumption, by assumption, by assumption, by assumption, by assumption, by assumption, by assumption, by assumption, by assumption, by assumption, by assumption, by assumption, by assumption, by simp⟩)).symm)))) .nil) rfl HSub.none ⟨rfl, rfl⟩
                    · replace hc19 := of_decide_eq_false hc19
                      refine zf _ _ rfl rfl rfl (zb rfl (za rfl rfl (zaD rfl rfl rfl) (za rfl rfl (zd rfl) (zg rfl (ze ?_)))))
                      refine zl _ _ rfl rfl rfl rfl (fun hc21 => ?_) (fun hc21 => ?_)
                      · replace hc21 := of_decide_eq_true hc21
                        refine zy rfl (ze ?_)
                        refine zl _ _ rfl rfl rfl rfl (fun hc22 => ?_) (fun hc22 => ?_)
                        · replace hc22 := of_decide_eq_true hc22
                          refine zf _ _ rfl rfl rfl (zb rfl (za rfl rfl (zd rfl) (zg rfl (ze (zu rfl (zn (zq ?_)))))))
                          exact zk Tryz.results10 (.cons (zC (zo rfl) (Cv.eq (congrArg (fun b => D.v (.bool b)) (by first | (rw [hc22]; decide) | (exfalso; simp_all; done) | exact (zaf (by simp only [zN, List.forall_mem_cons]; exact ⟨by assumption, by assumption, by assumption, by assumption, by assumption, by assumption, by assumption, by assumption, by assumption, by assumption, by assumption, by assumption, by assumption, by assumption, by assumption, by assumption, by assumption, by assumption, by assumption, by assumption, by assumption, by simp⟩)).symm)))) .nil) rfl HSub.none ⟨rfl, rfl⟩
                        · replace hc22 := of_decide_eq_false hc22
                          refine zy rfl (zG (ze (zf _ _ rfl rfl rfl (zb rfl (za rfl rfl (zd rfl) (zg rfl (ze (zu rfl ?_))))))))
                          exact zk Tryz.results10 (.cons (zC (zo rfl) (Cv.eq (congrArg (fun b => D.v (.bool b)) (by first | (rw [hc22]; decide) | (exfalso; simp_all; done) | exact (zaf (by simp only [zN, List.forall_mem_cons]; exact ⟨by assumption, by assumption, by assumption, by assumption, by assumption, by assumption, by assumption, by assumption, by assumption, by assumption, by assumption, by assumption, by assumption, by assumption, by assumption, by assumption, by assumption, by assumption, by assumption, by assumption, by assumption, by simp⟩)).symm)))) .nil) rfl HSub.none ⟨rfl, rfl⟩
                      · replace hc21 := of_decide_eq_false hc21
                        refine zf _ _ rfl rfl rfl (zb rfl (za rfl rfl (zaD rfl rfl rfl) (za rfl rfl (zd rfl) (zg rfl (ze ?_)))))
                        refine zl _ _ rfl rfl rfl rfl (fun hc23 => ?_) (fun hc23 => ?_)
                        · replace hc23 := of_decide_eq_true hc23
                          refine zy rfl (ze ?_)
                          refine zl _ _ rfl rfl rfl rfl (fun hc24 => ?_) (fun hc24 => ?_)
                          · replace hc24 := of_decide_eq_true hc24
                            refine zf _ _ rfl rfl rfl (zb rfl (za rfl rfl (zd rfl) (zg rfl (ze (zu rfl (zn (zq ?_)))))))
                            exact zk Tryz.results10 (.cons (zC (zo rfl) (Cv.eq (congrArg (fun b => D.v (.bool b)) (by first | (rw [hc24]; decide) | (exfalso; simp_all; done) | exact (zaf (by simp only [zN, List.forall_mem_cons]; exact ⟨by assumption, by assumption, by assumption, by assumption, by assumption, by assumption, by assumption, by assumption, by assumption, by assumption, by assumption, by assumption, by assumption, by assumption, by assumption, by assumption, by assumption, by assumption, by assumption, by assumption, by assumption, by simp⟩)).symm)))) .nil) rfl HSub.none ⟨rfl, rfl⟩
                          · replace hc24 := of_decide_eq_false hc24
                            refine zy rfl (zG (ze (zf _ _ rfl rfl rfl (zb rfl (za rfl rfl (zd rfl) (zg rfl (ze (zu rfl ?_))))))))
                            exact zk Tryz.results10 (.cons (zC (zo rfl) (Cv.eq (congrArg (fun b => D.v (.bool b)) (by first | (rw [hc24]; decide) | (exfalso; simp_all; done) | exact (zaf (by simp only [zN, List.forall_mem_cons]; exact ⟨by assumption, by assumption, by assumption, by assumption, by assumption, by assumption, by assumption, by assumption, by assumption, by assumption, by assumption, by assumption, by assumption, by assumption, by assumption, by assumption, by assumption, by assumption, by assumption, by assumption, by assumption, by simp⟩)).symm)))) .nil) rfl HSub.none ⟨rfl, rfl⟩
                        · replace hc23 := of_decide_eq_false hc23
                          refine zf _ _ rfl rfl rfl (zb rfl (za rfl rfl (zaD rfl rfl rfl) (za rfl rfl (zd rfl) (zg rfl (ze ?_)))))
                          refine zl _ _ rfl rfl rfl rfl (fun hc25 => ?_) (fun hc25 => ?_)
                          · replace hc25 := of_decide_eq_true hc25
                            refine zy rfl (ze ?_)
                            refine zl _ _ rfl rfl rfl rfl (fun hc26 => ?_) (fun hc26 => ?_)
                            · replace hc26 := of_decide_eq_true hc26
                              refine zf _ _ rfl rfl rfl (zb rfl (za rfl rfl (zd rfl) (zg rfl (ze (zu rfl (zn (zq ?_)))))))
                              exact zk Tryz.results10 (.cons (zC (zo rfl) (Cv.eq (congrArg (fun b => D.v (.bool b)) (by first | (rw [hc26]; decide) | (exfalso; simp_all; done) | exact (zaf (by simp only [zN, List.forall_mem_cons]; exact ⟨by assumption, by assumption, by assumption, by assumption, by assumption, by assumption, by assumption, by assumption, by assumption, by assumption, by assumption, by assumption, by assumption, by assumption, by assumption, by assumption, by assumption, by assumption, by assumption, by assumption, by assumption, by simp⟩)).symm)))) .nil) rfl HSub.none ⟨rfl, rfl⟩
                            · replace hc26 := of_decide_eq_false hc26
                              refine zy rfl (zG (ze (zf _ _ rfl rfl rfl (zb rfl (za rfl rfl (zd rfl) (zg rfl (ze (zu rfl ?_))))))))
                              exact zk Tryz.results10 (.cons (zC (zo rfl) (Cv.eq (congrArg (fun b => D.v (.bool b)) (by first | (rw [hc26]; decide) | (exfalso; simp_all; done) | exact (zaf (by simp only [zN, List.forall_mem_cons]; exact ⟨by assumption, by assumption, by assumption, by assumption, by assumption, by assumption, by assumption, by assumption, by assumption, by assumption, by assumption, by assumption, by assumption, by assumption, by assumption, by assumption, by assumption, by assumption, by assumption, by assumption, by assumption, by simp⟩)).symm)))) .nil) rfl HSub.none ⟨rfl, rfl⟩
                          · replace hc25 := of_decide_eq_false hc25
                            refine zf _ _ rfl rfl rfl (zb rfl (za rfl rfl (zaD rfl rfl rfl) (za rfl rfl (zd rfl) (zg rfl (ze ?_)))))
                            refine zl _ _ rfl rfl rfl rfl (fun hc27 => ?_) (fun hc27 => ?_)
                            · replace hc27 := of_decide_eq_true hc27
                              refine zy rfl (ze ?_)
                              refine zl _ _ rfl rfl rfl rfl (fun hc28 => ?_) (fun hc28 => ?_)
                              · replace hc28 := of_decide_eq_true hc28
                                refine zf _ _ rfl rfl rfl (zb rfl (za rfl rfl (zd rfl) (zg rfl (ze (zu rfl (zn (zq ?_)))))))
                                exact zk Tryz.results10 (.cons (zC (zo rfl) (Cv.eq (congrArg (fun b => D.v (.bool b)) (by first | (rw [hc28]; decide) | (exfalso; simp_all; done) | exact (zaf (by simp only [zN, List.forall_mem_cons]; exact ⟨by assumption, by assumption, by assumption, by assumption, by assumption, by assumption, by assumption, by assumption, by assumption, by assumption, by assumption, by assumption, by assumption, by assumption, by assumption, by assumption, by assumption, by assumption, by assumption, by assumption, by assumption, by simp⟩)).symm)))) .nil) rfl HSub.none ⟨rfl, rfl⟩
                              · replace hc28 := of_decide_eq_false hc28
                                refine zy rfl (zG (ze (zf _ _ rfl rfl rfl (zb rfl (za rfl rfl (zd rfl) (zg rfl (ze (zu rfl ?_))))))))
                                exact zk Tryz.results10 (.cons (zC (zo rfl) (Cv.eq (congrArg (fun b => D.v (.bool b)) (by first | (rw [hc28]; decide) | (exfalso; simp_all; done) | exact (zaf (by simp only [zN, List.forall_mem_cons]; exact ⟨by assumption, by assumption, by assumption, by assumption, by assumption, by assumption, by assumption, by assumption, by assumption, by assumption, by assumption, by assumption, by assumption, by assumption, by assumption, by assumption, by assumption, by assumption, by assumption, by assumption, by assumption, by simp⟩)).symm)))) .nil) rfl HSub.none ⟨rfl, rfl⟩
                            · replace hc27 := of_decide_eq_false hc27
                              refine zf _ _ rfl rfl rfl (zb rfl (za rfl rfl (zaD rfl rfl rfl) (za rfl rfl (zd rfl) (zg rfl (ze ?_)))))
                              refine zl _ _ rfl rfl rfl rfl (fun hc29 => ?_) (fun hc29 => ?_)
                              · replace hc29 := of_decide_eq_true hc29
                                refine zy rfl (ze ?_)
                                refine zl _ _ rfl rfl rfl rfl (fun hc30 => ?_) (fun hc30 => ?_)
                                · replace hc30 := of_decide_eq_true hc30
                                  refine zf _ _ rfl rfl rfl (zb rfl (za rfl rfl (zd rfl) (zg rfl (ze (JD.keep [2] [(2, dB true)] rfl (zu rfl (zn (zq ?_))))))))
                                  exact zk Tryz.results10 (.cons (zC (zo rfl) (Cv.eq (congrArg (fun b => D.v (.bool b)) (by first | (rw [hc30]; decide) | (exfalso; simp_all; done) | exact (zaf (by simp only [zN, List.forall_mem_cons]; exact ⟨by assumption, by assumption, by assumption, by assumption, by assumption, by assumption, by assumption, by assumption, by assumption, by assumption, by assumption, by assumption, by assumption, by assumption, by assumption, by assumption, by assumption, by assumption, by assumption, by assumption, by assumption, by simp⟩)).symm)))) .nil) rfl HSub.none ⟨rfl, rfl⟩
                                · replace hc30 := of_decide_eq_false hc30
                                  refine zy rfl (zG (ze (JD.keep [2] [(2, dB false)] rfl (zf _ _ rfl rfl rfl (zb rfl (za rfl rfl (zd rfl) (zg rfl (ze (zu rfl ?_)))))))))
                                  exact zk Tryz.results10 (.cons (zC (zo rfl) (Cv.eq (congrArg (fun b => D.v (.bool b)) (by first | (rw [hc30]; decide) | (exfalso; simp_all; done) | exact (zaf (by simp only [zN, List.forall_mem_cons]; exact ⟨by assumption, by assumption, by assumption, by assumption, by assumption, by assumption, by assumption, by assumption, by assumption, by assumption, by assumption, by assumption, by assumption, by assumption, by assumption, by assumption, by assumption, by assumption, by assumption, by assumption, by assumption, by simp⟩)).symm)))) .nil) rfl HSub.none ⟨rfl, rfl⟩
                              · replace hc29 := of_decide_eq_false hc29
                                refine zf _ _ rfl rfl rfl (zb rfl (za rfl rfl (zaD rfl rfl rfl) (za rfl rfl (zd rfl) (zg rfl (ze ?_)))))
                                refine zl _ _ rfl rfl rfl rfl (fun hc31 => ?_) (fun hc31 => ?_)
                                · replace hc31 := of_decide_eq_true hc31
                                  refine zy rfl (ze (JD.keep [2, 4] [(2, dB false), (4, dB (decide (s = (⟨#[60]⟩ : ByteArray))))] rfl ?_))
                                  refine zl _ _ rfl rfl rfl rfl (fun hc32 => ?_) (fun hc32 => ?_)
                                  · replace hc32 := of_decide_eq_true hc32
                                    refine zf _ _ rfl rfl rfl (zb rfl (za rfl rfl (zd rfl) (zg rfl (ze (zu rfl (zn (zq ?_)))))))
                                    exact zk Tryz.results10 (.cons (zC (zo rfl) (Cv.eq (congrArg (fun b => D.v (.bool b)) (by first | (rw [hc32]; decide) | (exfalso; simp_all; done) | exact (zaf (by simp only [zN, List.forall_mem_cons]; exact ⟨by assumption, by assumption, by assumption, by assumption, by assumption, by assumption, by assumption, by assumption, by assumption, by assumption, by assumption, by assumption, by assumption, by assumption, by assumption, by assumption, by assumption, by assumption, by assumption, by assumption, by assumption, by simp⟩)).symm)))) .nil) rfl HSub.none ⟨rfl, rfl⟩
                                  · replace hc32 := of_decide_eq_false hc32
                                    refine zy rfl (zG (ze (zf _ _ rfl rfl rfl (zb rfl (za rfl rfl (zd rfl) (zg rfl (ze (zu rfl ?_))))))))
                                    exact zk Tryz.results10 (.cons (zC (zo rfl) (Cv.eq (congrArg (fun b => D.v (.bool b)) (by first | (rw [hc32]; decide) | (exfalso; simp_all; done) | exact (zaf (by simp only [zN, List.forall_mem_cons]; exact ⟨by assumption, by assumption, by assumption, by assumption, by assumption, by assumption, by assumption, by assumption, by assumption, by assumption, by assumption, by assumption, by assumption, by assumption, by assumption, by assumption, by assumption, by assumption, by assumption, by assumption, by assumption, by simp⟩)).symm)))) .nil) rfl HSub.none ⟨rfl, rfl⟩
                                · replace hc31 := of_decide_eq_false hc31
                                  refine zf _ _ rfl rfl rfl (zb rfl (za rfl rfl (zaD rfl rfl rfl) (za rfl rfl (zd rfl) (zg rfl (ze (JD.keep [2, 3, 4] [(2, dB false), (3, .s s), (4, dB (decide (s = (⟨#[60, 61]⟩ : ByteArray))))] rfl ?_))))))
                                  refine zl _ _ rfl rfl rfl rfl (fun hc33 => ?_) (fun hc33 => ?_)
                                  · replace hc33 := of_decide_eq_true hc33
                                    refine zy rfl (ze ?_)
                                    refine zl _ _ rfl rfl rfl rfl (fun hc34 => ?_) (fun hc34 => ?_)
                                    · replace hc34 := of_decide_eq_true hc34
                                      refine zf _ _ rfl rfl rfl (zb rfl (za rfl rfl (zd rfl) (zg rfl (ze (zu rfl (zn (zq ?_)))))))
                                      exact zk Tryz.results10 (.cons (zC (zo rfl) (Cv.eq (congrArg (fun b => D.v (.bool b)) (by first | (rw [hc34]; decide) | (exfalso; simp_all; done) | exact (zaf (by simp only [zN, List.forall_mem_cons]; exact ⟨by assumption, by assumption, by assumption, by assumption, by assumption, by assumption, by assumption, by assumption, by assumption, by assumption, by assumption, by assumption, by assumption, by assumption, by assumption, by assumption, by assumption, by assumption, by assumption, by assumption, by assumption, by simp⟩)).symm)))) .nil) rfl HSub.none ⟨rfl, rfl⟩
                                    · replace hc34 := of_decide_eq_false hc34
                                      refine zy rfl (zG (ze (zf _ _ rfl rfl rfl (zb rfl (za rfl rfl (zd rfl) (zg rfl (ze (zu rfl ?_))))))))
                                      exact zk Tryz.results10 (.cons (zC (zo rfl) (Cv.eq (congrArg (fun b => D.v (.bool b)) (by first | (rw [hc34]; decide) | (exfalso; simp_all; done) | exact (zaf (by simp only [zN, List.forall_mem_cons]; exact ⟨by assumption, by assumption, by assumption, by assumption, by assumption, by assumption, by assumption, by assumption, by assumption, by assumption, by assumption, by assumption, by assumption, by assumption, by assumption, by assumption, by assumption, by assumption, by assumption, by assumption, by assumption, by simp⟩)).symm)))) .nil) rfl HSub.none ⟨rfl, rfl⟩
                                  · replace hc33 := of_decide_eq_false hc33
                                    refine zf _ _ rfl rfl rfl (zb rfl (za rfl rfl (zaD rfl rfl rfl) (za rfl rfl (zd rfl) (zg rfl (ze ?_)))))
                                    refine zl _ _ rfl rfl rfl rfl (fun hc35 => ?_) (fun hc35 => ?_)
                                    · replace hc35 := of_decide_eq_true hc35
                                      refine zy rfl (ze ?_)
                                      refine zl _ _ rfl rfl rfl rfl (fun hc36 => ?_) (fun hc36 => ?_)
                                      · replace hc36 := of_decide_eq_true hc36
                                        refine zf _ _ rfl rfl rfl (zb rfl (za rfl rfl (zd rfl) (zg rfl (ze (zu rfl (zn (zq ?_)))))))
                                        exact zk Tryz.results10 (.cons (zC (zo rfl) (Cv.eq (congrArg (fun b => D.v (.bool b)) (by first | (rw [hc36]; decide) | (exfalso; simp_all; done) | exact (zaf (by simp only [zN, List.forall_mem_cons]; exact ⟨by assumption, by assumption, by assumption, by assumption, by assumption, by assumption, by assumption, by assumption, by assumption, by assumption, by assumption, by assumption, by assumption, by assumption, by assumption, by assumption, by assumption, by assumption, by assumption, by assumption, by assumption, by simp⟩)).symm)))) .nil) rfl HSub.none ⟨rfl, rfl⟩
                                      · replace hc36 := of_decide_eq_false hc36
                                        refine zy rfl (zG (ze (zf _ _ rfl rfl rfl (zb rfl (za rfl rfl (zd rfl) (zg rfl (ze (zu rfl ?_))))))))
                                        exact zk Tryz.results10 (.cons (zC (zo rfl) (Cv.eq (congrArg (fun b => D.v (.bool b)) (by first | (rw [hc36]; decide) | (exfalso; simp_all; done) | exact (zaf (by simp only [zN, List.forall_mem_cons]; exact ⟨by assumption, by assumption, by assumption, by assumption, by assumption, by assumption, by assumption, by assumption, by assumption, by assumption, by assumption, by assumption, by assumption, by assumption, by assumption, by assumption, by assumption, by assumption, by assumption, by assumption, by assumption, by simp⟩)).symm)))) .nil) rfl HSub.none ⟨rfl, rfl⟩
                                    · replace hc35 := of_decide_eq_false hc35
                                      refine zf _ _ rfl rfl rfl (zb rfl (za rfl rfl (zaD rfl rfl rfl) (za rfl rfl (zd rfl) (zg rfl (ze ?_)))))
                                      refine zl _ _ rfl rfl rfl rfl (fun hc37 => ?_) (fun hc37 => ?_)
                                      · replace hc37 := of_decide_eq_true hc37
                                        refine zy rfl (ze ?_)
                                        refine zl _ _ rfl rfl rfl rfl (fun hc38 => ?_) (fun hc38 => ?_)
                                        · replace hc38 := of_decide_eq_true hc38
                                          refine zf _ _ rfl rfl rfl (zb rfl (za rfl rfl (zd rfl) (zg rfl (ze (zu rfl (zn (zq ?_)))))))
                                          exact zk Tryz.results10 (.cons (zC (zo rfl) (Cv.eq (congrArg (fun b => D.v (.bool b)) (by first | (rw [hc38]; decide) | (exfalso; simp_all; done) | exact (zaf (by simp only [zN, List.forall_mem_cons]; exact ⟨by assumption, by assumption, by assumption, by assumption, by assumption, by assumption, by assumption, by assumption, by assumption, by assumption, by assumption, by assumption, by assumption, by assumption, by assumption, by assumption, by assumption, by assumption, by assumption, by assumption, by assumption, by simp⟩)).symm)))) .nil) rfl HSub.none ⟨rfl, rfl⟩
                                        · replace hc38 := of_decide_eq_false hc38
                                          refine zy rfl (zG (ze (zf _ _ rfl rfl rfl (zb rfl (za rfl rfl (zd rfl) (zg rfl (ze (zu rfl ?_))))))))
                                          exact zk Tryz.results10 (.cons (zC (zo rfl) (Cv.eq (congrArg (fun b => D.v (.bool b)) (by first | (rw [hc38]; decide) | (exfalso; simp_all; done) | exact (zaf (by simp only [zN, List.forall_mem_cons]; exact ⟨by assumption, by assumption, by assumption, by assumption, by assumption, by assumption, by assumption, by assumption, by assumption, by assumption, by assumption, by assumption, by assumption, by assumption, by assumption, by assumption, by assumption, by assumption, by assumption, by assumption, by assumption, by simp⟩)).symm)))) .nil) rfl HSub.none ⟨rfl, rfl⟩
                                      · replace hc37 := of_decide_eq_false hc37
                                        refine zf _ _ rfl rfl rfl (zb rfl (za rfl rfl (zaD rfl rfl rfl) (za rfl rfl (zd rfl) (zg rfl (ze ?_)))))
                                        refine zl _ _ rfl rfl rfl rfl (fun hc39 => ?_) (fun hc39 => ?_)
                                        · replace hc39 := of_decide_eq_true hc39
                                          refine zy rfl (ze ?_)
                                          refine zl _ _ rfl rfl rfl rfl (fun hc40 => ?_) (fun hc40 => ?_)
                                          · replace hc40 := of_decide_eq_true hc40
                                            refine zf _ _ rfl rfl rfl (zb rfl (za rfl rfl (zd rfl) (zg rfl (ze (zu rfl (zn (zq ?_)))))))
                                            exact zk Tryz.results10 (.cons (zC (zo rfl) (Cv.eq (congrArg (fun b => D.v (.bool b)) (by first | (rw [hc40]; decide) | (exfalso; simp_all; done) | exact (zaf (by simp only [zN, List.forall_mem_cons]; exact ⟨by assumption, by assumption, by assumption, by assumption, by assumption, by assumption, by assumption, by assumption, by assumption, by assumption, by assumption, by assumption, by assumption, by assumption, by assumption, by assumption, by assumption, by assumption, by assumption, by assumption, by assumption, by simp⟩)).symm)))) .nil) rfl HSub.none ⟨rfl, rfl⟩
                                          · replace hc40 := of_decide_eq_false hc40
                                            refine zy rfl (zG (ze (zf _ _ rfl rfl rfl (zb rfl (za rfl rfl (zd rfl) (zg rfl (ze (zu rfl ?_))))))))
                                            exact zk Tryz.results10 (.cons (zC (zo rfl) (Cv.eq (congrArg (fun b => D.v (.bool b)) (by first | (rw [hc40]; decide) | (exfalso; simp_all; done) | exact (zaf (by simp only [zN, List.forall_mem_cons]; exact ⟨by assumption, by assumption, by assumption, by assumption, by assumption, by assumption, by assumption, by assumption, by assumption, by assumption, by assumption, by assumption, by assumption, by assumption, by assumption, by assumption, by assumption, by assumption, by assumption, by assumption, by assumption, by simp⟩)).symm)))) .nil) rfl HSub.none ⟨rfl, rfl⟩
                                        · replace hc39 := of_decide_eq_false hc39
                                          refine zb rfl (za rfl rfl (zaD rfl rfl rfl) (za rfl rfl (zd rfl) (zg rfl (ze ?_))))
                                          refine zl _ _ rfl rfl rfl rfl (fun hc41 => ?_) (fun hc41 => ?_)
                                          · replace hc41 := of_decide_eq_true hc41
                                            refine zf _ _ rfl rfl rfl (zb rfl (za rfl rfl (zd rfl) (zg rfl (ze (zu rfl (zn (zq ?_)))))))
                                            exact zk Tryz.results10 (.cons (zC (zo rfl) (Cv.eq (congrArg (fun b => D.v (.bool b)) (by first | (rw [hc41]; decide) | (exfalso; simp_all; done) | exact (zaf (by simp only [zN, List.forall_mem_cons]; exact ⟨by assumption, by assumption, by assumption, by assumption, by assumption, by assumption, by assumption, by assumption, by assumption, by assumption, by assumption, by assumption, by assumption, by assumption, by assumption, by assumption, by assumption, by assumption, by assumption, by assumption, by assumption, by simp⟩)).symm)))) .nil) rfl HSub.none ⟨rfl, rfl⟩
                                          · replace hc41 := of_decide_eq_false hc41
                                            refine zy rfl (zG (ze (zf _ _ rfl rfl rfl (zb rfl (za rfl rfl (zd rfl) (zg rfl (ze (zu rfl ?_))))))))
                                            exact zk Tryz.results10 (.cons (zC (zo rfl) (Cv.eq (congrArg (fun b => D.v (.bool b)) (by first | (rw [hc41]; decide) | (exfalso; simp_all; done) | exact (zaf (by simp only [zN, List.forall_mem_cons]; exact ⟨by assumption, by assumption, by assumption, by assumption, by assumption, by assumption, by assumption, by assumption, by assumption, by assumption, by assumption, by assumption, by assumption, by assumption, by assumption, by assumption, by assumption, by assumption, by assumption, by assumption, by assumption, by simp⟩)).symm)))) .nil) rfl HSub.none ⟨rfl, rfl⟩
end Lp
/-
  The document's own reading of a text between quotation marks; numbers, words.
-/
set_option linter.unusedVariables false
namespace Lp
open Go
theorem hexI_eq : ∀ c : Nat, c < 256 → hexI c = if 48 ≤ c ∧ c ≤ 57 then (c : Int) - 48 else if 97 ≤ c ∧ c ≤ 102 then (c : Int) - 87 else -1 := by decide +kernel
section
variable {b : ByteArray} {i : Nat} {o : List UInt8}
theorem ext_ext {k : Nat} : (b.extract i b.size).extract k (b.extract i b.size).size = b.extract (i + k) b.size := by
  rw [zbs, zbs, zbs, zbd, List.drop_drop]
theorem ext_at {k : Nat} : (b.extract i b.size)[k]? = b[i + k]? := by
  have e : ∀ (s : ByteArray) (j : Nat), s[j]? = (bl8 s)[j]? := fun s j => by
    by_cases h : j < s.size
    · have h' : j < (bl8 s).length := by rw [zag]; exact h
      rw [getElem?_pos s j h, List.getElem?_eq_getElem h']; rfl
    · rw [getElem?_neg s j h, List.getElem?_eq_none (by rw [zag]; omega)]
  rw [e, e, zbs, zbd, List.getElem?_drop]
theorem zcA {k : Nat} {v : UInt8} (h : b[i + k]? = some v) : zT (b.extract i b.size) k = v.toNat := (zW (by rw [ext_at]; exact h)).symm
theorem zcV {k : Nat} {v : UInt8} (h : b[k]? = some v) : k < b.size := by
  by_cases hk : k < b.size
  · exact hk
  · rw [getElem?_neg b k hk] at h; cases h
def EInv (b : ByteArray) (i : Nat) (o : List UInt8) : Prop := UInv b (b.extract i b.size) o
theorem EInv.zero : EInv b 0 [] := by
  unfold EInv
  have e : b.extract 0 b.size = b := by rw [zbs, List.drop_zero, zcU]
  rw [e]; exact UInv.zero b
theorem EInv.raw {u : UInt8} (h : EInv b i o) (hu : b[i]? = some u) (h2 : ¬ u.toNat = 92) : EInv b (i + 1) (o ++ [u]) := by
  have := UInv.raw h (by rw [ext_at]; exact hu) (fun e => h2 (by rw [e]; rfl))
  rw [ext_ext] at this; exact this
theorem escd {u v : UInt8} (hu : b[i]? = some u) (h92 : u.toNat = 92) : (b.extract i b.size)[0]? = some 92 := by
  rw [ext_at, Nat.add_zero, hu, show u = 92 from UInt8.toNat_inj.1 h92]
theorem EInv.esc {u : UInt8} {n : Nat} {t : ByteArray} (h : EInv b i o) (hu : b[i]? = some u) (h92 : u.toNat = 92) (ht : t = escT (b.extract (i + 1) b.size)) (hn : n = escN (b.extract (i + 1) b.size)) (h0 : n ≠ 0) : EInv b (i + (1 + n)) (o ++ bl8 t) := by
  have e : (b.extract i b.size).extract 1 (b.extract i b.size).size = b.extract (i + 1) b.size := ext_ext
  have := UInv.esc h (escd (v := 0) hu h92) (by rw [e, ← hn]; exact h0)
  rw [e, ← hn, ← ht, ext_ext] at this; exact this
theorem zdb {v : UInt8} (hv : b[i + 1]? = some v) : 0 < (b.extract (i + 1) b.size).size := by have := zcV hv; rw [ByteArray.size_extract]; omega
theorem EInv.e1 {u v : UInt8} (h : EInv b i o) (hu : b[i]? = some u) (h92 : u.toNat = 92) (hv : b[i + 1]? = some v) (hc : v.toNat = 34 ∨ v.toNat = 92) : EInv b (i + 2) (o ++ [v]) := by
  have hb : zT (b.extract (i + 1) b.size) 0 = v.toNat := zcA hv
  obtain ⟨t1, t2⟩ := esc_1 (zdb hv) (by rw [hb]; exact hc)
  have e : bl8 ((b.extract (i + 1) b.size).extract 0 1) = [v] := by
    rw [zbm (by have := zdb hv; omega), zbd, List.drop_zero]
    have hx : (bl8 (b.extract (i + 1) b.size))[0]? = some v := by
      rw [zbs, zbd, List.getElem?_drop]
      have e2 : b[i + 1]? = (bl8 b)[i + 1]? := by
        have hl := zcV hv
        rw [getElem?_pos b (i + 1) hl, List.getElem?_eq_getElem (by rw [zag]; exact hl)]; rfl
      rw [Nat.add_zero, ← e2]; exact hv
    cases e3 : bl8 (b.extract (i + 1) b.size) with
    | nil => rw [e3] at hx; cases hx
    | cons c r => rw [e3] at hx; injection hx with hx; subst hx; rfl
  have := EInv.esc h hu h92 t1 t2 (by omega)
  rw [e] at this; exact this
theorem EInv.e2 {u v : UInt8} (h : EInv b i o) (hu : b[i]? = some u) (h92 : u.toNat = 92) (hv : b[i + 1]? = some v) (hn : ¬ (v.toNat = 34 ∨ v.toNat = 92)) (hc : v.toNat = 110) : EInv b (i + 2) (o ++ [10]) := by
  have hb : zT (b.extract (i + 1) b.size) 0 = v.toNat := zcA hv
  obtain ⟨t1, t2⟩ := esc_2 (zdb hv) (by rw [hb]; exact hn) (by rw [hb]; exact hc)
  have := EInv.esc h hu h92 t1 t2 (by omega)
  have e : bl8 (⟨#[10]⟩ : ByteArray) = [10] := by decide
  rw [e] at this; exact this
theorem EInv.e3 {u v x y : UInt8} {p q : Nat} (h : EInv b i o) (hu : b[i]? = some u) (h92 : u.toNat = 92) (hv : b[i + 1]? = some v) (hn : ¬ (v.toNat = 34 ∨ v.toNat = 92)) (hn2 : ¬ v.toNat = 110) (hc : v.toNat = 120) (hx : b[i + 2]? = some x) (hy : b[i + 3]? = some y) (hp : hexI x.toNat = (p : Int)) (hq : hexI y.toNat = (q : Int)) : EInv b (i + 4) (o ++ [UInt8.ofNat (p * 16 + q)]) := by
  have hb : zT (b.extract (i + 1) b.size) 0 = v.toNat := zcA hv
  have hb1 : zT (b.extract (i + 1) b.size) 1 = x.toNat := zcA hx
  have hb2 : zT (b.extract (i + 1) b.size) 2 = y.toNat := zcA hy
  have hl := zcV hy
  obtain ⟨t1, t2⟩ := esc_3 (a := p) (b := q) (zdb hv) (by rw [hb]; exact hn) (by rw [hb]; exact hn2) ⟨by rw [hb]; exact hc, by rw [ByteArray.size_extract]; omega⟩ (by rw [hb1]; exact hp) (by rw [hb2]; exact hq)
  have := EInv.esc h hu h92 t1 t2 (by omega)
  rw [zbd] at this; exact this
theorem EInv.bad {u : UInt8} (h : EInv b i o) (hu : b[i]? = some u) (h92 : u.toNat = 92) (h0 : escN (b.extract (i + 1) b.size) = 0) : unB b = none :=
  UInv.none h (escd (v := 0) hu h92) (by rw [ext_ext]; exact h0)
/-- nothing behind the sign -/
theorem EInv.n0 {u : UInt8} (h : EInv b i o) (hu : b[i]? = some u) (h92 : u.toNat = 92) (hl : ¬ i + 1 < b.size) : unB b = none := by
  refine h.bad hu h92 ?_
  have e : b.extract (i + 1) b.size = ByteArray.empty := by rw [zbs, List.drop_eq_nil_iff.2 (by rw [zag]; omega)]; rfl
  exact (esc_0 e).2.symm
theorem EInv.n1 {u v : UInt8} (h : EInv b i o) (hu : b[i]? = some u) (h92 : u.toNat = 92) (hv : b[i + 1]? = some v) (hn : ¬ (v.toNat = 34 ∨ v.toNat = 92)) (hn2 : ¬ v.toNat = 110)
    (hc : ¬ (v.toNat = 120 ∧ i + 3 < b.size ∧ 0 ≤ hexI (zT b (i + 2)) ∧ 0 ≤ hexI (zT b (i + 3)))) : unB b = none := by
  have hb : zT (b.extract (i + 1) b.size) 0 = v.toNat := zcA hv
  have hk : ∀ k, zT (b.extract (i + 1) b.size) k = zT b (i + 1 + k) := fun k => by unfold zT; rw [ext_at]
  refine h.bad hu h92 ?_
  exact (zdI (zdb hv) (by rw [hb]; exact hn) (by rw [hb]; exact hn2) (fun e => hc ⟨by rw [← hb]; exact e.1, by have := e.2.1; rw [ByteArray.size_extract] at this; omega, by have := e.2.2.1; rw [hk] at this; exact this, by have := e.2.2.2; rw [hk] at this; exact this⟩)).2.symm
theorem EInv.done (h : EInv b i o) (hi : b.size ≤ i) : unB b = some o := UInv.done h (by rw [zbs, List.drop_eq_nil_iff.2 (by rw [zag]; omega)]; rfl)
end
/-! ### how it comes out -/
theorem zco {s t : ByteArray} (h : zax t = s) : 2 ≤ s.size ∧ zT s 0 = 34 ∧ zT s (s.size - 1) = 34 ∧ unB (s.extract 1 (s.size - 1)) = some (bl8 t) := by
  subst h
  have hq := quoteB_4 t
  have hl : bl8 (zax t) = 34 :: (zae t 0 ++ [34]) := by rw [quote_bl8]; rfl
  have hz : (zax t).size = (zae t 0).length + 2 := by rw [← zag, hl]; simp
  have e : ∀ (s : ByteArray) (j : Nat), s[j]? = (bl8 s)[j]? := fun s j => by
    by_cases h : j < s.size
    · have h' : j < (bl8 s).length := by rw [zag]; exact h
      rw [getElem?_pos s j h, List.getElem?_eq_getElem h']; rfl
    · rw [getElem?_neg s j h, List.getElem?_eq_none (by rw [zag]; omega)]
  refine ⟨by omega, ?_, ?_, ?_⟩
  · unfold zT; rw [e, hl]; rfl
  · unfold zT; rw [e, hl, hz]
    show ((34 :: (zae t 0 ++ [34]))[(zae t 0).length + 1]?.getD 0).toNat = 34
    rw [List.getElem?_cons_succ, List.getElem?_append_right (Nat.le_refl _), Nat.sub_self]; rfl
  · have em : (zax t).extract 1 ((zax t).size - 1) = mkB (zae t 0) := by
      rw [zbm (by omega), hl, hz]
      congr 1
      show ((34 :: (zae t 0 ++ [34])).take ((zae t 0).length + 1)).drop 1 = _
      rw [List.take_succ_cons]
      show (zae t 0 ++ [34]).take (zae t 0).length = _
      rw [List.take_left]
    rw [em]; unfold unB
    rw [zaH, zbd]
    have := quote_un t _ 0 rfl 0 [] (Nat.le_refl _)
    rw [List.append_nil] at this
    rw [show (zae t 0).length = (zae t 0).length + 0 from rfl, this]
    show some (bts t 0 ++ []) = some (bl8 t)
    rw [List.append_nil]; rfl
theorem zdq {s : ByteArray} (h : ∀ t, zax t ≠ s) : ByteArray.empty = unqT s ∧ false = zbh s := by
  unfold unqT zbh; rw [unqB_none h]; exact ⟨rfl, rfl⟩
theorem unq_short {s : ByteArray} (h : s.size < 2) : ByteArray.empty = unqT s ∧ false = zbh s := zdq fun t e => by have := (zco e).1; omega
theorem unq_head {s : ByteArray} {u : UInt8} (hu : s[0]? = some u) (h : ¬ u.toNat = 34) : ByteArray.empty = unqT s ∧ false = zbh s := zdq fun t e => h (by rw [zW hu]; exact (zco e).2.1)
theorem unq_last {s : ByteArray} {u : UInt8} (hu : s[s.size - 1]? = some u) (h : ¬ u.toNat = 34) : ByteArray.empty = unqT s ∧ false = zbh s := zdq fun t e => h (by rw [zW hu]; exact (zco e).2.2.1)
theorem zcZ {s : ByteArray} (h : unB (s.extract 1 (s.size - 1)) = none) : ByteArray.empty = unqT s ∧ false = zbh s := zdq fun t e => by rw [(zco e).2.2.2] at h; cases h
theorem unq_off {s : ByteArray} {o : List UInt8} (h : unB (s.extract 1 (s.size - 1)) = some o) (hq : ¬ zax (mkB o) = s) : ByteArray.empty = unqT s ∧ false = zbh s := zdq fun t e => by
  rw [(zco e).2.2.2] at h
  injection h with h
  rw [← h, zcU] at hq
  exact hq e
theorem unq_yes {s : ByteArray} {o : List UInt8} (hq : zax (mkB o) = s) : mkB o = unqT s ∧ true = zbh s := by
  unfold unqT zbh; rw [unqB_some hq]; exact ⟨rfl, rfl⟩
end Lp
