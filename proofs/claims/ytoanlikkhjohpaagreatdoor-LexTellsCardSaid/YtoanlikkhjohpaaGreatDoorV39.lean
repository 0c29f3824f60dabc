/- Walks, printed by a program of mine. -/
import Derived.Test.YtoanlikkhjohpaaGreatDoorV38
set_option linter.unusedSimpArgs false
set_option linter.unusedVariables false
namespace Lp
open Go Go.RowKit Go.Proofs

namespace HdYtoanlikkhjohpaaGreatDoorV39
theorem zaq : ∀ w, ((#[⟨"Kind", 3, 0, false, "", "", 0⟩, ⟨"At", 3, 1, false, "", "", 8⟩, ⟨"Text", 9, 2, false, "", "", 16⟩] : Array Field).mapM fun f => do pure (f.offset, ← Go.sizeOf f.type) : Sem (Array (Nat × Nat))).run Tryz.prog w = .ok ([(0, 1), (1, 1), (2, 1)] : List (Nat × Nat)).toArray w := fun _ => by kernel_rfl
end HdYtoanlikkhjohpaaGreatDoorV39
open HdYtoanlikkhjohpaaGreatDoorV39

set_option maxHeartbeats 4000000 in
set_option maxRecDepth 100000 in
theorem quoted_c (s : ByteArray) (hs : s.size ≤ 1000000) :
    CD Tryz.prog 65 [] [.s s] (isR (.tup [TokD.d ((strT (bl8 s)).1), dN ((strT (bl8 s)).2)])) := by
  refine zH Tryz.func65 rfl (N := 43) rfl rfl (fun C => ?_)
  refine JD.keep [0] [(0, .s s)] rfl ?_
  refine JD.bd 0 rfl (fun bd0 => ?_)
  have sz0 : s.size ≤ 9223372036854775807 := bd0
  refine zf _ _ rfl rfl rfl (zb rfl (zj rfl rfl (zbo (zv := (.agg #[(.int .i64 0), (.int .i64 0), (.string ByteArray.empty)])) Tryz.zeroValue45 ⟨rfl, rfl, rfl, trivial⟩ (Cv.vagg (by decide))) ?_))
  rintro _ _ ⟨g1, rfl, rfl⟩
  refine za rfl rfl (zd rfl) (zg rfl (ze (zf _ _ rfl rfl rfl (zb rfl (za rfl rfl (zd rfl) (zg rfl (ze (zf _ _ rfl rfl rfl (zf _ _ rfl rfl rfl (zb rfl (za rfl rfl (zc rfl) (zj rfl rfl (zbH rfl Tryz.runUnderlying9) ?_))))))))))))
  rintro _ _ ⟨g2, rfl, rfl⟩
  refine zg rfl (ze (zB _ rfl rfl (zS (fun (g : Nat × Bool) => [(0, .s s), (2, dP g1 0), (10, dP g2 0), (4, dB g.2)]) (fun (g : Nat × Bool) => [.it g2 s g.1, .bx g1 45 (.agg [dI 0, dI 0, .v (.string ByteArray.empty)])]) (fun (g : Nat × Bool) => (g.1 ≤ s.size) ∧ (qInv s g.1 (decide (g.1 = 0) || g.2))) (fun (g : Nat × Bool) => s.size - g.1) _ (0, false) rfl rfl ⟨sk rfl, sk rfl, sk rfl, sc rfl (Cv.rfl'), trivial⟩ HSub.rfl' ⟨Nat.zero_le _, qInv_zero⟩ ?_)))
  rintro ⟨p, b⟩ ⟨hp, hq⟩
  replace hp : p ≤ s.size := hp
  replace hq : qInv s p (decide (p = 0) || b) := hq
  refine JD.keep [0, 2, 10, 4] [(0, .s s), (2, dP g1 0), (10, dP g2 0), (4, dB b)] rfl (JD.norm [.it g2 s p, .bx g1 45 (.agg [dI 0, dI 0, .v (.string ByteArray.empty)])] rfl ?_)
  rcases Nat.lt_or_ge p s.size with hlt | hge
  · skip
    have hrune := zaQ hlt
    have hrl := zbu s p
    have hdw := zan s p hlt
    have hdp := zY s p
    refine zf _ _ rfl rfl rfl (zb rfl (zj rfl rfl (zba (i := 0) rfl rfl hlt) ?_))
    rintro _ _ ⟨rfl, rfl⟩
    refine OpsD.norm [.it g2 s (p + decW s p), .bx g1 45 (.agg [dI 0, dI 0, .v (.string ByteArray.empty)])] rfl (za rfl rfl (zJ rfl rfl) (zg rfl (ze (zf _ _ rfl rfl rfl (zaB _ rfl rfl rfl (zy rfl (ze (zB _ rfl rfl (zf _ _ rfl rfl rfl (zb rfl (za rfl rfl (zJ rfl rfl) (za rfl rfl (zJ rfl rfl) (za rfl rfl (zd rfl) (za rfl rfl (zd rfl) (zg rfl (ze (zB _ rfl rfl (zf _ _ rfl rfl rfl ?_))))))))))))))))))
    refine JD.keep [0, 2, 4, 5, 6, 10, 11, 12, 13, 14] [(0, .s s), (2, dP g1 0), (4, dB b), (5, dN p), (6, .v (.int .i32 ((decR s p : Nat) : Int))), (10, dP g2 0), (11, .tup [dB true, dN p, .v (.int .i32 ((decR s p : Nat) : Int))]), (12, dB true), (13, dN p), (14, .v (.int .i32 ((decR s p : Nat) : Int)))] rfl ?_
    refine zak 15 ((decide (((p : Nat) : Int) = (0 : Int)) || b)) [.it g2 s (p + decW s p), .bx g1 45 (.agg [dI 0, dI 0, .v (.string ByteArray.empty)])] (fun _ hQ3 => ?_) ?_
    · skip
      by_cases hg4 : ((p : Nat) : Int) = (0 : Int)
      · skip
        refine zb rfl (za rfl rfl (zc rfl) (za rfl rfl (zU rfl rfl (decide_eq_true hg4)) (za rfl rfl (zc rfl) (zi rfl rfl rfl rfl rfl (by decide) (za rfl rfl (zr rfl rfl) (za rfl rfl (zd rfl) (zg rfl ?_)))))))
        exact PD.sub ((15, dB (decide (((p : Nat) : Int) = (0 : Int)) || b)) :: [(0, .s s), (2, dP g1 0), (4, dB b), (5, dN p), (6, .v (.int .i32 ((decR s p : Nat) : Int))), (10, dP g2 0), (11, .tup [dB true, dN p, .v (.int .i32 ((decR s p : Nat) : Int))]), (12, dB true), (13, dN p), (14, .v (.int .i32 ((decR s p : Nat) : Int)))]) ⟨sc rfl (Cv.eq (congrArg (fun b => D.v (.bool b)) (by first | (simp [hg4]; done) | (simp_all; done)))), sk rfl, sk rfl, sk rfl, sk rfl, sk rfl, sk rfl, sk rfl, sk rfl, sk rfl, sk rfl, trivial⟩ hQ3
      · skip
        refine zb rfl (za rfl rfl (zc rfl) (za rfl rfl (zU rfl rfl (decide_eq_false hg4)) (za rfl rfl (zc rfl) (zh rfl rfl rfl rfl rfl (zc rfl) (za rfl rfl (zt rfl rfl) (za rfl rfl (zd rfl) (zg rfl ?_)))))))
        exact PD.sub ((15, dB (decide (((p : Nat) : Int) = (0 : Int)) || b)) :: [(0, .s s), (2, dP g1 0), (4, dB b), (5, dN p), (6, .v (.int .i32 ((decR s p : Nat) : Int))), (10, dP g2 0), (11, .tup [dB true, dN p, .v (.int .i32 ((decR s p : Nat) : Int))]), (12, dB true), (13, dN p), (14, .v (.int .i32 ((decR s p : Nat) : Int)))]) ⟨sc rfl (Cv.eq (congrArg (fun b => D.v (.bool b)) (by first | (simp [hg4]; done) | (simp_all; done)))), sk rfl, sk rfl, sk rfl, sk rfl, sk rfl, sk rfl, sk rfl, sk rfl, sk rfl, sk rfl, trivial⟩ hQ3
    · skip
      refine ze ?_
      refine zl _ _ rfl rfl rfl rfl (fun hc5 => ?_) (fun hc5 => ?_)
      · simp only [Bool.and_eq_true, Bool.or_eq_true, Bool.not_eq_true', Bool.not_eq_false', Bool.and_eq_false_iff, Bool.or_eq_false_iff, decide_eq_true_eq, decide_eq_false_iff_not, Decidable.not_not, ne_eq] at hc5
        refine zb rfl (za rfl rfl (zd rfl) (zg rfl (zG (zG ?_))))
        exact zZ (p + decW s p, false) ⟨sk rfl, sk rfl, sk rfl, sk rfl, trivial⟩ HSub.rfl' ⟨by have := zan s p hlt; omega, by rw [show (decide (p + decW s p = 0) || false) = false by rw [decide_eq_false (by omega)]; rfl]; exact qInv_skip (by have h0 : (decide (p = 0) || b) = true := (by have h := hc5; simp only [Bool.or_eq_true, decide_eq_true_eq]; rcases h with h | h; exact .inl (by omega); exact .inr h); rw [← h0]; exact hq) hlt⟩ (by have := zY s p; omega)
      · simp only [Bool.and_eq_true, Bool.or_eq_true, Bool.not_eq_true', Bool.not_eq_false', Bool.and_eq_false_iff, Bool.or_eq_false_iff, decide_eq_true_eq, decide_eq_false_iff_not, Decidable.not_not, ne_eq] at hc5
        refine zf _ _ rfl rfl rfl (zb rfl (za rfl rfl (zc rfl) (za rfl rfl (zU rfl rfl rfl) (za rfl rfl (zd rfl) (zg rfl (ze ?_))))))
        refine zl _ _ rfl rfl rfl rfl (fun hc6 => ?_) (fun hc6 => ?_)
        · replace hc6 := of_decide_eq_true hc6
          refine zb rfl (za rfl rfl (zd rfl) (zg rfl (zG (zG ?_))))
          exact zZ (p + decW s p, true) ⟨sk rfl, sk rfl, sk rfl, sk rfl, trivial⟩ HSub.rfl' ⟨by have := zan s p hlt; omega, by rw [show (decide (p + decW s p = 0) || true) = true by rw [decide_eq_false (by omega)]; rfl]; exact qInv_esc (by have h0 : (decide (p = 0) || b) = false := (by have h := hc5; simp only [Bool.or_eq_false_iff, decide_eq_false_iff_not]; exact ⟨by have := h.1; omega, h.2⟩); rw [← h0]; exact hq) hlt (by omega)⟩ (by have := zY s p; omega)
        · replace hc6 := of_decide_eq_false hc6
          refine zf _ _ rfl rfl rfl (zb rfl (za rfl rfl (zc rfl) (za rfl rfl (zU rfl rfl rfl) (za rfl rfl (zd rfl) (zg rfl (ze ?_))))))
          refine zl _ _ rfl rfl rfl rfl (fun hc7 => ?_) (fun hc7 => ?_)
          · replace hc7 := of_decide_eq_true hc7
            have hpp : 1 ≤ p := by have := hc5.1; omega
            have hfd := qInv_found (by have h0 : (decide (p = 0) || b) = false := (by have h := hc5; simp only [Bool.or_eq_false_iff, decide_eq_false_iff_not]; exact ⟨by have := h.1; omega, h.2⟩); rw [← h0]; exact hq) hlt (by omega)
            refine zf _ _ rfl rfl rfl (zb rfl (za rfl rfl (zc rfl) (za rfl rfl (zc rfl) (za rfl rfl (z7 (c := ((p + 1 : Nat) : Int)) rfl rfl (zX (by omega) (by omega))) (za rfl rfl (zV (a := 0) (c := p + 1) rfl rfl rfl (by first | rfl | (show _ = _; omega)) (by first | rfl | (show _ = _; omega)) Tryz.runUnderlying9 (by omega) (by omega)) (zj rfl rfl (zx [] _ [] rfl rfl (.cons ArgC.id .nil) zp Tryz.call95 (Unquote_c (s.extract 0 (p + 1)) (by simp only [ByteArray.size_extract]; omega) (by simp only [ByteArray.size_extract]; omega)) (.inl rfl)) ?_))))))
            rintro _ _ ⟨_, ⟨rfl, rfl⟩, rfl⟩
            refine OpsD.norm [.it g2 s (p + decW s p), .bx g1 45 (.agg [dI 0, dI 0, .v (.string ByteArray.empty)])] rfl (za rfl rfl (zc rfl) (za rfl rfl (zJ rfl rfl) (za rfl rfl (zJ rfl rfl) (za rfl rfl (zd rfl) (za rfl rfl (zd rfl) (zg rfl (ze (zf _ _ rfl rfl rfl (zf _ _ rfl rfl rfl (zb rfl (za rfl rfl (zc rfl) (za rfl rfl (zbr rfl) (zg rfl (ze ?_))))))))))))))
            refine zl _ _ rfl rfl rfl rfl (fun hc8 => ?_) (fun hc8 => ?_)
            · simp only [Bool.and_eq_true, Bool.or_eq_true, Bool.not_eq_true', Bool.not_eq_false', Bool.and_eq_false_iff, Bool.or_eq_false_iff, decide_eq_true_eq, decide_eq_false_iff_not, Decidable.not_not, ne_eq] at hc8
              refine zf _ _ rfl rfl rfl (zb rfl (za rfl rfl (zaa [] [] (zv := (.agg #[(.int .i64 0), (.int .i64 0), (.string ByteArray.empty)])) rfl rfl (.nil) (Tryz.runUnderlying45) Tryz.zeroValue45 zaq ⟨rfl, rfl, rfl, trivial⟩ rfl) (zj rfl rfl (zK (i := 1) (X' := .agg [dI 0, dI 0, .v (.string ByteArray.empty)]) rfl rfl rfl (CellD.agg) Tryz.sizeOf45 rfl rfl rfl) ?_)))
              rintro _ _ ⟨rfl, rfl⟩
              refine OpsD.norm [.it g2 s (p + decW s p), .bx g1 45 (.agg [dI 0, dI 0, .v (.string ByteArray.empty)])] rfl (za rfl rfl (zd rfl) (zg rfl (ze (zu rfl (zq (zn (zn (zam (zn (zq ?_))))))))))
              exact zk Tryz.results65 (.cons (zC (zad (X := .agg [dI 0, dI 0, .v (.string ByteArray.empty)]) (d := .agg [dI 0, dI 0, .v (.string ByteArray.empty)]) (i := 1) rfl rfl Tryz.isAgg45 Tryz.sizeOf45 rfl rfl) ((Cv.agg (.cons Cv.rfl' (.cons Cv.rfl' (.cons ((Cv.str (by first | decide | (unfold maxLen; omega)))) .nil)))).trans (Cv.eq (congrArg TokD.d (show (TokD.mk 0 0 ByteArray.empty) = (strT (bl8 s)).1 from (by rw [strT_f hfd hlt (by simpa using hc8)]; try rfl)))))) (.cons (zC (zo rfl) (Cv.eq (congrArg dN (by rw [strT_f hfd hlt (by simpa using hc8)]; try rfl)))) .nil)) rfl HSub.none ⟨rfl, rfl⟩
            · simp only [Bool.and_eq_true, Bool.or_eq_true, Bool.not_eq_true', Bool.not_eq_false', Bool.and_eq_false_iff, Bool.or_eq_false_iff, decide_eq_true_eq, decide_eq_false_iff_not, Decidable.not_not, ne_eq] at hc8
              refine zy rfl (ze (zf _ _ rfl rfl rfl (zb rfl (za rfl rfl (zc rfl) (za rfl rfl (zaa [0, 2] [.const (.int .i64 3), .tmp 38] (zv := (.agg #[(.int .i64 0), (.int .i64 0), (.string ByteArray.empty)])) rfl rfl (.cons (CellD.v rfl) (.cons CellD.s .nil)) (Tryz.runUnderlying45) Tryz.zeroValue45 zaq ⟨rfl, rfl, rfl, trivial⟩ rfl) (za rfl rfl (zc rfl) (za rfl rfl (z7 (c := ((p + 1 : Nat) : Int)) rfl rfl (zX (by omega) (by omega))) (zj rfl rfl (zK (i := 1) (X' := .agg [dI 3, dI 0, .s (unqT (s.extract 0 (p + 1)))]) rfl rfl rfl (CellD.agg) Tryz.sizeOf45 rfl rfl rfl) ?_))))))))
              rintro _ _ ⟨rfl, rfl⟩
              refine OpsD.norm [.it g2 s (p + decW s p), .bx g1 45 (.agg [dI 3, dI 0, .s (unqT (s.extract 0 (p + 1)))])] rfl (za rfl rfl (zd rfl) (zg rfl (ze (zu rfl (zn (zn (zam (zn (zq ?_)))))))))
              exact zk Tryz.results65 (.cons (zC (zad (X := .agg [dI 3, dI 0, .s (unqT (s.extract 0 (p + 1)))]) (d := .agg [dI 3, dI 0, .s (unqT (s.extract 0 (p + 1)))]) (i := 1) rfl rfl Tryz.isAgg45 Tryz.sizeOf45 rfl rfl) (Cv.eq (congrArg TokD.d (show (TokD.mk 3 0 (unqT (s.extract 0 (p + 1)))) = (strT (bl8 s)).1 from (by rw [strT_t hfd hlt (by simpa using hc8)]; try rfl))))) (.cons (zC (zo rfl) (Cv.eq (congrArg dN (by rw [strT_t hfd hlt (by simpa using hc8)]; try rfl)))) .nil)) rfl HSub.none ⟨rfl, rfl⟩
          · replace hc7 := of_decide_eq_false hc7
            refine zy rfl (zG (zG ?_))
            exact zZ (p + decW s p, b) ⟨sk rfl, sk rfl, sk rfl, sk rfl, trivial⟩ HSub.rfl' ⟨by have := zan s p hlt; omega, by rw [show (decide (p + decW s p = 0) || b) = false by rw [decide_eq_false (by omega)]; simpa using hc5.2]; exact qInv_next (by have h0 : (decide (p = 0) || b) = false := (by have h := hc5; simp only [Bool.or_eq_false_iff, decide_eq_false_iff_not]; exact ⟨by have := h.1; omega, h.2⟩); rw [← h0]; exact hq) hlt (by omega) (by omega)⟩ (by have := zY s p; omega)
  · skip
    have hrune := zaZ hge
    refine zf _ _ rfl rfl rfl (zb rfl (za rfl rfl (zbD (i := 0) rfl rfl hge) (za rfl rfl (zJ rfl rfl) (zg rfl (ze (zf _ _ rfl rfl rfl (zah _ rfl rfl rfl (zO rfl (zD (zz (zw (ze (zf _ _ rfl rfl rfl (zb rfl (za rfl rfl (zaa [] [] (zv := (.agg #[(.int .i64 0), (.int .i64 0), (.string ByteArray.empty)])) rfl rfl (.nil) (Tryz.runUnderlying45) Tryz.zeroValue45 zaq ⟨rfl, rfl, rfl, trivial⟩ rfl) (zj rfl rfl (zK (i := 1) (X' := .agg [dI 0, dI 0, .v (.string ByteArray.empty)]) rfl rfl rfl (CellD.agg) Tryz.sizeOf45 rfl rfl rfl) ?_))))))))))))))))
    rintro _ _ ⟨rfl, rfl⟩
    refine OpsD.norm [.it g2 s p, .bx g1 45 (.agg [dI 0, dI 0, .v (.string ByteArray.empty)])] rfl (za rfl rfl (zd rfl) (zg rfl (ze (zu rfl ?_))))
    exact zk Tryz.results65 (.cons (zC (zad (X := .agg [dI 0, dI 0, .v (.string ByteArray.empty)]) (d := .agg [dI 0, dI 0, .v (.string ByteArray.empty)]) (i := 1) rfl rfl Tryz.isAgg45 Tryz.sizeOf45 rfl rfl) ((Cv.agg (.cons Cv.rfl' (.cons Cv.rfl' (.cons ((Cv.str (by first | decide | (unfold maxLen; omega)))) .nil)))).trans (Cv.eq (congrArg TokD.d (show (TokD.mk 0 0 ByteArray.empty) = (strT (bl8 s)).1 from (by rw [qInv_none hq hge]; try rfl)))))) (.cons (zC (zo rfl) (Cv.eq (congrArg dN (by rw [qInv_none hq hge]; try rfl)))) .nil)) rfl HSub.none ⟨rfl, rfl⟩

set_option maxHeartbeats 4000000 in
set_option maxRecDepth 100000 in
theorem number_c (s : ByteArray) (ev : Value) (hev : EvOk ev) (hs : s.size ≤ 1000000) (hz : 0 < s.size) (hk : zR ((decR s 0 : Nat) : Int) = 2) :
    CD Tryz.prog 64 [HPow, HErr ev] [.s s] (fun r H' => r = .tup [TokD.d ((numT (bl8 s)).1), dN ((numT (bl8 s)).2)] ∧ H' = [HPow, HErr ev]) := by
  refine zH Tryz.func64 rfl (N := 60) rfl rfl (fun C => ?_)
  refine JD.keep [0] [(0, .s s)] rfl ?_
  refine JD.bd 0 rfl (fun bd0 => ?_)
  have sz0 : s.size ≤ 9223372036854775807 := bd0
  have hlt0 := hz
  refine zf _ _ rfl rfl rfl (zb rfl (zj rfl rfl (zbo (zv := (.agg #[(.int .i64 0), (.int .i64 0), (.string ByteArray.empty)])) Tryz.zeroValue45 ⟨rfl, rfl, rfl, trivial⟩ (Cv.vagg (by decide))) ?_))
  rintro _ _ ⟨g1, rfl, rfl⟩
  refine za rfl rfl (zd rfl) (zg rfl (ze (zf _ _ rfl rfl rfl (zb rfl (za rfl rfl (zc rfl) (zj rfl rfl (Qu.ef (d := .sh 1 ([2].map dI)) (zaz [.const (.int .i64 2)] rfl rfl (.cons (CellD.v rfl) .nil) rfl Tryz.runUnderlying75 Tryz.sizeOf3 Tryz.zeroValue3 rfl rfl rfl rfl)) ?_))))))
  rintro _ _ ⟨rfl, rfl⟩
  refine zj rfl rfl (zx [] _ [] rfl rfl (.cons ArgC.id (.cons ArgC.id .nil)) zp Tryz.call12 (zdC s [2]) (.inl rfl)) ?_
  rintro _ _ ⟨_, ⟨rfl, rfl⟩, rfl⟩
  refine OpsD.norm [.bx g1 45 (.agg [dI 0, dI 0, .v (.string ByteArray.empty)]), HPow, HErr ev] rfl (za rfl rfl (zd rfl) (zg rfl (ze (zf _ _ rfl rfl rfl (zb rfl (za rfl rfl (zc rfl) (zj rfl rfl (Qu.ef (d := .sh 1 ([1, 2].map dI)) (zaz [.const (.int .i64 1), .const (.int .i64 2)] rfl rfl (.cons (CellD.v rfl) (.cons (CellD.v rfl) .nil)) rfl Tryz.runUnderlying75 Tryz.sizeOf3 Tryz.zeroValue3 rfl rfl rfl rfl)) ?_)))))))
  rintro _ _ ⟨rfl, rfl⟩
  refine zj rfl rfl (zx [] _ [] rfl rfl (.cons ArgC.id (.cons ArgC.id .nil)) zp Tryz.call12 (zdC s [1, 2]) (.inl rfl)) ?_
  rintro _ _ ⟨_, ⟨rfl, rfl⟩, rfl⟩
  refine OpsD.norm [.bx g1 45 (.agg [dI 0, dI 0, .v (.string ByteArray.empty)]), HPow, HErr ev] rfl (za rfl rfl (zd rfl) (zg rfl (ze (zf _ _ rfl rfl rfl ?_))))
  have hn1 := zaV (inK [2]) s
  have hn2 := zaV (inK [1, 2]) s
  have hq0 : s.extract 0 (runL (inK [2]) (bl8 s)) = mkB ((bl8 s).take (runL (inK [2]) (bl8 s))) := zbn hn1
  have hpos : 1 ≤ runL (inK [2]) (bl8 s) := run_digit_pos hz hk
  have hdg : Digs (bl8 (s.extract 0 (runL (inK [2]) (bl8 s)))) := by rw [hq0, zbd]; exact run_digits _ _ rfl
  have hsz0 : (s.extract 0 (runL (inK [2]) (bl8 s))).size = runL (inK [2]) (bl8 s) := by rw [ByteArray.size_extract]; omega
  have hne13 : bl8 (s.extract 0 (runL (inK [2]) (bl8 s))) ≠ [] := fun e => by have := congrArg List.length e; rw [zag, hsz0] at this; simp only [ln] at this; omega
  refine zb rfl (za rfl rfl (zc rfl) (za rfl rfl (zc rfl) (za rfl rfl (zV (a := 0) (c := runL (inK [2]) (bl8 s)) rfl rfl rfl (by first | rfl | (show _ = _; omega)) (by first | rfl | (show _ = _; omega)) Tryz.runUnderlying9 (by omega) (by omega)) (OpsD.subH (HSub.perm (zm (i := 2) rfl)) (OpsD.norm [HErr ev, .bx g1 45 (.agg [dI 0, dI 0, .v (.string ByteArray.empty)]), HPow] rfl (zj rfl rfl (zx [HErr ev] [.bx g1 45 (.agg [dI 0, dI 0, .v (.string ByteArray.empty)]), HPow] [] rfl rfl (.cons ArgC.id .nil) zp Tryz.call92 (atoi_c (s.extract 0 (runL (inK [2]) (bl8 s))) ev hev hdg hne13 (by simp only [ByteArray.size_extract]; omega)) (.inl rfl)) ?_))))))
  rintro _ _ ⟨_, ⟨av, ax, rfl, rfl, hv13, hv0, hv1⟩, rfl⟩
  refine OpsD.norm [HErr ev, .bx g1 45 (.agg [dI 0, dI 0, .v (.string ByteArray.empty)]), HPow] rfl (za rfl rfl (zc rfl) (za rfl rfl (zJ rfl rfl) (za rfl rfl (zJ rfl rfl) (za rfl rfl (zd rfl) (za rfl rfl (zd rfl) (zg rfl (ze (JD.keep [0, 2, 3, 4, 5, 6, 7] [(0, .s s), (2, dP g1 0), (3, dI 0), (4, dN (runL (inK [2]) (bl8 s))), (5, dN (runL (inK [1, 2]) (bl8 s))), (6, dI av), (7, ax)] rfl (zf _ _ rfl rfl rfl (zf _ _ rfl rfl rfl ?_))))))))))
  by_cases h13 : (13 : Int) < ((runL (inK [2]) (bl8 s) : Nat) : Int)
  · skip
    have hbad : 13 < nD s ∨ 1000000000000 < vD s := .inl (by show 13 < runL (inK [2]) (bl8 s); omega)
    refine zb rfl (za rfl rfl (zc rfl) (za rfl rfl (zaM rfl rfl (decide_eq_true h13)) (za rfl rfl (zc rfl) (zi rfl rfl rfl rfl rfl (by decide) (zi rfl rfl rfl rfl rfl (by decide) (za rfl rfl (zr rfl rfl) (za rfl rfl (zc rfl) (zi rfl rfl rfl rfl rfl (by decide) (zi rfl rfl rfl rfl rfl (by decide) (za rfl rfl (zr rfl rfl) (zg rfl (ze (JD.keep [0, 2, 3, 4, 5, 6, 31] [(0, .s s), (2, dP g1 0), (3, dI 0), (4, dN (runL (inK [2]) (bl8 s))), (5, dN (runL (inK [1, 2]) (bl8 s))), (6, dI av), (31, dB true)] rfl (zaB _ rfl rfl rfl (zf _ _ rfl rfl rfl (zb rfl (za rfl rfl (zaa [] [] (zv := (.agg #[(.int .i64 0), (.int .i64 0), (.string ByteArray.empty)])) rfl rfl (.nil) (Tryz.runUnderlying45) Tryz.zeroValue45 zaq ⟨rfl, rfl, rfl, trivial⟩ rfl) (zj rfl rfl (zK (i := 1) (X' := .agg [dI 0, dI 0, .v (.string ByteArray.empty)]) rfl rfl rfl (CellD.agg) Tryz.sizeOf45 rfl rfl rfl) ?_))))))))))))))))))
    rintro _ _ ⟨rfl, rfl⟩
    refine OpsD.norm [HErr ev, .bx g1 45 (.agg [dI 0, dI 0, .v (.string ByteArray.empty)]), HPow] rfl (za rfl rfl (zd rfl) (zg rfl (ze (zu rfl (zq (PD.subH (HSub.perm (zm (i := 2) rfl)) (PD.norm [HPow, HErr ev, .bx g1 45 (.agg [dI 0, dI 0, .v (.string ByteArray.empty)])] rfl ?_)))))))
    exact zk Tryz.results64 (.cons (zC (zad (X := .agg [dI 0, dI 0, .v (.string ByteArray.empty)]) (d := .agg [dI 0, dI 0, .v (.string ByteArray.empty)]) (i := 2) rfl rfl Tryz.isAgg45 Tryz.sizeOf45 rfl rfl) ((Cv.agg (.cons Cv.rfl' (.cons Cv.rfl' (.cons ((Cv.str (by first | decide | (unfold maxLen; omega)))) .nil)))).trans (Cv.eq (congrArg TokD.d (show (TokD.mk 0 0 ByteArray.empty) = (numT (bl8 s)).1 from (by rw [zcS hbad]; try rfl)))))) (.cons (zC (zo rfl) (Cv.eq (congrArg dN (by rw [zcS hbad]; try rfl)))) .nil)) rfl (HSub.fst 2 rfl) ⟨rfl, rfl⟩
  · skip
    obtain ⟨e1, e2⟩ := hv13 (by rw [hsz0]; omega)
    subst e1; subst e2
    have hvd : digV (bl8 (s.extract 0 (runL (inK [2]) (bl8 s)))) = vD s := by rw [hq0, zbd]
    have hvl : vD s < 10000000000000 := vD_le (run_digits _ _ rfl) (by rw [List.length_take]; show min (runL (inK [2]) (bl8 s)) _ ≤ 13; omega)
    refine JD.sub [(0, .s s), (2, dP g1 0), (3, dI 0), (4, dN (runL (inK [2]) (bl8 s))), (5, dN (runL (inK [1, 2]) (bl8 s))), (6, dN (vD s)), (7, .v .nilIface)] ⟨sk rfl, sk rfl, sk rfl, sk rfl, sk rfl, sc rfl (Cv.eq (congrArg (fun n : Nat => dI (n : Int)) hvd)), sk rfl, trivial⟩ (JD.keep [0, 2, 3, 4, 5, 6, 7] [(0, .s s), (2, dP g1 0), (3, dI 0), (4, dN (runL (inK [2]) (bl8 s))), (5, dN (runL (inK [1, 2]) (bl8 s))), (6, dN (vD s)), (7, .v .nilIface)] rfl ?_)
    refine zak 31 (decide ((1000000000000 : Int) < (((vD s) : Nat) : Int))) [HErr ev, .bx g1 45 (.agg [dI 0, dI 0, .v (.string ByteArray.empty)]), HPow] (fun _ hQ2 => ?_) ?_
    · skip
      refine zb rfl (za rfl rfl (zc rfl) (za rfl rfl (zaM rfl rfl (decide_eq_false h13)) (za rfl rfl (zc rfl) (zh rfl rfl rfl rfl rfl (zc rfl) (zh rfl rfl rfl rfl rfl (zc6 (r := .bool false) rfl rfl (fun _ => by kernel_rfl)) (za rfl rfl (zt rfl rfl) (za rfl rfl (zc rfl) (zh rfl rfl rfl rfl rfl (zc rfl) (zh rfl rfl rfl rfl rfl (zaM rfl rfl rfl) (za rfl rfl (zt rfl rfl) (zg rfl ?_)))))))))))
      exact PD.sub ((31, dB (decide ((1000000000000 : Int) < (((vD s) : Nat) : Int)))) :: [(0, .s s), (2, dP g1 0), (3, dI 0), (4, dN (runL (inK [2]) (bl8 s))), (5, dN (runL (inK [1, 2]) (bl8 s))), (6, dN (vD s)), (7, .v .nilIface)]) ⟨sc rfl (Cv.eq (congrArg (fun b => D.v (.bool b)) (by first | (simp [h13]; done) | (simp_all; done)))), sk rfl, sk rfl, sk rfl, sk rfl, sk rfl, sk rfl, sk rfl, trivial⟩ hQ2
    · skip
      refine ze ?_
      refine zl _ _ rfl rfl rfl rfl (fun hc3 => ?_) (fun hc3 => ?_)
      · replace hc3 := of_decide_eq_true hc3
        have hbad : 13 < nD s ∨ 1000000000000 < vD s := .inr (by have := hc3; omega)
        refine zf _ _ rfl rfl rfl (zb rfl (za rfl rfl (zaa [] [] (zv := (.agg #[(.int .i64 0), (.int .i64 0), (.string ByteArray.empty)])) rfl rfl (.nil) (Tryz.runUnderlying45) Tryz.zeroValue45 zaq ⟨rfl, rfl, rfl, trivial⟩ rfl) (zj rfl rfl (zK (i := 1) (X' := .agg [dI 0, dI 0, .v (.string ByteArray.empty)]) rfl rfl rfl (CellD.agg) Tryz.sizeOf45 rfl rfl rfl) ?_)))
        rintro _ _ ⟨rfl, rfl⟩
        refine OpsD.norm [HErr ev, .bx g1 45 (.agg [dI 0, dI 0, .v (.string ByteArray.empty)]), HPow] rfl (za rfl rfl (zd rfl) (zg rfl (ze (zu rfl (zq (PD.subH (HSub.perm (zm (i := 2) rfl)) (PD.norm [HPow, HErr ev, .bx g1 45 (.agg [dI 0, dI 0, .v (.string ByteArray.empty)])] rfl ?_)))))))
        exact zk Tryz.results64 (.cons (zC (zad (X := .agg [dI 0, dI 0, .v (.string ByteArray.empty)]) (d := .agg [dI 0, dI 0, .v (.string ByteArray.empty)]) (i := 2) rfl rfl Tryz.isAgg45 Tryz.sizeOf45 rfl rfl) ((Cv.agg (.cons Cv.rfl' (.cons Cv.rfl' (.cons ((Cv.str (by first | decide | (unfold maxLen; omega)))) .nil)))).trans (Cv.eq (congrArg TokD.d (show (TokD.mk 0 0 ByteArray.empty) = (numT (bl8 s)).1 from (by rw [zcS hbad]; try rfl)))))) (.cons (zC (zo rfl) (Cv.eq (congrArg dN (by rw [zcS hbad]; try rfl)))) .nil)) rfl (HSub.fst 2 rfl) ⟨rfl, rfl⟩
      · replace hc3 := of_decide_eq_false hc3
        have hgood : ¬ (13 < nD s ∨ 1000000000000 < vD s) := fun e => by rcases e with e | e; (exact h13 (by have e : 13 < runL (inK [2]) (bl8 s) := e; omega)); (have := hc3; omega)
        refine zy rfl (ze (zf _ _ rfl rfl rfl (zf _ _ rfl rfl rfl (zb rfl (za rfl rfl (zc rfl) (za rfl rfl (zc rfl) (za rfl rfl (zU rfl rfl rfl) (zg rfl (ze ?_)))))))))
        refine zl _ _ rfl rfl rfl rfl (fun hc4 => ?_) (fun hc4 => ?_)
        · replace hc4 := of_decide_eq_true hc4
          have hsame : nA s = nD s := by show runL (inK [1, 2]) (bl8 s) = runL (inK [2]) (bl8 s); omega
          refine zf _ _ rfl rfl rfl (zb rfl (za rfl rfl (zc rfl) (OpsD.subH (HSub.perm (zm (i := 2) rfl)) (OpsD.norm [HPow, HErr ev, .bx g1 45 (.agg [dI 0, dI 0, .v (.string ByteArray.empty)])] rfl (zj rfl rfl (zx [HPow] [HErr ev, .bx g1 45 (.agg [dI 0, dI 0, .v (.string ByteArray.empty)])] [] rfl rfl (.cons ArgC.id .nil) zp Tryz.call93 (itoa_c (vD s) (by omega)) (.inl rfl)) ?_)))))
          rintro _ _ ⟨_, ⟨rfl, rfl⟩, rfl⟩
          refine OpsD.norm [HPow, HErr ev, .bx g1 45 (.agg [dI 0, dI 0, .v (.string ByteArray.empty)])] rfl (za rfl rfl (zaa [0, 2] [.const (.int .i64 2), .tmp 37] (zv := (.agg #[(.int .i64 0), (.int .i64 0), (.string ByteArray.empty)])) rfl rfl (.cons (CellD.v rfl) (.cons CellD.s .nil)) (Tryz.runUnderlying45) Tryz.zeroValue45 zaq ⟨rfl, rfl, rfl, trivial⟩ rfl) (za rfl rfl (zc rfl) (zj rfl rfl (zK (i := 2) (X' := .agg [dI 2, dI 0, .s (digB (vD s))]) rfl rfl rfl (CellD.agg) Tryz.sizeOf45 rfl rfl rfl) ?_)))
          rintro _ _ ⟨rfl, rfl⟩
          refine OpsD.norm [HPow, HErr ev, .bx g1 45 (.agg [dI 2, dI 0, .s (digB (vD s))])] rfl (za rfl rfl (zd rfl) (zg rfl (ze (JD.keep [0, 2, 3, 4, 5, 6] [(0, .s s), (2, dP g1 0), (3, dN (runL (inK [2]) (bl8 s))), (4, dN (runL (inK [2]) (bl8 s))), (5, dN (runL (inK [1, 2]) (bl8 s))), (6, dN (vD s))] rfl (zu rfl (zq ?_))))))
          exact zk Tryz.results64 (.cons (zC (zad (X := .agg [dI 2, dI 0, .s (digB (vD s))]) (d := .agg [dI 2, dI 0, .s (digB (vD s))]) (i := 2) rfl rfl Tryz.isAgg45 Tryz.sizeOf45 rfl rfl) (Cv.eq (congrArg TokD.d (show (TokD.mk 2 0 (digB (vD s))) = (numT (bl8 s)).1 from (by rw [zdi hgood hsame]; try rfl))))) (.cons (zC (zo rfl) (Cv.eq (congrArg dN (by rw [zdi hgood hsame]; try rfl)))) .nil)) rfl (HSub.fst 2 rfl) ⟨rfl, rfl⟩
        · replace hc4 := of_decide_eq_false hc4
          have hdiff : ¬ nA s = nD s := by show ¬ runL (inK [1, 2]) (bl8 s) = runL (inK [2]) (bl8 s); omega
          have hsc := secB_cases (s.extract (runL (inK [2]) (bl8 s)) (runL (inK [1, 2]) (bl8 s)))
          have hle := nD_le s
          refine zy rfl (ze (zf _ _ rfl rfl rfl (zb rfl (za rfl rfl (zc rfl) (za rfl rfl (zc rfl) (za rfl rfl (zc rfl) (za rfl rfl (zV (a := runL (inK [2]) (bl8 s)) (c := runL (inK [1, 2]) (bl8 s)) rfl rfl rfl (by first | rfl | (show _ = _; omega)) (by first | rfl | (show _ = _; omega)) Tryz.runUnderlying9 (by omega) (by omega)) (zj rfl rfl (zx [] _ [] rfl rfl (.cons ArgC.id .nil) zp Tryz.call94 (seconds_c (s.extract (runL (inK [2]) (bl8 s)) (runL (inK [1, 2]) (bl8 s)))) (.inl rfl)) ?_))))))))
          rintro _ _ ⟨_, ⟨rfl, rfl⟩, rfl⟩
          refine OpsD.norm [HErr ev, .bx g1 45 (.agg [dI 0, dI 0, .v (.string ByteArray.empty)]), HPow] rfl (za rfl rfl (zd rfl) (zg rfl (ze (JD.keep [2, 3, 5, 6, 8] [(2, dP g1 0), (3, dI 0), (5, dN (runL (inK [1, 2]) (bl8 s))), (6, dN (vD s)), (8, dN (secB (s.extract (runL (inK [2]) (bl8 s)) (runL (inK [1, 2]) (bl8 s)))))] rfl (zf _ _ rfl rfl rfl (zf _ _ rfl rfl rfl ?_))))))
          obtain ⟨q, hq, hq1⟩ : ∃ q : Nat, 1000000000 / secB (s.extract (runL (inK [2]) (bl8 s)) (runL (inK [1, 2]) (bl8 s))) = q ∧ q ≤ 1000000000 := ⟨_, rfl, Nat.div_le_self _ _⟩
          refine JD.keep [2, 3, 5, 6, 8] [(2, dP g1 0), (3, dI 0), (5, dN (runL (inK [1, 2]) (bl8 s))), (6, dN (vD s)), (8, dN (secB (s.extract (runL (inK [2]) (bl8 s)) (runL (inK [1, 2]) (bl8 s)))))] rfl ?_
          refine zak 52 ((decide (((secB (s.extract (runL (inK [2]) (bl8 s)) (runL (inK [1, 2]) (bl8 s))) : Nat) : Int) = (0 : Int)) || decide (((q : Nat) : Int) < (((vD s) : Nat) : Int)))) [HErr ev, .bx g1 45 (.agg [dI 0, dI 0, .v (.string ByteArray.empty)]), HPow] (fun _ hQ5 => ?_) ?_
          · skip
            by_cases hg6 : ((secB (s.extract (runL (inK [2]) (bl8 s)) (runL (inK [1, 2]) (bl8 s))) : Nat) : Int) = (0 : Int)
            · skip
              refine zb rfl (za rfl rfl (zc rfl) (za rfl rfl (zU rfl rfl (decide_eq_true hg6)) (za rfl rfl (zc rfl) (zi rfl rfl rfl rfl rfl (by decide) (zi rfl rfl rfl rfl rfl (by decide) (zi rfl rfl rfl rfl rfl (by decide) (zi rfl rfl rfl rfl rfl (by decide) (za rfl rfl (zr rfl rfl) (zg rfl ?_)))))))))
              exact PD.sub ((52, dB (decide (((secB (s.extract (runL (inK [2]) (bl8 s)) (runL (inK [1, 2]) (bl8 s))) : Nat) : Int) = (0 : Int)) || decide (((q : Nat) : Int) < (((vD s) : Nat) : Int)))) :: [(2, dP g1 0), (3, dI 0), (5, dN (runL (inK [1, 2]) (bl8 s))), (6, dN (vD s)), (8, dN (secB (s.extract (runL (inK [2]) (bl8 s)) (runL (inK [1, 2]) (bl8 s)))))]) ⟨sc rfl (Cv.eq (congrArg (fun b => D.v (.bool b)) (by first | (simp [h13, hc3, hc4, hg6]; done) | (simp_all; done)))), sk rfl, sk rfl, sk rfl, sk rfl, sk rfl, trivial⟩ hQ5
            · skip
              refine zb rfl (za rfl rfl (zc rfl) (za rfl rfl (zU rfl rfl (decide_eq_false hg6)) (za rfl rfl (zc rfl) (zh rfl rfl rfl rfl rfl (zc rfl) (zh rfl rfl rfl rfl rfl (zc rfl) (zh rfl rfl rfl rfl rfl (zcI (c := ((q : Nat) : Int)) rfl rfl (by omega) (zX (by rw [Int.tdiv_eq_ediv_of_nonneg (by omega), ← hq]; first | exact Int.natCast_ediv _ _ | exact (Int.natCast_ediv _ _).symm) (by omega))) (zh rfl rfl rfl rfl rfl (zaM rfl rfl rfl) (za rfl rfl (zt rfl rfl) (zg rfl ?_)))))))))
              exact PD.sub ((52, dB (decide (((secB (s.extract (runL (inK [2]) (bl8 s)) (runL (inK [1, 2]) (bl8 s))) : Nat) : Int) = (0 : Int)) || decide (((q : Nat) : Int) < (((vD s) : Nat) : Int)))) :: [(2, dP g1 0), (3, dI 0), (5, dN (runL (inK [1, 2]) (bl8 s))), (6, dN (vD s)), (8, dN (secB (s.extract (runL (inK [2]) (bl8 s)) (runL (inK [1, 2]) (bl8 s)))))]) ⟨sc rfl (Cv.eq (congrArg (fun b => D.v (.bool b)) (by first | (simp [h13, hc3, hc4, hg6]; done) | (simp_all; done)))), sk rfl, sk rfl, sk rfl, sk rfl, sk rfl, trivial⟩ hQ5
          · skip
            refine ze ?_
            refine zl _ _ rfl rfl rfl rfl (fun hc7 => ?_) (fun hc7 => ?_)
            · simp only [Bool.and_eq_true, Bool.or_eq_true, Bool.not_eq_true', Bool.not_eq_false', Bool.and_eq_false_iff, Bool.or_eq_false_iff, decide_eq_true_eq, decide_eq_false_iff_not, Decidable.not_not, ne_eq] at hc7
              have hs3 : secB (s.extract (nD s) (nA s)) = 0 ∨ 1000000000 / secB (s.extract (nD s) (nA s)) < vD s := by have h := hc7; rcases h with h | h; (exact .inl (by show secB (s.extract (runL (inK [2]) (bl8 s)) (runL (inK [1, 2]) (bl8 s))) = 0; omega)); (exact .inr (by show 1000000000 / secB (s.extract (runL (inK [2]) (bl8 s)) (runL (inK [1, 2]) (bl8 s))) < _; rw [hq]; omega))
              refine zf _ _ rfl rfl rfl (zb rfl (za rfl rfl (zaa [] [] (zv := (.agg #[(.int .i64 0), (.int .i64 0), (.string ByteArray.empty)])) rfl rfl (.nil) (Tryz.runUnderlying45) Tryz.zeroValue45 zaq ⟨rfl, rfl, rfl, trivial⟩ rfl) (zj rfl rfl (zK (i := 1) (X' := .agg [dI 0, dI 0, .v (.string ByteArray.empty)]) rfl rfl rfl (CellD.agg) Tryz.sizeOf45 rfl rfl rfl) ?_)))
              rintro _ _ ⟨rfl, rfl⟩
              refine OpsD.norm [HErr ev, .bx g1 45 (.agg [dI 0, dI 0, .v (.string ByteArray.empty)]), HPow] rfl (za rfl rfl (zd rfl) (zg rfl (ze (zu rfl (zq (PD.subH (HSub.perm (zm (i := 2) rfl)) (PD.norm [HPow, HErr ev, .bx g1 45 (.agg [dI 0, dI 0, .v (.string ByteArray.empty)])] rfl ?_)))))))
              exact zk Tryz.results64 (.cons (zC (zad (X := .agg [dI 0, dI 0, .v (.string ByteArray.empty)]) (d := .agg [dI 0, dI 0, .v (.string ByteArray.empty)]) (i := 2) rfl rfl Tryz.isAgg45 Tryz.sizeOf45 rfl rfl) ((Cv.agg (.cons Cv.rfl' (.cons Cv.rfl' (.cons ((Cv.str (by first | decide | (unfold maxLen; omega)))) .nil)))).trans (Cv.eq (congrArg TokD.d (show (TokD.mk 0 0 ByteArray.empty) = (numT (bl8 s)).1 from (by rw [zbb hgood hdiff hs3]; try rfl)))))) (.cons (zC (zo rfl) (Cv.eq (congrArg dN (by rw [zbb hgood hdiff hs3]; try rfl)))) .nil)) rfl (HSub.fst 2 rfl) ⟨rfl, rfl⟩
            · simp only [Bool.and_eq_true, Bool.or_eq_true, Bool.not_eq_true', Bool.not_eq_false', Bool.and_eq_false_iff, Bool.or_eq_false_iff, decide_eq_true_eq, decide_eq_false_iff_not, Decidable.not_not, ne_eq] at hc7
              have hs4 : ¬ (secB (s.extract (nD s) (nA s)) = 0 ∨ 1000000000 / secB (s.extract (nD s) (nA s)) < vD s) := fun e => by have h := hc7; rcases e with e | e; (have e : secB (s.extract (runL (inK [2]) (bl8 s)) (runL (inK [1, 2]) (bl8 s))) = 0 := e; omega); (have e : 1000000000 / secB (s.extract (runL (inK [2]) (bl8 s)) (runL (inK [1, 2]) (bl8 s))) < vD s := e; rw [hq] at e; omega)
              have hmu : vD s * secB (s.extract (runL (inK [2]) (bl8 s)) (runL (inK [1, 2]) (bl8 s))) ≤ 1000000000 := by have h := hc7; exact (Nat.le_div_iff_mul_le (by omega)).1 (by rw [hq]; omega)
              refine zy rfl (ze (zf _ _ rfl rfl rfl (zb rfl (za rfl rfl (zc rfl) (za rfl rfl (zc rfl) ?_)))))
              obtain ⟨m, hm, hm1⟩ : ∃ m : Nat, (vD s) * (secB (s.extract (runL (inK [2]) (bl8 s)) (runL (inK [1, 2]) (bl8 s)))) = m ∧ m ≤ 1000000000 := ⟨_, rfl, hmu⟩
              refine za rfl rfl (zc5 (c := ((m : Nat) : Int)) rfl rfl (zX (by rw [← hm]; first | exact Int.natCast_mul _ _ | exact (Int.natCast_mul _ _).symm) (by omega))) (OpsD.subH (HSub.perm (zm (i := 2) rfl)) (OpsD.norm [HPow, HErr ev, .bx g1 45 (.agg [dI 0, dI 0, .v (.string ByteArray.empty)])] rfl (zj rfl rfl (zx [HPow] [HErr ev, .bx g1 45 (.agg [dI 0, dI 0, .v (.string ByteArray.empty)])] [] rfl rfl (.cons ArgC.id .nil) zp Tryz.call93 (itoa_c m (by omega)) (.inl rfl)) ?_)))
              rintro _ _ ⟨_, ⟨rfl, rfl⟩, rfl⟩
              refine OpsD.norm [HPow, HErr ev, .bx g1 45 (.agg [dI 0, dI 0, .v (.string ByteArray.empty)])] rfl (za rfl rfl (zaa [0, 2] [.const (.int .i64 4), .tmp 57] (zv := (.agg #[(.int .i64 0), (.int .i64 0), (.string ByteArray.empty)])) rfl rfl (.cons (CellD.v rfl) (.cons CellD.s .nil)) (Tryz.runUnderlying45) Tryz.zeroValue45 zaq ⟨rfl, rfl, rfl, trivial⟩ rfl) (za rfl rfl (zc rfl) (zj rfl rfl (zK (i := 2) (X' := .agg [dI 4, dI 0, .s (digB m)]) rfl rfl rfl (CellD.agg) Tryz.sizeOf45 rfl rfl rfl) ?_)))
              rintro _ _ ⟨rfl, rfl⟩
              refine OpsD.norm [HPow, HErr ev, .bx g1 45 (.agg [dI 4, dI 0, .s (digB m)])] rfl (za rfl rfl (zd rfl) (zg rfl (ze (JD.keep [2, 3] [(2, dP g1 0), (3, dN (runL (inK [1, 2]) (bl8 s)))] rfl (zu rfl ?_)))))
              exact zk Tryz.results64 (.cons (zC (zad (X := .agg [dI 4, dI 0, .s (digB m)]) (d := .agg [dI 4, dI 0, .s (digB m)]) (i := 2) rfl rfl Tryz.isAgg45 Tryz.sizeOf45 rfl rfl) (Cv.eq (congrArg TokD.d (show (TokD.mk 4 0 (digB m)) = (numT (bl8 s)).1 from (by have e := zbE hgood hdiff hs4; rw [show vD s * secB (s.extract (nD s) (nA s)) = m from hm] at e; rw [e]; try rfl))))) (.cons (zC (zo rfl) (Cv.eq (congrArg dN (by have e := zbE hgood hdiff hs4; rw [show vD s * secB (s.extract (nD s) (nA s)) = m from hm] at e; rw [e]; try rfl)))) .nil)) rfl (HSub.fst 2 rfl) ⟨rfl, rfl⟩
end Lp
