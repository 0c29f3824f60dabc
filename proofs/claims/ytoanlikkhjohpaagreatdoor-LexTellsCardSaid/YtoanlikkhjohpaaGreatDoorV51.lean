/- Walks, printed by a program of mine. -/
import Derived.Test.YtoanlikkhjohpaaGreatDoorV50
set_option linter.unusedSimpArgs false
set_option linter.unusedVariables false
namespace Lp
open Go Go.RowKit Go.Proofs

namespace HdYtoanlikkhjohpaaGreatDoorV51
theorem zaq : ∀ w, ((#[⟨"Kind", 3, 0, false, "", "", 0⟩, ⟨"At", 3, 1, false, "", "", 8⟩, ⟨"Text", 9, 2, false, "", "", 16⟩] : Array Field).mapM fun f => do pure (f.offset, ← Go.sizeOf f.type) : Sem (Array (Nat × Nat))).run Tryz.prog w = .ok ([(0, 1), (1, 1), (2, 1)] : List (Nat × Nat)).toArray w := fun _ => by kernel_rfl
theorem cv_5_3 {a : Int} (h : -9223372036854775808 ≤ a ∧ a ≤ 9223372036854775807) : ∀ w, (convert 5 3 (.int .u8 a)).run Tryz.prog w = .ok (.int .i64 a) w := fun w => by
  have e : IntKind.i64.wrap a = a := by exact w64 (by omega)
  simp [convert, run_underlying (show Tryz.prog.underlying 5 = some _ by kernel_rfl), run_underlying (show Tryz.prog.underlying 3 = some _ by kernel_rfl), Conv.intToInt, e]
end HdYtoanlikkhjohpaaGreatDoorV51
open HdYtoanlikkhjohpaaGreatDoorV51

set_option maxHeartbeats 4000000 in
set_option maxRecDepth 100000 in
theorem rnum_c (s : ByteArray) (hs : s.size ≤ 1000000) :
    CD Tryz.prog 68 [] [.s s] (isR (.tup [TokD.d ((numT (bl8 s)).1), dN ((numT (bl8 s)).2)])) := by
  refine zH Tryz.func68 rfl (N := 85) rfl rfl (fun C => ?_)
  refine JD.keep [0] [(0, .s s)] rfl ?_
  refine JD.bd 0 rfl (fun bd0 => ?_)
  have sz0 : s.size ≤ 9223372036854775807 := bd0
  refine zf _ _ rfl rfl rfl (zb rfl (zj rfl rfl (zbo (zv := (.agg #[(.int .i64 0), (.int .i64 0), (.string ByteArray.empty)])) Tryz.zeroValue45 ⟨rfl, rfl, rfl, trivial⟩ (Cv.vagg (by decide))) ?_))
  rintro _ _ ⟨g1, rfl, rfl⟩
  refine za rfl rfl (zd rfl) (zg rfl (ze (zf _ _ rfl rfl rfl (zb rfl (za rfl rfl (zd rfl) (za rfl rfl (zd rfl) (zg rfl (ze (zf _ _ rfl rfl rfl (zB _ rfl rfl (zS (fun (g : Nat × Nat) => [(0, .s s), (2, dP g1 0), (3, dI 0), (4, dN g.1), (5, dN g.2)]) (fun (g : Nat × Nat) => [.bx g1 45 (.agg [dI 0, dI 0, .v (.string ByteArray.empty)])]) (fun (g : Nat × Nat) => (VInv s g.1 g.2)) (fun (g : Nat × Nat) => s.size - g.1) _ (0, 0) rfl rfl ⟨sk rfl, sk rfl, sk rfl, sk rfl, sk rfl, trivial⟩ HSub.rfl' VInv.zero ?_)))))))))))
  rintro ⟨n, v⟩ hV
  replace hV : VInv s n v := hV
  refine JD.keep [0, 2, 3, 4, 5] [(0, .s s), (2, dP g1 0), (3, dI 0), (4, dN n), (5, dN v)] rfl (JD.norm [.bx g1 45 (.agg [dI 0, dI 0, .v (.string ByteArray.empty)])] rfl ?_)
  have hv13 := hV.lt
  have hns := hV.1
  refine zf _ _ rfl rfl rfl (zf _ _ rfl rfl rfl ?_)
  by_cases hc2 : ((n : Nat) : Int) < ((s.size : Nat) : Int)
  · skip
    obtain ⟨w3, hw3⟩ := zaI s n (by omega)
    have hlw3 := w3.toNat_lt
    refine JD.keep [0, 2, 3, 4, 5] [(0, .s s), (2, dP g1 0), (3, dI 0), (4, dN n), (5, dN v)] rfl ?_
    refine zak 24 ((decide ((48 : Int) ≤ ((w3.toNat : Nat) : Int)) && decide (((w3.toNat : Nat) : Int) ≤ (57 : Int)))) [.bx g1 45 (.agg [dI 0, dI 0, .v (.string ByteArray.empty)])] (fun _ hQ4 => ?_) ?_
    · skip
      by_cases hg5 : (48 : Int) ≤ ((w3.toNat : Nat) : Int)
      · skip
        refine zb rfl (za rfl rfl (zc rfl) (za rfl rfl (zc rfl) (za rfl rfl (zP rfl Tryz.runUnderlying9) (za rfl rfl (z1 rfl rfl (decide_eq_true hc2)) (za rfl rfl (zc rfl) (zh rfl rfl rfl rfl rfl (zc rfl) (zh rfl rfl rfl rfl rfl (zc rfl) (zh rfl rfl rfl rfl rfl (zM (k := n) rfl rfl Tryz.runUnderlying9 (by first | rfl | omega) hw3) (zh rfl rfl rfl rfl rfl (z8 rfl rfl (decide_eq_true hg5)) (za rfl rfl (zr rfl rfl) (za rfl rfl (zc rfl) (zh rfl rfl rfl rfl rfl (zc rfl) (zh rfl rfl rfl rfl rfl (zc rfl) (zh rfl rfl rfl rfl rfl (zM (k := n) rfl rfl Tryz.runUnderlying9 (by first | rfl | omega) hw3) (zh rfl rfl rfl rfl rfl (zaG rfl rfl rfl) (za rfl rfl (zr rfl rfl) (zg rfl ?_)))))))))))))))))
        exact PD.sub ((24, dB (decide ((48 : Int) ≤ ((w3.toNat : Nat) : Int)) && decide (((w3.toNat : Nat) : Int) ≤ (57 : Int)))) :: [(0, .s s), (2, dP g1 0), (3, dI 0), (4, dN n), (5, dN v)]) ⟨sc rfl (Cv.eq (congrArg (fun b => D.v (.bool b)) (by first | (simp [hc2, hg5]; done) | (simp_all; done)))), sk rfl, sk rfl, sk rfl, sk rfl, sk rfl, trivial⟩ hQ4
      · skip
        refine zb rfl (za rfl rfl (zc rfl) (za rfl rfl (zc rfl) (za rfl rfl (zP rfl Tryz.runUnderlying9) (za rfl rfl (z1 rfl rfl (decide_eq_true hc2)) (za rfl rfl (zc rfl) (zh rfl rfl rfl rfl rfl (zc rfl) (zh rfl rfl rfl rfl rfl (zc rfl) (zh rfl rfl rfl rfl rfl (zM (k := n) rfl rfl Tryz.runUnderlying9 (by first | rfl | omega) hw3) (zh rfl rfl rfl rfl rfl (z8 rfl rfl (decide_eq_false hg5)) (za rfl rfl (zr rfl rfl) (za rfl rfl (zc rfl) (zi rfl rfl rfl rfl rfl (by decide) (zi rfl rfl rfl rfl rfl (by decide) (zi rfl rfl rfl rfl rfl (by decide) (zi rfl rfl rfl rfl rfl (by decide) (za rfl rfl (zt rfl rfl) (zg rfl ?_)))))))))))))))))
        exact PD.sub ((24, dB (decide ((48 : Int) ≤ ((w3.toNat : Nat) : Int)) && decide (((w3.toNat : Nat) : Int) ≤ (57 : Int)))) :: [(0, .s s), (2, dP g1 0), (3, dI 0), (4, dN n), (5, dN v)]) ⟨sc rfl (Cv.eq (congrArg (fun b => D.v (.bool b)) (by first | (simp [hc2, hg5]; done) | (simp_all; done)))), sk rfl, sk rfl, sk rfl, sk rfl, sk rfl, trivial⟩ hQ4
    · skip
      refine ze ?_
      refine zl _ _ rfl rfl rfl rfl (fun hc6 => ?_) (fun hc6 => ?_)
      · simp only [Bool.and_eq_true, Bool.or_eq_true, Bool.not_eq_true', Bool.not_eq_false', Bool.and_eq_false_iff, Bool.or_eq_false_iff, decide_eq_true_eq, decide_eq_false_iff_not, Decidable.not_not, ne_eq] at hc6
        refine zy rfl (ze (zB _ rfl rfl (zf _ _ rfl rfl rfl (zf _ _ rfl rfl rfl (zb rfl (za rfl rfl (zc rfl) (za rfl rfl (z1 rfl rfl rfl) (zg rfl (ze ?_)))))))))
        refine zl _ _ rfl rfl rfl rfl (fun hc7 => ?_) (fun hc7 => ?_)
        · replace hc7 := of_decide_eq_true hc7
          refine zb rfl (za rfl rfl (zc rfl) (za rfl rfl (zc5 (c := ((v * 10 : Nat) : Int)) rfl rfl (zX (by omega) (by omega))) (za rfl rfl (zc rfl) (za rfl rfl (zc rfl) (za rfl rfl (zM (k := n) rfl rfl Tryz.runUnderlying9 (by first | rfl | omega) hw3) (za rfl rfl (zcG (c := ((w3.toNat - 48 : Nat) : Int)) rfl rfl (by rw [show ((w3.toNat : Nat) : Int) - (48 : Int) = ((w3.toNat - 48 : Nat) : Int) by omega]; exact zci (n := w3.toNat - 48) (by omega))) (za rfl rfl (zaO rfl (c := ((w3.toNat - 48 : Nat) : Int)) (cv_5_3 (by omega))) (za rfl rfl (z7 (c := (((v * 10) + (w3.toNat - 48) : Nat) : Int)) rfl rfl (zX (by omega) (by omega))) (za rfl rfl (zd rfl) (zg rfl (ze (zb rfl (za rfl rfl (zc rfl) (za rfl rfl (z7 (c := ((n + 1 : Nat) : Int)) rfl rfl (zX (by omega) (by omega))) (za rfl rfl (zd rfl) (zg rfl (zG ?_)))))))))))))))))
          exact zZ (n + 1, (v * 10) + (w3.toNat - 48)) ⟨sk rfl, sk rfl, sk rfl, sk rfl, sk rfl, trivial⟩ HSub.rfl' (hV.next hw3 (by omega) (by omega)) (by omega)
        · replace hc7 := of_decide_eq_false hc7
          refine zy rfl (ze (zb rfl (za rfl rfl (zc rfl) (za rfl rfl (z7 (c := ((n + 1 : Nat) : Int)) rfl rfl (zX (by omega) (by omega))) (za rfl rfl (zd rfl) (zg rfl (zG ?_)))))))
          exact zZ (n + 1, v) ⟨sk rfl, sk rfl, sk rfl, sk rfl, sk rfl, trivial⟩ HSub.rfl' (hV.more hw3 (by omega) (by omega)) (by omega)
      · simp only [Bool.and_eq_true, Bool.or_eq_true, Bool.not_eq_true', Bool.not_eq_false', Bool.and_eq_false_iff, Bool.or_eq_false_iff, decide_eq_true_eq, decide_eq_false_iff_not, Decidable.not_not, ne_eq] at hc6
        have hnd : nD s = n := hV.stop hw3 (by omega)
        have hna := hV.all hnd
        have hnm := zaV (inK [1, 2]) (s.extract n s.size)
        rw [ByteArray.size_extract] at hnm
        refine zO rfl (zD (zz (zw (ze (zf _ _ rfl rfl rfl (zf _ _ rfl rfl rfl (JD.keep [0, 2, 3, 4, 5] [(0, .s s), (2, dP g1 0), (3, dI 0), (4, dN n), (5, dN v)] rfl ?_)))))))
        refine zak 42 ((decide ((13 : Int) < ((n : Nat) : Int)) || decide ((1000000000000 : Int) < ((v : Nat) : Int)))) [.bx g1 45 (.agg [dI 0, dI 0, .v (.string ByteArray.empty)])] (fun _ hQ8 => ?_) ?_
        · skip
          by_cases hg9 : (13 : Int) < ((n : Nat) : Int)
          · skip
            refine zb rfl (za rfl rfl (zc rfl) (za rfl rfl (zaM rfl rfl (decide_eq_true hg9)) (za rfl rfl (zc rfl) (zi rfl rfl rfl rfl rfl (by decide) (zi rfl rfl rfl rfl rfl (by decide) (za rfl rfl (zr rfl rfl) (zg rfl ?_)))))))
            exact PD.sub ((42, dB (decide ((13 : Int) < ((n : Nat) : Int)) || decide ((1000000000000 : Int) < ((v : Nat) : Int)))) :: [(0, .s s), (2, dP g1 0), (3, dI 0), (4, dN n), (5, dN v)]) ⟨sc rfl (Cv.eq (congrArg (fun b => D.v (.bool b)) (by first | (simp [hc2, hg9]; done) | (simp_all; done)))), sk rfl, sk rfl, sk rfl, sk rfl, sk rfl, trivial⟩ hQ8
          · skip
            refine zb rfl (za rfl rfl (zc rfl) (za rfl rfl (zaM rfl rfl (decide_eq_false hg9)) (za rfl rfl (zc rfl) (zh rfl rfl rfl rfl rfl (zc rfl) (zh rfl rfl rfl rfl rfl (zaM rfl rfl rfl) (za rfl rfl (zt rfl rfl) (zg rfl ?_)))))))
            exact PD.sub ((42, dB (decide ((13 : Int) < ((n : Nat) : Int)) || decide ((1000000000000 : Int) < ((v : Nat) : Int)))) :: [(0, .s s), (2, dP g1 0), (3, dI 0), (4, dN n), (5, dN v)]) ⟨sc rfl (Cv.eq (congrArg (fun b => D.v (.bool b)) (by first | (simp [hc2, hg9]; done) | (simp_all; done)))), sk rfl, sk rfl, sk rfl, sk rfl, sk rfl, trivial⟩ hQ8
        · skip
          refine ze ?_
          refine zl _ _ rfl rfl rfl rfl (fun hc10 => ?_) (fun hc10 => ?_)
          · simp only [Bool.and_eq_true, Bool.or_eq_true, Bool.not_eq_true', Bool.not_eq_false', Bool.and_eq_false_iff, Bool.or_eq_false_iff, decide_eq_true_eq, decide_eq_false_iff_not, Decidable.not_not, ne_eq] at hc10
            have hbad : 13 < nD s ∨ 1000000000000 < vD s := by rw [hnd]; by_cases h13 : 13 < n; exact .inl h13; exact .inr (by rw [← hV.val hnd (by omega)]; omega)
            refine zf _ _ rfl rfl rfl (zb rfl (za rfl rfl (zaa [] [] (zv := (.agg #[(.int .i64 0), (.int .i64 0), (.string ByteArray.empty)])) rfl rfl (.nil) (Tryz.runUnderlying45) Tryz.zeroValue45 zaq ⟨rfl, rfl, rfl, trivial⟩ rfl) (zj rfl rfl (zK (i := 0) (X' := .agg [dI 0, dI 0, .v (.string ByteArray.empty)]) rfl rfl rfl (CellD.agg) Tryz.sizeOf45 rfl rfl rfl) ?_)))
            rintro _ _ ⟨rfl, rfl⟩
            refine OpsD.norm [.bx g1 45 (.agg [dI 0, dI 0, .v (.string ByteArray.empty)])] rfl (za rfl rfl (zd rfl) (zg rfl (ze (zu rfl (zq ?_)))))
            exact zk Tryz.results68 (.cons (zC (zad (X := .agg [dI 0, dI 0, .v (.string ByteArray.empty)]) (d := .agg [dI 0, dI 0, .v (.string ByteArray.empty)]) (i := 0) rfl rfl Tryz.isAgg45 Tryz.sizeOf45 rfl rfl) ((Cv.agg (.cons Cv.rfl' (.cons Cv.rfl' (.cons ((Cv.str (by first | decide | (unfold maxLen; omega)))) .nil)))).trans (Cv.eq (congrArg TokD.d (show (TokD.mk 0 0 ByteArray.empty) = (numT (bl8 s)).1 from (by rw [zcS hbad]; try rfl)))))) (.cons (zC (zo rfl) (Cv.eq (congrArg dN (by rw [zcS hbad]; try rfl)))) .nil)) rfl HSub.none ⟨rfl, rfl⟩
          · simp only [Bool.and_eq_true, Bool.or_eq_true, Bool.not_eq_true', Bool.not_eq_false', Bool.and_eq_false_iff, Bool.or_eq_false_iff, decide_eq_true_eq, decide_eq_false_iff_not, Decidable.not_not, ne_eq] at hc10
            have hvv := hV.val hnd (by omega)
            have hgood : ¬ (13 < nD s ∨ 1000000000000 < vD s) := by rw [hnd, ← hvv]; omega
            refine zy rfl (ze (zf _ _ rfl rfl rfl (zb rfl (za rfl rfl (zc rfl) (za rfl rfl (zc rfl) (za rfl rfl (zV (a := n) (c := s.size) rfl rfl rfl (by first | rfl | (show _ = _; omega)) (by first | rfl | (show _ = _; omega)) Tryz.runUnderlying9 (by omega) (by omega)) (zj rfl rfl (zx [] _ [] rfl rfl (.cons ArgC.id .nil) zp Tryz.call67 (rword_c (s.extract n s.size)) (.inl rfl)) ?_)))))))
            rintro _ _ ⟨_, ⟨rfl, rfl⟩, rfl⟩
            refine OpsD.norm [.bx g1 45 (.agg [dI 0, dI 0, .v (.string ByteArray.empty)])] rfl (za rfl rfl (zc rfl) (za rfl rfl (zJ rfl rfl) (za rfl rfl (zJ rfl rfl) (za rfl rfl (zd rfl) (za rfl rfl (zd rfl) (zg rfl (ze (JD.keep [0, 2, 3, 4, 5, 6] [(0, .s s), (2, dP g1 0), (3, dI 0), (4, dN n), (5, dN v), (6, dN (runL (inK [1, 2]) (bl8 (s.extract n s.size))))] rfl (zf _ _ rfl rfl rfl (zf _ _ rfl rfl rfl (zb rfl (za rfl rfl (zc rfl) (za rfl rfl (zU rfl rfl rfl) (zg rfl (ze ?_)))))))))))))))
            refine zl _ _ rfl rfl rfl rfl (fun hc11 => ?_) (fun hc11 => ?_)
            · replace hc11 := of_decide_eq_true hc11
              have hsame : nA s = nD s := by rw [hna, hnd]; show n + runL (inK [1, 2]) (bl8 (s.extract n s.size)) = n; omega
              refine zf _ _ rfl rfl rfl (zb rfl (za rfl rfl (zc rfl) (zj rfl rfl (zx [] _ [] rfl rfl (.cons ArgC.id .nil) zp Tryz.call98 (zbT v (by omega)) (.inl rfl)) ?_)))
              rintro _ _ ⟨_, ⟨rfl, rfl⟩, rfl⟩
              refine OpsD.norm [.bx g1 45 (.agg [dI 0, dI 0, .v (.string ByteArray.empty)])] rfl (za rfl rfl (zaa [0, 2] [.const (.int .i64 2), .tmp 54] (zv := (.agg #[(.int .i64 0), (.int .i64 0), (.string ByteArray.empty)])) rfl rfl (.cons (CellD.v rfl) (.cons CellD.s .nil)) (Tryz.runUnderlying45) Tryz.zeroValue45 zaq ⟨rfl, rfl, rfl, trivial⟩ rfl) (za rfl rfl (zc rfl) (zj rfl rfl (zK (i := 0) (X' := .agg [dI 2, dI 0, .s (digB v)]) rfl rfl rfl (CellD.agg) Tryz.sizeOf45 rfl rfl rfl) ?_)))
              rintro _ _ ⟨rfl, rfl⟩
              refine OpsD.norm [.bx g1 45 (.agg [dI 2, dI 0, .s (digB v)])] rfl (za rfl rfl (zd rfl) (zg rfl (ze (zu rfl (zq ?_)))))
              exact zk Tryz.results68 (.cons (zC (zad (X := .agg [dI 2, dI 0, .s (digB v)]) (d := .agg [dI 2, dI 0, .s (digB v)]) (i := 0) rfl rfl Tryz.isAgg45 Tryz.sizeOf45 rfl rfl) (Cv.eq (congrArg TokD.d (show (TokD.mk 2 0 (digB v)) = (numT (bl8 s)).1 from (by have T := zdi hgood hsame; rw [hnd, ← hvv] at T; rw [T]; try rfl))))) (.cons (zC (zo rfl) (Cv.eq (congrArg dN (by have T := zdi hgood hsame; rw [hnd, ← hvv] at T; rw [T]; try rfl)))) .nil)) rfl HSub.none ⟨rfl, rfl⟩
            · replace hc11 := of_decide_eq_false hc11
              have hdiff : ¬ nA s = nD s := by rw [hna, hnd]; show ¬ n + runL (inK [1, 2]) (bl8 (s.extract n s.size)) = n; omega
              refine zy rfl (ze (zf _ _ rfl rfl rfl (zb rfl (za rfl rfl (zd rfl) (zg rfl (ze (zf _ _ rfl rfl rfl (zf _ _ rfl rfl rfl (zb rfl (za rfl rfl (zc rfl) (za rfl rfl (zc rfl) (za rfl rfl (zc rfl) (za rfl rfl (zc rfl) (za rfl rfl (z7 (c := ((n + (runL (inK [1, 2]) (bl8 (s.extract n s.size))) : Nat) : Int)) rfl rfl (zX (by omega) (by omega))) (za rfl rfl (zV (a := n) (c := n + (runL (inK [1, 2]) (bl8 (s.extract n s.size)))) rfl rfl rfl (by first | rfl | (show _ = _; omega)) (by first | rfl | (show _ = _; omega)) Tryz.runUnderlying9 (by omega) (by omega)) (zg rfl (ze (JD.keep [2, 3, 4, 5, 8, 62] [(2, dP g1 0), (3, dI 0), (4, dN n), (5, dN v), (8, dI 0), (62, .s (s.extract n (n + (runL (inK [1, 2]) (bl8 (s.extract n s.size))))))] rfl (zB _ rfl rfl ?_)))))))))))))))))))
              refine zf _ _ rfl rfl rfl (zb rfl (za rfl rfl (zaD rfl rfl rfl) (za rfl rfl (zd rfl) (zg rfl (ze ?_)))))
              refine zl _ _ rfl rfl rfl rfl (fun hc12 => ?_) (fun hc12 => ?_)
              · replace hc12 := of_decide_eq_true hc12
                have hsec : secB (s.extract (nD s) (nA s)) = 1 := by rw [hna, hnd]; show secB (s.extract n (n + runL (inK [1, 2]) (bl8 (s.extract n s.size)))) = 1; rw [hc12]; decide
                have hone : runL (inK [1, 2]) (bl8 (s.extract n s.size)) = 1 := by have e1 := congrArg ByteArray.size hc12; rw [ByteArray.size_extract] at e1; have e2 : (⟨#[115]⟩ : ByteArray).size = 1 := rfl; omega
                refine zb rfl (za rfl rfl (zd rfl) (zg rfl (zG (ze (zf _ _ rfl rfl rfl (zf _ _ rfl rfl rfl (JD.keep [2, 3, 4, 5, 8] [(2, dP g1 0), (3, dI 0), (4, dN n), (5, dN v), (8, dI 1)] rfl ?_)))))))
                refine zak 76 (decide ((1000000000 : Int) < ((v : Nat) : Int))) [.bx g1 45 (.agg [dI 0, dI 0, .v (.string ByteArray.empty)])] (fun _ hQ13 => ?_) ?_
                · skip
                  refine zb rfl (za rfl rfl (zc rfl) (za rfl rfl (zU rfl rfl (decide_eq_false (by decide))) (za rfl rfl (zc rfl) (zh rfl rfl rfl rfl rfl (zc rfl) (zh rfl rfl rfl rfl rfl (zc rfl) (zh rfl rfl rfl rfl rfl (zcI (c := (1000000000 : Int)) rfl rfl (by decide) (by decide)) (zh rfl rfl rfl rfl rfl (zaM rfl rfl rfl) (za rfl rfl (zt rfl rfl) (zg rfl ?_)))))))))
                  exact PD.sub ((76, dB (decide ((1000000000 : Int) < ((v : Nat) : Int)))) :: [(2, dP g1 0), (3, dI 0), (4, dN n), (5, dN v), (8, dI 1)]) ⟨sc rfl (Cv.eq (congrArg (fun b => D.v (.bool b)) (by first | (simp [hc11, hc12, hc2]; done) | (simp_all; done)))), sk rfl, sk rfl, sk rfl, sk rfl, sk rfl, trivial⟩ hQ13
                · skip
                  refine ze ?_
                  refine zl _ _ rfl rfl rfl rfl (fun hc14 => ?_) (fun hc14 => ?_)
                  · replace hc14 := of_decide_eq_true hc14
                    have hs3 : secB (s.extract (nD s) (nA s)) = 0 ∨ 1000000000 / secB (s.extract (nD s) (nA s)) < vD s := by rw [hsec, ← hvv]; first | exact .inl rfl | exact .inr (by omega)
                    refine zf _ _ rfl rfl rfl (zb rfl (za rfl rfl (zaa [] [] (zv := (.agg #[(.int .i64 0), (.int .i64 0), (.string ByteArray.empty)])) rfl rfl (.nil) (Tryz.runUnderlying45) Tryz.zeroValue45 zaq ⟨rfl, rfl, rfl, trivial⟩ rfl) (zj rfl rfl (zK (i := 0) (X' := .agg [dI 0, dI 0, .v (.string ByteArray.empty)]) rfl rfl rfl (CellD.agg) Tryz.sizeOf45 rfl rfl rfl) ?_)))
                    rintro _ _ ⟨rfl, rfl⟩
                    refine OpsD.norm [.bx g1 45 (.agg [dI 0, dI 0, .v (.string ByteArray.empty)])] rfl (za rfl rfl (zd rfl) (zg rfl (ze (zu rfl (zq ?_)))))
                    exact zk Tryz.results68 (.cons (zC (zad (X := .agg [dI 0, dI 0, .v (.string ByteArray.empty)]) (d := .agg [dI 0, dI 0, .v (.string ByteArray.empty)]) (i := 0) rfl rfl Tryz.isAgg45 Tryz.sizeOf45 rfl rfl) ((Cv.agg (.cons Cv.rfl' (.cons Cv.rfl' (.cons ((Cv.str (by first | decide | (unfold maxLen; omega)))) .nil)))).trans (Cv.eq (congrArg TokD.d (show (TokD.mk 0 0 ByteArray.empty) = (numT (bl8 s)).1 from (by rw [zbb hgood hdiff hs3]; try rfl)))))) (.cons (zC (zo rfl) (Cv.eq (congrArg dN (by rw [zbb hgood hdiff hs3]; try rfl)))) .nil)) rfl HSub.none ⟨rfl, rfl⟩
                  · replace hc14 := of_decide_eq_false hc14
                    have hs4 : ¬ (secB (s.extract (nD s) (nA s)) = 0 ∨ 1000000000 / secB (s.extract (nD s) (nA s)) < vD s) := by rw [hsec, ← hvv]; omega
                    refine zy rfl (ze (zf _ _ rfl rfl rfl (zb rfl (za rfl rfl (zc rfl) (za rfl rfl (zc rfl) (za rfl rfl (zc5 (c := ((v * 1 : Nat) : Int)) rfl rfl (zX (by omega) (by omega))) (zj rfl rfl (zx [] _ [] rfl rfl (.cons ArgC.id .nil) zp Tryz.call98 (zbT (v * 1) (by omega)) (.inl rfl)) ?_)))))))
                    rintro _ _ ⟨_, ⟨rfl, rfl⟩, rfl⟩
                    refine OpsD.norm [.bx g1 45 (.agg [dI 0, dI 0, .v (.string ByteArray.empty)])] rfl (za rfl rfl (zaa [0, 2] [.const (.int .i64 4), .tmp 81] (zv := (.agg #[(.int .i64 0), (.int .i64 0), (.string ByteArray.empty)])) rfl rfl (.cons (CellD.v rfl) (.cons CellD.s .nil)) (Tryz.runUnderlying45) Tryz.zeroValue45 zaq ⟨rfl, rfl, rfl, trivial⟩ rfl) (za rfl rfl (zc rfl) (za rfl rfl (z7 (c := ((n + 1 : Nat) : Int)) rfl rfl (zX (by omega) (by omega))) (zj rfl rfl (zK (i := 0) (X' := .agg [dI 4, dI 0, .s (digB (v * 1))]) rfl rfl rfl (CellD.agg) Tryz.sizeOf45 rfl rfl rfl) ?_))))
                    rintro _ _ ⟨rfl, rfl⟩
                    refine OpsD.norm [.bx g1 45 (.agg [dI 4, dI 0, .s (digB (v * 1))])] rfl (za rfl rfl (zd rfl) (zg rfl (ze (JD.keep [2, 3] [(2, dP g1 0), (3, dN (n + 1))] rfl (zu rfl ?_)))))
                    exact zk Tryz.results68 (.cons (zC (zad (X := .agg [dI 4, dI 0, .s (digB (v * 1))]) (d := .agg [dI 4, dI 0, .s (digB (v * 1))]) (i := 0) rfl rfl Tryz.isAgg45 Tryz.sizeOf45 rfl rfl) (Cv.eq (congrArg TokD.d (show (TokD.mk 4 0 (digB (v * 1))) = (numT (bl8 s)).1 from (by have T := zbE hgood hdiff hs4; rw [hsec, ← hvv] at T; rw [T]; try (first | rfl | (show _ = nA s; rw [hna]; show n + 1 = n + runL (inK [1, 2]) (bl8 (s.extract n s.size)); omega))))))) (.cons (zC (zo rfl) (Cv.eq (congrArg dN (by have T := zbE hgood hdiff hs4; rw [hsec, ← hvv] at T; rw [T]; try (first | rfl | (show _ = nA s; rw [hna]; show n + 1 = n + runL (inK [1, 2]) (bl8 (s.extract n s.size)); omega)))))) .nil)) rfl HSub.none ⟨rfl, rfl⟩
              · replace hc12 := of_decide_eq_false hc12
                refine zf _ _ rfl rfl rfl (zb rfl (za rfl rfl (zaD rfl rfl rfl) (za rfl rfl (zd rfl) (zg rfl (ze ?_)))))
                refine zl _ _ rfl rfl rfl rfl (fun hc15 => ?_) (fun hc15 => ?_)
                · replace hc15 := of_decide_eq_true hc15
                  have hsec : secB (s.extract (nD s) (nA s)) = 60 := by rw [hna, hnd]; show secB (s.extract n (n + runL (inK [1, 2]) (bl8 (s.extract n s.size)))) = 60; rw [hc15]; decide
                  have hone : runL (inK [1, 2]) (bl8 (s.extract n s.size)) = 1 := by have e1 := congrArg ByteArray.size hc15; rw [ByteArray.size_extract] at e1; have e2 : (⟨#[109]⟩ : ByteArray).size = 1 := rfl; omega
                  refine zb rfl (za rfl rfl (zd rfl) (zg rfl (zG (ze (zf _ _ rfl rfl rfl (zf _ _ rfl rfl rfl (JD.keep [2, 3, 4, 5, 8] [(2, dP g1 0), (3, dI 0), (4, dN n), (5, dN v), (8, dI 60)] rfl ?_)))))))
                  refine zak 76 (decide ((16666666 : Int) < ((v : Nat) : Int))) [.bx g1 45 (.agg [dI 0, dI 0, .v (.string ByteArray.empty)])] (fun _ hQ16 => ?_) ?_
                  · skip
                    refine zb rfl (za rfl rfl (zc rfl) (za rfl rfl (zU rfl rfl (decide_eq_false (by decide))) (za rfl rfl (zc rfl) (zh rfl rfl rfl rfl rfl (zc rfl) (zh rfl rfl rfl rfl rfl (zc rfl) (zh rfl rfl rfl rfl rfl (zcI (c := (16666666 : Int)) rfl rfl (by decide) (by decide)) (zh rfl rfl rfl rfl rfl (zaM rfl rfl rfl) (za rfl rfl (zt rfl rfl) (zg rfl ?_)))))))))
                    exact PD.sub ((76, dB (decide ((16666666 : Int) < ((v : Nat) : Int)))) :: [(2, dP g1 0), (3, dI 0), (4, dN n), (5, dN v), (8, dI 60)]) ⟨sc rfl (Cv.eq (congrArg (fun b => D.v (.bool b)) (by first | (simp [hc11, hc12, hc15, hc2]; done) | (simp_all; done)))), sk rfl, sk rfl, sk rfl, sk rfl, sk rfl, trivial⟩ hQ16
                  · skip
                    refine ze ?_
                    refine zl _ _ rfl rfl rfl rfl (fun hc17 => ?_) (fun hc17 => ?_)
                    · replace hc17 := of_decide_eq_true hc17
                      have hs3 : secB (s.extract (nD s) (nA s)) = 0 ∨ 1000000000 / secB (s.extract (nD s) (nA s)) < vD s := by rw [hsec, ← hvv]; first | exact .inl rfl | exact .inr (by omega)
                      refine zf _ _ rfl rfl rfl (zb rfl (za rfl rfl (zaa [] [] (zv := (.agg #[(.int .i64 0), (.int .i64 0), (.string ByteArray.empty)])) rfl rfl (.nil) (Tryz.runUnderlying45) Tryz.zeroValue45 zaq ⟨rfl, rfl, rfl, trivial⟩ rfl) (zj rfl rfl (zK (i := 0) (X' := .agg [dI 0, dI 0, .v (.string ByteArray.empty)]) rfl rfl rfl (CellD.agg) Tryz.sizeOf45 rfl rfl rfl) ?_)))
                      rintro _ _ ⟨rfl, rfl⟩
                      refine OpsD.norm [.bx g1 45 (.agg [dI 0, dI 0, .v (.string ByteArray.empty)])] rfl (za rfl rfl (zd rfl) (zg rfl (ze (zu rfl (zq ?_)))))
                      exact zk Tryz.results68 (.cons (zC (zad (X := .agg [dI 0, dI 0, .v (.string ByteArray.empty)]) (d := .agg [dI 0, dI 0, .v (.string ByteArray.empty)]) (i := 0) rfl rfl Tryz.isAgg45 Tryz.sizeOf45 rfl rfl) ((Cv.agg (.cons Cv.rfl' (.cons Cv.rfl' (.cons ((Cv.str (by first | decide | (unfold maxLen; omega)))) .nil)))).trans (Cv.eq (congrArg TokD.d (show (TokD.mk 0 0 ByteArray.empty) = (numT (bl8 s)).1 from (by rw [zbb hgood hdiff hs3]; try rfl)))))) (.cons (zC (zo rfl) (Cv.eq (congrArg dN (by rw [zbb hgood hdiff hs3]; try rfl)))) .nil)) rfl HSub.none ⟨rfl, rfl⟩
                    · replace hc17 := of_decide_eq_false hc17
                      have hs4 : ¬ (secB (s.extract (nD s) (nA s)) = 0 ∨ 1000000000 / secB (s.extract (nD s) (nA s)) < vD s) := by rw [hsec, ← hvv]; omega
                      refine zy rfl (ze (zf _ _ rfl rfl rfl (zb rfl (za rfl rfl (zc rfl) (za rfl rfl (zc rfl) (za rfl rfl (zc5 (c := ((v * 60 : Nat) : Int)) rfl rfl (zX (by omega) (by omega))) (zj rfl rfl (zx [] _ [] rfl rfl (.cons ArgC.id .nil) zp Tryz.call98 (zbT (v * 60) (by omega)) (.inl rfl)) ?_)))))))
                      rintro _ _ ⟨_, ⟨rfl, rfl⟩, rfl⟩
                      refine OpsD.norm [.bx g1 45 (.agg [dI 0, dI 0, .v (.string ByteArray.empty)])] rfl (za rfl rfl (zaa [0, 2] [.const (.int .i64 4), .tmp 81] (zv := (.agg #[(.int .i64 0), (.int .i64 0), (.string ByteArray.empty)])) rfl rfl (.cons (CellD.v rfl) (.cons CellD.s .nil)) (Tryz.runUnderlying45) Tryz.zeroValue45 zaq ⟨rfl, rfl, rfl, trivial⟩ rfl) (za rfl rfl (zc rfl) (za rfl rfl (z7 (c := ((n + 1 : Nat) : Int)) rfl rfl (zX (by omega) (by omega))) (zj rfl rfl (zK (i := 0) (X' := .agg [dI 4, dI 0, .s (digB (v * 60))]) rfl rfl rfl (CellD.agg) Tryz.sizeOf45 rfl rfl rfl) ?_))))
                      rintro _ _ ⟨rfl, rfl⟩
                      refine OpsD.norm [.bx g1 45 (.agg [dI 4, dI 0, .s (digB (v * 60))])] rfl (za rfl rfl (zd rfl) (zg rfl (ze (JD.keep [2, 3] [(2, dP g1 0), (3, dN (n + 1))] rfl (zu rfl ?_)))))
                      exact zk Tryz.results68 (.cons (zC (zad (X := .agg [dI 4, dI 0, .s (digB (v * 60))]) (d := .agg [dI 4, dI 0, .s (digB (v * 60))]) (i := 0) rfl rfl Tryz.isAgg45 Tryz.sizeOf45 rfl rfl) (Cv.eq (congrArg TokD.d (show (TokD.mk 4 0 (digB (v * 60))) = (numT (bl8 s)).1 from (by have T := zbE hgood hdiff hs4; rw [hsec, ← hvv] at T; rw [T]; try (first | rfl | (show _ = nA s; rw [hna]; show n + 1 = n + runL (inK [1, 2]) (bl8 (s.extract n s.size)); omega))))))) (.cons (zC (zo rfl) (Cv.eq (congrArg dN (by have T := zbE hgood hdiff hs4; rw [hsec, ← hvv] at T; rw [T]; try (first | rfl | (show _ = nA s; rw [hna]; show n + 1 = n + runL (inK [1, 2]) (bl8 (s.extract n s.size)); omega)))))) .nil)) rfl HSub.none ⟨rfl, rfl⟩
                · replace hc15 := of_decide_eq_false hc15
                  refine zf _ _ rfl rfl rfl (zb rfl (za rfl rfl (zaD rfl rfl rfl) (za rfl rfl (zd rfl) (zg rfl (ze ?_)))))
                  refine zl _ _ rfl rfl rfl rfl (fun hc18 => ?_) (fun hc18 => ?_)
                  · replace hc18 := of_decide_eq_true hc18
                    have hsec : secB (s.extract (nD s) (nA s)) = 3600 := by rw [hna, hnd]; show secB (s.extract n (n + runL (inK [1, 2]) (bl8 (s.extract n s.size)))) = 3600; rw [hc18]; decide
                    have hone : runL (inK [1, 2]) (bl8 (s.extract n s.size)) = 1 := by have e1 := congrArg ByteArray.size hc18; rw [ByteArray.size_extract] at e1; have e2 : (⟨#[104]⟩ : ByteArray).size = 1 := rfl; omega
                    refine zb rfl (za rfl rfl (zd rfl) (zg rfl (zG (ze (zf _ _ rfl rfl rfl (zf _ _ rfl rfl rfl (JD.keep [2, 3, 4, 5, 8] [(2, dP g1 0), (3, dI 0), (4, dN n), (5, dN v), (8, dI 3600)] rfl ?_)))))))
                    refine zak 76 (decide ((277777 : Int) < ((v : Nat) : Int))) [.bx g1 45 (.agg [dI 0, dI 0, .v (.string ByteArray.empty)])] (fun _ hQ19 => ?_) ?_
                    · skip
                      refine zb rfl (za rfl rfl (zc rfl) (za rfl rfl (zU rfl rfl (decide_eq_false (by decide))) (za rfl rfl (zc rfl) (zh rfl rfl rfl rfl rfl (zc rfl) (zh rfl rfl rfl rfl rfl (zc rfl) (zh rfl rfl rfl rfl rfl (zcI (c := (277777 : Int)) rfl rfl (by decide) (by decide)) (zh rfl rfl rfl rfl rfl (zaM rfl rfl rfl) (za rfl rfl (zt rfl rfl) (zg rfl ?_)))))))))
                      exact PD.sub ((76, dB (decide ((277777 : Int) < ((v : Nat) : Int)))) :: [(2, dP g1 0), (3, dI 0), (4, dN n), (5, dN v), (8, dI 3600)]) ⟨sc rfl (Cv.eq (congrArg (fun b => D.v (.bool b)) (by first | (simp [hc11, hc12, hc15, hc18, hc2]; done) | (simp_all; done)))), sk rfl, sk rfl, sk rfl, sk rfl, sk rfl, trivial⟩ hQ19
                    · skip
                      refine ze ?_
                      refine zl _ _ rfl rfl rfl rfl (fun hc20 => ?_) (fun hc20 => ?_)
                      · replace hc20 := of_decide_eq_true hc20
                        have hs3 : secB (s.extract (nD s) (nA s)) = 0 ∨ 1000000000 / secB (s.extract (nD s) (nA s)) < vD s := by rw [hsec, ← hvv]; first | exact .inl rfl | exact .inr (by omega)
                        refine zf _ _ rfl rfl rfl (zb rfl (za rfl rfl (zaa [] [] (zv := (.agg #[(.int .i64 0), (.int .i64 0), (.string ByteArray.empty)])) rfl rfl (.nil) (Tryz.runUnderlying45) Tryz.zeroValue45 zaq ⟨rfl, rfl, rfl, trivial⟩ rfl) (zj rfl rfl (zK (i := 0) (X' := .agg [dI 0, dI 0, .v (.string ByteArray.empty)]) rfl rfl rfl (CellD.agg) Tryz.sizeOf45 rfl rfl rfl) ?_)))
                        rintro _ _ ⟨rfl, rfl⟩
                        refine OpsD.norm [.bx g1 45 (.agg [dI 0, dI 0, .v (.string ByteArray.empty)])] rfl (za rfl rfl (zd rfl) (zg rfl (ze (zu rfl (zq ?_)))))
                        exact zk Tryz.results68 (.cons (zC (zad (X := .agg [dI 0, dI 0, .v (.string ByteArray.empty)]) (d := .agg [dI 0, dI 0, .v (.string ByteArray.empty)]) (i := 0) rfl rfl Tryz.isAgg45 Tryz.sizeOf45 rfl rfl) ((Cv.agg (.cons Cv.rfl' (.cons Cv.rfl' (.cons ((Cv.str (by first | decide | (unfold maxLen; omega)))) .nil)))).trans (Cv.eq (congrArg TokD.d (show (TokD.mk 0 0 ByteArray.empty) = (numT (bl8 s)).1 from (by rw [zbb hgood hdiff hs3]; try rfl)))))) (.cons (zC (zo rfl) (Cv.eq (congrArg dN (by rw [zbb hgood hdiff hs3]; try rfl)))) .nil)) rfl HSub.none ⟨rfl, rfl⟩
                      · replace hc20 := of_decide_eq_false hc20
                        have hs4 : ¬ (secB (s.extract (nD s) (nA s)) = 0 ∨ 1000000000 / secB (s.extract (nD s) (nA s)) < vD s) := by rw [hsec, ← hvv]; omega
                        refine zy rfl (ze (zf _ _ rfl rfl rfl (zb rfl (za rfl rfl (zc rfl) (za rfl rfl (zc rfl) (za rfl rfl (zc5 (c := ((v * 3600 : Nat) : Int)) rfl rfl (zX (by omega) (by omega))) (zj rfl rfl (zx [] _ [] rfl rfl (.cons ArgC.id .nil) zp Tryz.call98 (zbT (v * 3600) (by omega)) (.inl rfl)) ?_)))))))
                        rintro _ _ ⟨_, ⟨rfl, rfl⟩, rfl⟩
                        refine OpsD.norm [.bx g1 45 (.agg [dI 0, dI 0, .v (.string ByteArray.empty)])] rfl (za rfl rfl (zaa [0, 2] [.const (.int .i64 4), .tmp 81] (zv := (.agg #[(.int .i64 0), (.int .i64 0), (.string ByteArray.empty)])) rfl rfl (.cons (CellD.v rfl) (.cons CellD.s .nil)) (Tryz.runUnderlying45) Tryz.zeroValue45 zaq ⟨rfl, rfl, rfl, trivial⟩ rfl) (za rfl rfl (zc rfl) (za rfl rfl (z7 (c := ((n + 1 : Nat) : Int)) rfl rfl (zX (by omega) (by omega))) (zj rfl rfl (zK (i := 0) (X' := .agg [dI 4, dI 0, .s (digB (v * 3600))]) rfl rfl rfl (CellD.agg) Tryz.sizeOf45 rfl rfl rfl) ?_))))
                        rintro _ _ ⟨rfl, rfl⟩
                        refine OpsD.norm [.bx g1 45 (.agg [dI 4, dI 0, .s (digB (v * 3600))])] rfl (za rfl rfl (zd rfl) (zg rfl (ze (JD.keep [2, 3] [(2, dP g1 0), (3, dN (n + 1))] rfl (zu rfl ?_)))))
                        exact zk Tryz.results68 (.cons (zC (zad (X := .agg [dI 4, dI 0, .s (digB (v * 3600))]) (d := .agg [dI 4, dI 0, .s (digB (v * 3600))]) (i := 0) rfl rfl Tryz.isAgg45 Tryz.sizeOf45 rfl rfl) (Cv.eq (congrArg TokD.d (show (TokD.mk 4 0 (digB (v * 3600))) = (numT (bl8 s)).1 from (by have T := zbE hgood hdiff hs4; rw [hsec, ← hvv] at T; rw [T]; try (first | rfl | (show _ = nA s; rw [hna]; show n + 1 = n + runL (inK [1, 2]) (bl8 (s.extract n s.size)); omega))))))) (.cons (zC (zo rfl) (Cv.eq (congrArg dN (by have T := zbE hgood hdiff hs4; rw [hsec, ← hvv] at T; rw [T]; try (first | rfl | (show _ = nA s; rw [hna]; show n + 1 = n + runL (inK [1, 2]) (bl8 (s.extract n s.size)); omega)))))) .nil)) rfl HSub.none ⟨rfl, rfl⟩
                  · replace hc18 := of_decide_eq_false hc18
                    have hsec : secB (s.extract (nD s) (nA s)) = 0 := by rw [hna, hnd]; show secB (s.extract n (n + runL (inK [1, 2]) (bl8 (s.extract n s.size)))) = 0; unfold secB; rw [if_neg hc12, if_neg hc15, if_neg hc18]
                    refine zy rfl (zG (ze (zf _ _ rfl rfl rfl (zf _ _ rfl rfl rfl (zb rfl (za rfl rfl (zc rfl) (za rfl rfl (zU rfl rfl (decide_eq_true rfl)) (za rfl rfl (zc rfl) (zi rfl rfl rfl rfl rfl (by decide) (zi rfl rfl rfl rfl rfl (by decide) (zi rfl rfl rfl rfl rfl (by decide) (zi rfl rfl rfl rfl rfl (by decide) (za rfl rfl (zr rfl rfl) (zg rfl (ze (JD.keep [2, 3, 4, 5, 8, 76] [(2, dP g1 0), (3, dI 0), (4, dN n), (5, dN v), (8, dI 0), (76, dB true)] rfl ?_))))))))))))))))
                    have hs3 : secB (s.extract (nD s) (nA s)) = 0 ∨ 1000000000 / secB (s.extract (nD s) (nA s)) < vD s := by rw [hsec, ← hvv]; first | exact .inl rfl | exact .inr (by omega)
                    refine zaB _ rfl rfl rfl (zf _ _ rfl rfl rfl (zb rfl (za rfl rfl (zaa [] [] (zv := (.agg #[(.int .i64 0), (.int .i64 0), (.string ByteArray.empty)])) rfl rfl (.nil) (Tryz.runUnderlying45) Tryz.zeroValue45 zaq ⟨rfl, rfl, rfl, trivial⟩ rfl) (zj rfl rfl (zK (i := 0) (X' := .agg [dI 0, dI 0, .v (.string ByteArray.empty)]) rfl rfl rfl (CellD.agg) Tryz.sizeOf45 rfl rfl rfl) ?_))))
                    rintro _ _ ⟨rfl, rfl⟩
                    refine OpsD.norm [.bx g1 45 (.agg [dI 0, dI 0, .v (.string ByteArray.empty)])] rfl (za rfl rfl (zd rfl) (zg rfl (ze (zu rfl (zq ?_)))))
                    exact zk Tryz.results68 (.cons (zC (zad (X := .agg [dI 0, dI 0, .v (.string ByteArray.empty)]) (d := .agg [dI 0, dI 0, .v (.string ByteArray.empty)]) (i := 0) rfl rfl Tryz.isAgg45 Tryz.sizeOf45 rfl rfl) ((Cv.agg (.cons Cv.rfl' (.cons Cv.rfl' (.cons ((Cv.str (by first | decide | (unfold maxLen; omega)))) .nil)))).trans (Cv.eq (congrArg TokD.d (show (TokD.mk 0 0 ByteArray.empty) = (numT (bl8 s)).1 from (by rw [zbb hgood hdiff hs3]; try rfl)))))) (.cons (zC (zo rfl) (Cv.eq (congrArg dN (by rw [zbb hgood hdiff hs3]; try rfl)))) .nil)) rfl HSub.none ⟨rfl, rfl⟩
  · skip
    refine zb rfl (za rfl rfl (zc rfl) (za rfl rfl (zc rfl) (za rfl rfl (zP rfl Tryz.runUnderlying9) (za rfl rfl (z1 rfl rfl (decide_eq_false hc2)) (za rfl rfl (zc rfl) (zi rfl rfl rfl rfl rfl (by decide) (zi rfl rfl rfl rfl rfl (by decide) (zi rfl rfl rfl rfl rfl (by decide) (zi rfl rfl rfl rfl rfl (by decide) (za rfl rfl (zt rfl rfl) (za rfl rfl (zc rfl) (zi rfl rfl rfl rfl rfl (by decide) (zi rfl rfl rfl rfl rfl (by decide) (zi rfl rfl rfl rfl rfl (by decide) (zi rfl rfl rfl rfl rfl (by decide) (za rfl rfl (zt rfl rfl) (zg rfl (ze ?_))))))))))))))))))
    have hnd : nD s = n := hV.fin (by omega)
    have hna := hV.all hnd
    have hnm := zaV (inK [1, 2]) (s.extract n s.size)
    rw [ByteArray.size_extract] at hnm
    refine zah _ rfl rfl rfl (zO rfl (zD (zz (zw (ze (JD.keep [0, 2, 3, 4, 5] [(0, .s s), (2, dP g1 0), (3, dI 0), (4, dN n), (5, dN v)] rfl (zf _ _ rfl rfl rfl (zf _ _ rfl rfl rfl (JD.keep [0, 2, 3, 4, 5] [(0, .s s), (2, dP g1 0), (3, dI 0), (4, dN n), (5, dN v)] rfl ?_)))))))))
    refine zak 42 ((decide ((13 : Int) < ((n : Nat) : Int)) || decide ((1000000000000 : Int) < ((v : Nat) : Int)))) [.bx g1 45 (.agg [dI 0, dI 0, .v (.string ByteArray.empty)])] (fun _ hQ21 => ?_) ?_
    · skip
      by_cases hg22 : (13 : Int) < ((n : Nat) : Int)
      · skip
        refine zb rfl (za rfl rfl (zc rfl) (za rfl rfl (zaM rfl rfl (decide_eq_true hg22)) (za rfl rfl (zc rfl) (zi rfl rfl rfl rfl rfl (by decide) (zi rfl rfl rfl rfl rfl (by decide) (za rfl rfl (zr rfl rfl) (zg rfl ?_)))))))
        exact PD.sub ((42, dB (decide ((13 : Int) < ((n : Nat) : Int)) || decide ((1000000000000 : Int) < ((v : Nat) : Int)))) :: [(0, .s s), (2, dP g1 0), (3, dI 0), (4, dN n), (5, dN v)]) ⟨sc rfl (Cv.eq (congrArg (fun b => D.v (.bool b)) (by first | (simp [hc2, hg22]; done) | (simp_all; done)))), sk rfl, sk rfl, sk rfl, sk rfl, sk rfl, trivial⟩ hQ21
      · skip
        refine zb rfl (za rfl rfl (zc rfl) (za rfl rfl (zaM rfl rfl (decide_eq_false hg22)) (za rfl rfl (zc rfl) (zh rfl rfl rfl rfl rfl (zc rfl) (zh rfl rfl rfl rfl rfl (zaM rfl rfl rfl) (za rfl rfl (zt rfl rfl) (zg rfl ?_)))))))
        exact PD.sub ((42, dB (decide ((13 : Int) < ((n : Nat) : Int)) || decide ((1000000000000 : Int) < ((v : Nat) : Int)))) :: [(0, .s s), (2, dP g1 0), (3, dI 0), (4, dN n), (5, dN v)]) ⟨sc rfl (Cv.eq (congrArg (fun b => D.v (.bool b)) (by first | (simp [hc2, hg22]; done) | (simp_all; done)))), sk rfl, sk rfl, sk rfl, sk rfl, sk rfl, trivial⟩ hQ21
    · skip
      refine ze ?_
      refine zl _ _ rfl rfl rfl rfl (fun hc23 => ?_) (fun hc23 => ?_)
      · simp only [Bool.and_eq_true, Bool.or_eq_true, Bool.not_eq_true', Bool.not_eq_false', Bool.and_eq_false_iff, Bool.or_eq_false_iff, decide_eq_true_eq, decide_eq_false_iff_not, Decidable.not_not, ne_eq] at hc23
        have hbad : 13 < nD s ∨ 1000000000000 < vD s := by rw [hnd]; by_cases h13 : 13 < n; exact .inl h13; exact .inr (by rw [← hV.val hnd (by omega)]; omega)
        refine zf _ _ rfl rfl rfl (zb rfl (za rfl rfl (zaa [] [] (zv := (.agg #[(.int .i64 0), (.int .i64 0), (.string ByteArray.empty)])) rfl rfl (.nil) (Tryz.runUnderlying45) Tryz.zeroValue45 zaq ⟨rfl, rfl, rfl, trivial⟩ rfl) (zj rfl rfl (zK (i := 0) (X' := .agg [dI 0, dI 0, .v (.string ByteArray.empty)]) rfl rfl rfl (CellD.agg) Tryz.sizeOf45 rfl rfl rfl) ?_)))
        rintro _ _ ⟨rfl, rfl⟩
        refine OpsD.norm [.bx g1 45 (.agg [dI 0, dI 0, .v (.string ByteArray.empty)])] rfl (za rfl rfl (zd rfl) (zg rfl (ze (zu rfl (zq ?_)))))
        exact zk Tryz.results68 (.cons (zC (zad (X := .agg [dI 0, dI 0, .v (.string ByteArray.empty)]) (d := .agg [dI 0, dI 0, .v (.string ByteArray.empty)]) (i := 0) rfl rfl Tryz.isAgg45 Tryz.sizeOf45 rfl rfl) ((Cv.agg (.cons Cv.rfl' (.cons Cv.rfl' (.cons ((Cv.str (by first | decide | (unfold maxLen; omega)))) .nil)))).trans (Cv.eq (congrArg TokD.d (show (TokD.mk 0 0 ByteArray.empty) = (numT (bl8 s)).1 from (by rw [zcS hbad]; try rfl)))))) (.cons (zC (zo rfl) (Cv.eq (congrArg dN (by rw [zcS hbad]; try rfl)))) .nil)) rfl HSub.none ⟨rfl, rfl⟩
      · simp only [Bool.and_eq_true, Bool.or_eq_true, Bool.not_eq_true', Bool.not_eq_false', Bool.and_eq_false_iff, Bool.or_eq_false_iff, decide_eq_true_eq, decide_eq_false_iff_not, Decidable.not_not, ne_eq] at hc23
        have hvv := hV.val hnd (by omega)
        have hgood : ¬ (13 < nD s ∨ 1000000000000 < vD s) := by rw [hnd, ← hvv]; omega
        refine zy rfl (ze (zf _ _ rfl rfl rfl (zb rfl (za rfl rfl (zc rfl) (za rfl rfl (zc rfl) (za rfl rfl (zV (a := n) (c := s.size) rfl rfl rfl (by first | rfl | (show _ = _; omega)) (by first | rfl | (show _ = _; omega)) Tryz.runUnderlying9 (by omega) (by omega)) (zj rfl rfl (zx [] _ [] rfl rfl (.cons ArgC.id .nil) zp Tryz.call67 (rword_c (s.extract n s.size)) (.inl rfl)) ?_)))))))
        rintro _ _ ⟨_, ⟨rfl, rfl⟩, rfl⟩
        refine OpsD.norm [.bx g1 45 (.agg [dI 0, dI 0, .v (.string ByteArray.empty)])] rfl (za rfl rfl (zc rfl) (za rfl rfl (zJ rfl rfl) (za rfl rfl (zJ rfl rfl) (za rfl rfl (zd rfl) (za rfl rfl (zd rfl) (zg rfl (ze (JD.keep [0, 2, 3, 4, 5, 6] [(0, .s s), (2, dP g1 0), (3, dI 0), (4, dN n), (5, dN v), (6, dN (runL (inK [1, 2]) (bl8 (s.extract n s.size))))] rfl (zf _ _ rfl rfl rfl (zf _ _ rfl rfl rfl (zb rfl (za rfl rfl (zc rfl) (za rfl rfl (zU rfl rfl rfl) (zg rfl (ze ?_)))))))))))))))
        refine zl _ _ rfl rfl rfl rfl (fun hc24 => ?_) (fun hc24 => ?_)
        · replace hc24 := of_decide_eq_true hc24
          have hsame : nA s = nD s := by rw [hna, hnd]; show n + runL (inK [1, 2]) (bl8 (s.extract n s.size)) = n; omega
          refine zf _ _ rfl rfl rfl (zb rfl (za rfl rfl (zc rfl) (zj rfl rfl (zx [] _ [] rfl rfl (.cons ArgC.id .nil) zp Tryz.call98 (zbT v (by omega)) (.inl rfl)) ?_)))
          rintro _ _ ⟨_, ⟨rfl, rfl⟩, rfl⟩
          refine OpsD.norm [.bx g1 45 (.agg [dI 0, dI 0, .v (.string ByteArray.empty)])] rfl (za rfl rfl (zaa [0, 2] [.const (.int .i64 2), .tmp 54] (zv := (.agg #[(.int .i64 0), (.int .i64 0), (.string ByteArray.empty)])) rfl rfl (.cons (CellD.v rfl) (.cons CellD.s .nil)) (Tryz.runUnderlying45) Tryz.zeroValue45 zaq ⟨rfl, rfl, rfl, trivial⟩ rfl) (za rfl rfl (zc rfl) (zj rfl rfl (zK (i := 0) (X' := .agg [dI 2, dI 0, .s (digB v)]) rfl rfl rfl (CellD.agg) Tryz.sizeOf45 rfl rfl rfl) ?_)))
          rintro _ _ ⟨rfl, rfl⟩
          refine OpsD.norm [.bx g1 45 (.agg [dI 2, dI 0, .s (digB v)])] rfl (za rfl rfl (zd rfl) (zg rfl (ze (zu rfl (zq ?_)))))
          exact zk Tryz.results68 (.cons (zC (zad (X := .agg [dI 2, dI 0, .s (digB v)]) (d := .agg [dI 2, dI 0, .s (digB v)]) (i := 0) rfl rfl Tryz.isAgg45 Tryz.sizeOf45 rfl rfl) (Cv.eq (congrArg TokD.d (show (TokD.mk 2 0 (digB v)) = (numT (bl8 s)).1 from (by have T := zdi hgood hsame; rw [hnd, ← hvv] at T; rw [T]; try rfl))))) (.cons (zC (zo rfl) (Cv.eq (congrArg dN (by have T := zdi hgood hsame; rw [hnd, ← hvv] at T; rw [T]; try rfl)))) .nil)) rfl HSub.none ⟨rfl, rfl⟩
        · replace hc24 := of_decide_eq_false hc24
          have hdiff : ¬ nA s = nD s := by rw [hna, hnd]; show ¬ n + runL (inK [1, 2]) (bl8 (s.extract n s.size)) = n; omega
          refine zy rfl (ze (zf _ _ rfl rfl rfl (zb rfl (za rfl rfl (zd rfl) (zg rfl (ze (zf _ _ rfl rfl rfl (zf _ _ rfl rfl rfl (zb rfl (za rfl rfl (zc rfl) (za rfl rfl (zc rfl) (za rfl rfl (zc rfl) (za rfl rfl (zc rfl) (za rfl rfl (z7 (c := ((n + (runL (inK [1, 2]) (bl8 (s.extract n s.size))) : Nat) : Int)) rfl rfl (zX (by omega) (by omega))) (za rfl rfl (zV (a := n) (c := n + (runL (inK [1, 2]) (bl8 (s.extract n s.size)))) rfl rfl rfl (by first | rfl | (show _ = _; omega)) (by first | rfl | (show _ = _; omega)) Tryz.runUnderlying9 (by omega) (by omega)) (zg rfl (ze (JD.keep [2, 3, 4, 5, 8, 62] [(2, dP g1 0), (3, dI 0), (4, dN n), (5, dN v), (8, dI 0), (62, .s (s.extract n (n + (runL (inK [1, 2]) (bl8 (s.extract n s.size))))))] rfl (zB _ rfl rfl ?_)))))))))))))))))))
          refine zf _ _ rfl rfl rfl (zb rfl (za rfl rfl (zaD rfl rfl rfl) (za rfl rfl (zd rfl) (zg rfl (ze ?_)))))
          refine zl _ _ rfl rfl rfl rfl (fun hc25 => ?_) (fun hc25 => ?_)
          · replace hc25 := of_decide_eq_true hc25
            have hsec : secB (s.extract (nD s) (nA s)) = 1 := by rw [hna, hnd]; show secB (s.extract n (n + runL (inK [1, 2]) (bl8 (s.extract n s.size)))) = 1; rw [hc25]; decide
            have hone : runL (inK [1, 2]) (bl8 (s.extract n s.size)) = 1 := by have e1 := congrArg ByteArray.size hc25; rw [ByteArray.size_extract] at e1; have e2 : (⟨#[115]⟩ : ByteArray).size = 1 := rfl; omega
            refine zb rfl (za rfl rfl (zd rfl) (zg rfl (zG (ze (zf _ _ rfl rfl rfl (zf _ _ rfl rfl rfl (JD.keep [2, 3, 4, 5, 8] [(2, dP g1 0), (3, dI 0), (4, dN n), (5, dN v), (8, dI 1)] rfl ?_)))))))
            refine zak 76 (decide ((1000000000 : Int) < ((v : Nat) : Int))) [.bx g1 45 (.agg [dI 0, dI 0, .v (.string ByteArray.empty)])] (fun _ hQ26 => ?_) ?_
            · skip
              refine zb rfl (za rfl rfl (zc rfl) (za rfl rfl (zU rfl rfl (decide_eq_false (by decide))) (za rfl rfl (zc rfl) (zh rfl rfl rfl rfl rfl (zc rfl) (zh rfl rfl rfl rfl rfl (zc rfl) (zh rfl rfl rfl rfl rfl (zcI (c := (1000000000 : Int)) rfl rfl (by decide) (by decide)) (zh rfl rfl rfl rfl rfl (zaM rfl rfl rfl) (za rfl rfl (zt rfl rfl) (zg rfl ?_)))))))))
              exact PD.sub ((76, dB (decide ((1000000000 : Int) < ((v : Nat) : Int)))) :: [(2, dP g1 0), (3, dI 0), (4, dN n), (5, dN v), (8, dI 1)]) ⟨sc rfl (Cv.eq (congrArg (fun b => D.v (.bool b)) (by first | (simp [hc2, hc24, hc25]; done) | (simp_all; done)))), sk rfl, sk rfl, sk rfl, sk rfl, sk rfl, trivial⟩ hQ26
            · skip
              refine ze ?_
              refine zl _ _ rfl rfl rfl rfl (fun hc27 => ?_) (fun hc27 => ?_)
              · replace hc27 := of_decide_eq_true hc27
                have hs3 : secB (s.extract (nD s) (nA s)) = 0 ∨ 1000000000 / secB (s.extract (nD s) (nA s)) < vD s := by rw [hsec, ← hvv]; first | exact .inl rfl | exact .inr (by omega)
                refine zf _ _ rfl rfl rfl (zb rfl (za rfl rfl (zaa [] [] (zv := (.agg #[(.int .i64 0), (.int .i64 0), (.string ByteArray.empty)])) rfl rfl (.nil) (Tryz.runUnderlying45) Tryz.zeroValue45 zaq ⟨rfl, rfl, rfl, trivial⟩ rfl) (zj rfl rfl (zK (i := 0) (X' := .agg [dI 0, dI 0, .v (.string ByteArray.empty)]) rfl rfl rfl (CellD.agg) Tryz.sizeOf45 rfl rfl rfl) ?_)))
                rintro _ _ ⟨rfl, rfl⟩
                refine OpsD.norm [.bx g1 45 (.agg [dI 0, dI 0, .v (.string ByteArray.empty)])] rfl (za rfl rfl (zd rfl) (zg rfl (ze (zu rfl (zq ?_)))))
                exact zk Tryz.results68 (.cons (zC (zad (X := .agg [dI 0, dI 0, .v (.string ByteArray.empty)]) (d := .agg [dI 0, dI 0, .v (.string ByteArray.empty)]) (i := 0) rfl rfl Tryz.isAgg45 Tryz.sizeOf45 rfl rfl) ((Cv.agg (.cons Cv.rfl' (.cons Cv.rfl' (.cons ((Cv.str (by first | decide | (unfold maxLen; omega)))) .nil)))).trans (Cv.eq (congrArg TokD.d (show (TokD.mk 0 0 ByteArray.empty) = (numT (bl8 s)).1 from (by rw [zbb hgood hdiff hs3]; try rfl)))))) (.cons (zC (zo rfl) (Cv.eq (congrArg dN (by rw [zbb hgood hdiff hs3]; try rfl)))) .nil)) rfl HSub.none ⟨rfl, rfl⟩
              · replace hc27 := of_decide_eq_false hc27
                have hs4 : ¬ (secB (s.extract (nD s) (nA s)) = 0 ∨ 1000000000 / secB (s.extract (nD s) (nA s)) < vD s) := by rw [hsec, ← hvv]; omega
                refine zy rfl (ze (zf _ _ rfl rfl rfl (zb rfl (za rfl rfl (zc rfl) (za rfl rfl (zc rfl) (za rfl rfl (zc5 (c := ((v * 1 : Nat) : Int)) rfl rfl (zX (by omega) (by omega))) (zj rfl rfl (zx [] _ [] rfl rfl (.cons ArgC.id .nil) zp Tryz.call98 (zbT (v * 1) (by omega)) (.inl rfl)) ?_)))))))
                rintro _ _ ⟨_, ⟨rfl, rfl⟩, rfl⟩
                refine OpsD.norm [.bx g1 45 (.agg [dI 0, dI 0, .v (.string ByteArray.empty)])] rfl (za rfl rfl (zaa [0, 2] [.const (.int .i64 4), .tmp 81] (zv := (.agg #[(.int .i64 0), (.int .i64 0), (.string ByteArray.empty)])) rfl rfl (.cons (CellD.v rfl) (.cons CellD.s .nil)) (Tryz.runUnderlying45) Tryz.zeroValue45 zaq ⟨rfl, rfl, rfl, trivial⟩ rfl) (za rfl rfl (zc rfl) (za rfl rfl (z7 (c := ((n + 1 : Nat) : Int)) rfl rfl (zX (by omega) (by omega))) (zj rfl rfl (zK (i := 0) (X' := .agg [dI 4, dI 0, .s (digB (v * 1))]) rfl rfl rfl (CellD.agg) Tryz.sizeOf45 rfl rfl rfl) ?_))))
                rintro _ _ ⟨rfl, rfl⟩
                refine OpsD.norm [.bx g1 45 (.agg [dI 4, dI 0, .s (digB (v * 1))])] rfl (za rfl rfl (zd rfl) (zg rfl (ze (JD.keep [2, 3] [(2, dP g1 0), (3, dN (n + 1))] rfl (zu rfl ?_)))))
                exact zk Tryz.results68 (.cons (zC (zad (X := .agg [dI 4, dI 0, .s (digB (v * 1))]) (d := .agg [dI 4, dI 0, .s (digB (v * 1))]) (i := 0) rfl rfl Tryz.isAgg45 Tryz.sizeOf45 rfl rfl) (Cv.eq (congrArg TokD.d (show (TokD.mk 4 0 (digB (v * 1))) = (numT (bl8 s)).1 from (by have T := zbE hgood hdiff hs4; rw [hsec, ← hvv] at T; rw [T]; try (first | rfl | (show _ = nA s; rw [hna]; show n + 1 = n + runL (inK [1, 2]) (bl8 (s.extract n s.size)); omega))))))) (.cons (zC (zo rfl) (Cv.eq (congrArg dN (by have T := zbE hgood hdiff hs4; rw [hsec, ← hvv] at T; rw [T]; try (first | rfl | (show _ = nA s; rw [hna]; show n + 1 = n + runL (inK [1, 2]) (bl8 (s.extract n s.size)); omega)))))) .nil)) rfl HSub.none ⟨rfl, rfl⟩
          · replace hc25 := of_decide_eq_false hc25
            refine zf _ _ rfl rfl rfl (zb rfl (za rfl rfl (zaD rfl rfl rfl) (za rfl rfl (zd rfl) (zg rfl (ze ?_)))))
            refine zl _ _ rfl rfl rfl rfl (fun hc28 => ?_) (fun hc28 => ?_)
            · replace hc28 := of_decide_eq_true hc28
              have hsec : secB (s.extract (nD s) (nA s)) = 60 := by rw [hna, hnd]; show secB (s.extract n (n + runL (inK [1, 2]) (bl8 (s.extract n s.size)))) = 60; rw [hc28]; decide
              have hone : runL (inK [1, 2]) (bl8 (s.extract n s.size)) = 1 := by have e1 := congrArg ByteArray.size hc28; rw [ByteArray.size_extract] at e1; have e2 : (⟨#[109]⟩ : ByteArray).size = 1 := rfl; omega
              refine zb rfl (za rfl rfl (zd rfl) (zg rfl (zG (ze (zf _ _ rfl rfl rfl (zf _ _ rfl rfl rfl (JD.keep [2, 3, 4, 5, 8] [(2, dP g1 0), (3, dI 0), (4, dN n), (5, dN v), (8, dI 60)] rfl ?_)))))))
              refine zak 76 (decide ((16666666 : Int) < ((v : Nat) : Int))) [.bx g1 45 (.agg [dI 0, dI 0, .v (.string ByteArray.empty)])] (fun _ hQ29 => ?_) ?_
              · skip
                refine zb rfl (za rfl rfl (zc rfl) (za rfl rfl (zU rfl rfl (decide_eq_false (by decide))) (za rfl rfl (zc rfl) (zh rfl rfl rfl rfl rfl (zc rfl) (zh rfl rfl rfl rfl rfl (zc rfl) (zh rfl rfl rfl rfl rfl (zcI (c := (16666666 : Int)) rfl rfl (by decide) (by decide)) (zh rfl rfl rfl rfl rfl (zaM rfl rfl rfl) (za rfl rfl (zt rfl rfl) (zg rfl ?_)))))))))
                exact PD.sub ((76, dB (decide ((16666666 : Int) < ((v : Nat) : Int)))) :: [(2, dP g1 0), (3, dI 0), (4, dN n), (5, dN v), (8, dI 60)]) ⟨sc rfl (Cv.eq (congrArg (fun b => D.v (.bool b)) (by first | (simp [hc2, hc24, hc25, hc28]; done) | (simp_all; done)))), sk rfl, sk rfl, sk rfl, sk rfl, sk rfl, trivial⟩ hQ29
              · skip
                refine ze ?_
                refine zl _ _ rfl rfl rfl rfl (fun hc30 => ?_) (fun hc30 => ?_)
                · replace hc30 := of_decide_eq_true hc30
                  have hs3 : secB (s.extract (nD s) (nA s)) = 0 ∨ 1000000000 / secB (s.extract (nD s) (nA s)) < vD s := by rw [hsec, ← hvv]; first | exact .inl rfl | exact .inr (by omega)
                  refine zf _ _ rfl rfl rfl (zb rfl (za rfl rfl (zaa [] [] (zv := (.agg #[(.int .i64 0), (.int .i64 0), (.string ByteArray.empty)])) rfl rfl (.nil) (Tryz.runUnderlying45) Tryz.zeroValue45 zaq ⟨rfl, rfl, rfl, trivial⟩ rfl) (zj rfl rfl (zK (i := 0) (X' := .agg [dI 0, dI 0, .v (.string ByteArray.empty)]) rfl rfl rfl (CellD.agg) Tryz.sizeOf45 rfl rfl rfl) ?_)))
                  rintro _ _ ⟨rfl, rfl⟩
                  refine OpsD.norm [.bx g1 45 (.agg [dI 0, dI 0, .v (.string ByteArray.empty)])] rfl (za rfl rfl (zd rfl) (zg rfl (ze (zu rfl (zq ?_)))))
                  exact zk Tryz.results68 (.cons (zC (zad (X := .agg [dI 0, dI 0, .v (.string ByteArray.empty)]) (d := .agg [dI 0, dI 0, .v (.string ByteArray.empty)]) (i := 0) rfl rfl Tryz.isAgg45 Tryz.sizeOf45 rfl rfl) ((Cv.agg (.cons Cv.rfl' (.cons Cv.rfl' (.cons ((Cv.str (by first | decide | (unfold maxLen; omega)))) .nil)))).trans (Cv.eq (congrArg TokD.d (show (TokD.mk 0 0 ByteArray.empty) = (numT (bl8 s)).1 from (by rw [zbb hgood hdiff hs3]; try rfl)))))) (.cons (zC (zo rfl) (Cv.eq (congrArg dN (by rw [zbb hgood hdiff hs3]; try rfl)))) .nil)) rfl HSub.none ⟨rfl, rfl⟩
                · replace hc30 := of_decide_eq_false hc30
                  have hs4 : ¬ (secB (s.extract (nD s) (nA s)) = 0 ∨ 1000000000 / secB (s.extract (nD s) (nA s)) < vD s) := by rw [hsec, ← hvv]; omega
                  refine zy rfl (ze (zf _ _ rfl rfl rfl (zb rfl (za rfl rfl (zc rfl) (za rfl rfl (zc rfl) (za rfl rfl (zc5 (c := ((v * 60 : Nat) : Int)) rfl rfl (zX (by omega) (by omega))) (zj rfl rfl (zx [] _ [] rfl rfl (.cons ArgC.id .nil) zp Tryz.call98 (zbT (v * 60) (by omega)) (.inl rfl)) ?_)))))))
                  rintro _ _ ⟨_, ⟨rfl, rfl⟩, rfl⟩
                  refine OpsD.norm [.bx g1 45 (.agg [dI 0, dI 0, .v (.string ByteArray.empty)])] rfl (za rfl rfl (zaa [0, 2] [.const (.int .i64 4), .tmp 81] (zv := (.agg #[(.int .i64 0), (.int .i64 0), (.string ByteArray.empty)])) rfl rfl (.cons (CellD.v rfl) (.cons CellD.s .nil)) (Tryz.runUnderlying45) Tryz.zeroValue45 zaq ⟨rfl, rfl, rfl, trivial⟩ rfl) (za rfl rfl (zc rfl) (za rfl rfl (z7 (c := ((n + 1 : Nat) : Int)) rfl rfl (zX (by omega) (by omega))) (zj rfl rfl (zK (i := 0) (X' := .agg [dI 4, dI 0, .s (digB (v * 60))]) rfl rfl rfl (CellD.agg) Tryz.sizeOf45 rfl rfl rfl) ?_))))
                  rintro _ _ ⟨rfl, rfl⟩
                  refine OpsD.norm [.bx g1 45 (.agg [dI 4, dI 0, .s (digB (v * 60))])] rfl (za rfl rfl (zd rfl) (zg rfl (ze (JD.keep [2, 3] [(2, dP g1 0), (3, dN (n + 1))] rfl (zu rfl ?_)))))
                  exact zk Tryz.results68 (.cons (zC (zad (X := .agg [dI 4, dI 0, .s (digB (v * 60))]) (d := .agg [dI 4, dI 0, .s (digB (v * 60))]) (i := 0) rfl rfl Tryz.isAgg45 Tryz.sizeOf45 rfl rfl) (Cv.eq (congrArg TokD.d (show (TokD.mk 4 0 (digB (v * 60))) = (numT (bl8 s)).1 from (by have T := zbE hgood hdiff hs4; rw [hsec, ← hvv] at T; rw [T]; try (first | rfl | (show _ = nA s; rw [hna]; show n + 1 = n + runL (inK [1, 2]) (bl8 (s.extract n s.size)); omega))))))) (.cons (zC (zo rfl) (Cv.eq (congrArg dN (by have T := zbE hgood hdiff hs4; rw [hsec, ← hvv] at T; rw [T]; try (first | rfl | (show _ = nA s; rw [hna]; show n + 1 = n + runL (inK [1, 2]) (bl8 (s.extract n s.size)); omega)))))) .nil)) rfl HSub.none ⟨rfl, rfl⟩
            · replace hc28 := of_decide_eq_false hc28
              refine zf _ _ rfl rfl rfl (zb rfl (za rfl rfl (zaD rfl rfl rfl) (za rfl rfl (zd rfl) (zg rfl (ze ?_)))))
              refine zl _ _ rfl rfl rfl rfl (fun hc31 => ?_) (fun hc31 => ?_)
              · replace hc31 := of_decide_eq_true hc31
                have hsec : secB (s.extract (nD s) (nA s)) = 3600 := by rw [hna, hnd]; show secB (s.extract n (n + runL (inK [1, 2]) (bl8 (s.extract n s.size)))) = 3600; rw [hc31]; decide
                have hone : runL (inK [1, 2]) (bl8 (s.extract n s.size)) = 1 := by have e1 := congrArg ByteArray.size hc31; rw [ByteArray.size_extract] at e1; have e2 : (⟨#[104]⟩ : ByteArray).size = 1 := rfl; omega
                refine zb rfl (za rfl rfl (zd rfl) (zg rfl (zG (ze (zf _ _ rfl rfl rfl (zf _ _ rfl rfl rfl (JD.keep [2, 3, 4, 5, 8] [(2, dP g1 0), (3, dI 0), (4, dN n), (5, dN v), (8, dI 3600)] rfl ?_)))))))
                refine zak 76 (decide ((277777 : Int) < ((v : Nat) : Int))) [.bx g1 45 (.agg [dI 0, dI 0, .v (.string ByteArray.empty)])] (fun _ hQ32 => ?_) ?_
                · skip
                  refine zb rfl (za rfl rfl (zc rfl) (za rfl rfl (zU rfl rfl (decide_eq_false (by decide))) (za rfl rfl (zc rfl) (zh rfl rfl rfl rfl rfl (zc rfl) (zh rfl rfl rfl rfl rfl (zc rfl) (zh rfl rfl rfl rfl rfl (zcI (c := (277777 : Int)) rfl rfl (by decide) (by decide)) (zh rfl rfl rfl rfl rfl (zaM rfl rfl rfl) (za rfl rfl (zt rfl rfl) (zg rfl ?_)))))))))
                  exact PD.sub ((76, dB (decide ((277777 : Int) < ((v : Nat) : Int)))) :: [(2, dP g1 0), (3, dI 0), (4, dN n), (5, dN v), (8, dI 3600)]) ⟨sc rfl (Cv.eq (congrArg (fun b => D.v (.bool b)) (by first | (simp [hc2, hc24, hc25, hc28, hc31]; done) | (simp_all; done)))), sk rfl, sk rfl, sk rfl, sk rfl, sk rfl, trivial⟩ hQ32
                · skip
                  refine ze ?_
                  refine zl _ _ rfl rfl rfl rfl (fun hc33 => ?_) (fun hc33 => ?_)
                  · replace hc33 := of_decide_eq_true hc33
                    have hs3 : secB (s.extract (nD s) (nA s)) = 0 ∨ 1000000000 / secB (s.extract (nD s) (nA s)) < vD s := by rw [hsec, ← hvv]; first | exact .inl rfl | exact .inr (by omega)
                    refine zf _ _ rfl rfl rfl (zb rfl (za rfl rfl (zaa [] [] (zv := (.agg #[(.int .i64 0), (.int .i64 0), (.string ByteArray.empty)])) rfl rfl (.nil) (Tryz.runUnderlying45) Tryz.zeroValue45 zaq ⟨rfl, rfl, rfl, trivial⟩ rfl) (zj rfl rfl (zK (i := 0) (X' := .agg [dI 0, dI 0, .v (.string ByteArray.empty)]) rfl rfl rfl (CellD.agg) Tryz.sizeOf45 rfl rfl rfl) ?_)))
                    rintro _ _ ⟨rfl, rfl⟩
                    refine OpsD.norm [.bx g1 45 (.agg [dI 0, dI 0, .v (.string ByteArray.empty)])] rfl (za rfl rfl (zd rfl) (zg rfl (ze (zu rfl (zq ?_)))))
                    exact zk Tryz.results68 (.cons (zC (zad (X := .agg [dI 0, dI 0, .v (.string ByteArray.empty)]) (d := .agg [dI 0, dI 0, .v (.string ByteArray.empty)]) (i := 0) rfl rfl Tryz.isAgg45 Tryz.sizeOf45 rfl rfl) ((Cv.agg (.cons Cv.rfl' (.cons Cv.rfl' (.cons ((Cv.str (by first | decide | (unfold maxLen; omega)))) .nil)))).trans (Cv.eq (congrArg TokD.d (show (TokD.mk 0 0 ByteArray.empty) = (numT (bl8 s)).1 from (by rw [zbb hgood hdiff hs3]; try rfl)))))) (.cons (zC (zo rfl) (Cv.eq (congrArg dN (by rw [zbb hgood hdiff hs3]; try rfl)))) .nil)) rfl HSub.none ⟨rfl, rfl⟩
                  · replace hc33 := of_decide_eq_false hc33
                    have hs4 : ¬ (secB (s.extract (nD s) (nA s)) = 0 ∨ 1000000000 / secB (s.extract (nD s) (nA s)) < vD s) := by rw [hsec, ← hvv]; omega
                    refine zy rfl (ze (zf _ _ rfl rfl rfl (zb rfl (za rfl rfl (zc rfl) (za rfl rfl (zc rfl) (za rfl rfl (zc5 (c := ((v * 3600 : Nat) : Int)) rfl rfl (zX (by omega) (by omega))) (zj rfl rfl (zx [] _ [] rfl rfl (.cons ArgC.id .nil) zp Tryz.call98 (zbT (v * 3600) (by omega)) (.inl rfl)) ?_)))))))
                    rintro _ _ ⟨_, ⟨rfl, rfl⟩, rfl⟩
                    refine OpsD.norm [.bx g1 45 (.agg [dI 0, dI 0, .v (.string ByteArray.empty)])] rfl (za rfl rfl (zaa [0, 2] [.const (.int .i64 4), .tmp 81] (zv := (.agg #[(.int .i64 0), (.int .i64 0), (.string ByteArray.empty)])) rfl rfl (.cons (CellD.v rfl) (.cons CellD.s .nil)) (Tryz.runUnderlying45) Tryz.zeroValue45 zaq ⟨rfl, rfl, rfl, trivial⟩ rfl) (za rfl rfl (zc rfl) (za rfl rfl (z7 (c := ((n + 1 : Nat) : Int)) rfl rfl (zX (by omega) (by omega))) (zj rfl rfl (zK (i := 0) (X' := .agg [dI 4, dI 0, .s (digB (v * 3600))]) rfl rfl rfl (CellD.agg) Tryz.sizeOf45 rfl rfl rfl) ?_))))
                    rintro _ _ ⟨rfl, rfl⟩
                    refine OpsD.norm [.bx g1 45 (.agg [dI 4, dI 0, .s (digB (v * 3600))])] rfl (za rfl rfl (zd rfl) (zg rfl (ze (JD.keep [2, 3] [(2, dP g1 0), (3, dN (n + 1))] rfl (zu rfl ?_)))))
                    exact zk Tryz.results68 (.cons (zC (zad (X := .agg [dI 4, dI 0, .s (digB (v * 3600))]) (d := .agg [dI 4, dI 0, .s (digB (v * 3600))]) (i := 0) rfl rfl Tryz.isAgg45 Tryz.sizeOf45 rfl rfl) (Cv.eq (congrArg TokD.d (show (TokD.mk 4 0 (digB (v * 3600))) = (numT (bl8 s)).1 from (by have T := zbE hgood hdiff hs4; rw [hsec, ← hvv] at T; rw [T]; try (first | rfl | (show _ = nA s; rw [hna]; show n + 1 = n + runL (inK [1, 2]) (bl8 (s.extract n s.size)); omega))))))) (.cons (zC (zo rfl) (Cv.eq (congrArg dN (by have T := zbE hgood hdiff hs4; rw [hsec, ← hvv] at T; rw [T]; try (first | rfl | (show _ = nA s; rw [hna]; show n + 1 = n + runL (inK [1, 2]) (bl8 (s.extract n s.size)); omega)))))) .nil)) rfl HSub.none ⟨rfl, rfl⟩
              · replace hc31 := of_decide_eq_false hc31
                have hsec : secB (s.extract (nD s) (nA s)) = 0 := by rw [hna, hnd]; show secB (s.extract n (n + runL (inK [1, 2]) (bl8 (s.extract n s.size)))) = 0; unfold secB; rw [if_neg hc25, if_neg hc28, if_neg hc31]
                refine zy rfl (zG (ze (zf _ _ rfl rfl rfl (zf _ _ rfl rfl rfl (zb rfl (za rfl rfl (zc rfl) (za rfl rfl (zU rfl rfl (decide_eq_true rfl)) (za rfl rfl (zc rfl) (zi rfl rfl rfl rfl rfl (by decide) (zi rfl rfl rfl rfl rfl (by decide) (zi rfl rfl rfl rfl rfl (by decide) (zi rfl rfl rfl rfl rfl (by decide) (za rfl rfl (zr rfl rfl) (zg rfl (ze (JD.keep [2, 3, 4, 5, 8, 76] [(2, dP g1 0), (3, dI 0), (4, dN n), (5, dN v), (8, dI 0), (76, dB true)] rfl ?_))))))))))))))))
                have hs3 : secB (s.extract (nD s) (nA s)) = 0 ∨ 1000000000 / secB (s.extract (nD s) (nA s)) < vD s := by rw [hsec, ← hvv]; first | exact .inl rfl | exact .inr (by omega)
                refine zaB _ rfl rfl rfl (zf _ _ rfl rfl rfl (zb rfl (za rfl rfl (zaa [] [] (zv := (.agg #[(.int .i64 0), (.int .i64 0), (.string ByteArray.empty)])) rfl rfl (.nil) (Tryz.runUnderlying45) Tryz.zeroValue45 zaq ⟨rfl, rfl, rfl, trivial⟩ rfl) (zj rfl rfl (zK (i := 0) (X' := .agg [dI 0, dI 0, .v (.string ByteArray.empty)]) rfl rfl rfl (CellD.agg) Tryz.sizeOf45 rfl rfl rfl) ?_))))
                rintro _ _ ⟨rfl, rfl⟩
                refine OpsD.norm [.bx g1 45 (.agg [dI 0, dI 0, .v (.string ByteArray.empty)])] rfl (za rfl rfl (zd rfl) (zg rfl (ze (zu rfl (zq ?_)))))
                exact zk Tryz.results68 (.cons (zC (zad (X := .agg [dI 0, dI 0, .v (.string ByteArray.empty)]) (d := .agg [dI 0, dI 0, .v (.string ByteArray.empty)]) (i := 0) rfl rfl Tryz.isAgg45 Tryz.sizeOf45 rfl rfl) ((Cv.agg (.cons Cv.rfl' (.cons Cv.rfl' (.cons ((Cv.str (by first | decide | (unfold maxLen; omega)))) .nil)))).trans (Cv.eq (congrArg TokD.d (show (TokD.mk 0 0 ByteArray.empty) = (numT (bl8 s)).1 from (by rw [zbb hgood hdiff hs3]; try rfl)))))) (.cons (zC (zo rfl) (Cv.eq (congrArg dN (by rw [zbb hgood hdiff hs3]; try rfl)))) .nil)) rfl HSub.none ⟨rfl, rfl⟩
end Lp
