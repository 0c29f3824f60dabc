/- Walks, printed by a program of mine. -/
import Derived.Test.YtoanlikkhjohpaaGreatDoorV48
set_option linter.unusedSimpArgs false
set_option linter.unusedVariables false
namespace Lp
open Go Go.RowKit Go.Proofs

namespace HdYtoanlikkhjohpaaGreatDoorV49
theorem zdw {a : Int} (h : 0 ≤ a ∧ a ≤ 255) : ∀ w, (convert 3 5 (.int .i64 a)).run Tryz.prog w = .ok (.int .u8 a) w := fun w => by
  have e : IntKind.u8.wrap a = a := by simp [IntKind.wrap, IntKind.bits, IntKind.signed]; omega
  simp [convert, run_underlying (show Tryz.prog.underlying 3 = some _ by kernel_rfl), run_underlying (show Tryz.prog.underlying 5 = some _ by kernel_rfl), Conv.intToInt, e]
theorem zbq : ∃ i, Tryz.prog.info? 5 = some i ∧ i.zero = some (.int .u8 0) ∧ i.size = 1 ∧ i.bytes = 1 := zce (by kernel_rfl)
theorem zaL : Tryz.prog.underlying 128 = some (.slice 5) := by kernel_rfl
end HdYtoanlikkhjohpaaGreatDoorV49
open HdYtoanlikkhjohpaaGreatDoorV49

theorem zdr (u : UInt8) : CD Tryz.prog 99 [] [dU8 u] (isR (dI (hexI u.toNat))) := rhex_c u.toNat (by have := UInt8.toNat_lt u; omega)

set_option maxHeartbeats 4000000 in
set_option maxRecDepth 100000 in
theorem rUnq_c (s : ByteArray) (hs : s.size ≤ 1000000) :
    CD Tryz.prog 69 [] [.s s] (isR (.tup [D.s (unqT s), dB (zbh s)])) := by
  refine zH Tryz.func69 rfl (N := 147) rfl rfl (fun C => ?_)
  refine JD.keep [0] [(0, .s s)] rfl ?_
  refine JD.bd 0 rfl (fun bd0 => ?_)
  have sz0 : s.size ≤ 9223372036854775807 := bd0
  refine zf _ _ rfl rfl rfl (zb rfl (za rfl rfl (zd rfl) (za rfl rfl (zd rfl) (zg rfl (ze (zf _ _ rfl rfl rfl (zf _ _ rfl rfl rfl ?_)))))))
  by_cases hc1 : ((s.size : Nat) : Int) < (2 : Int)
  · skip
    refine zb rfl (za rfl rfl (zc rfl) (za rfl rfl (zP rfl Tryz.runUnderlying9) (za rfl rfl (z1 rfl rfl (decide_eq_true hc1)) (za rfl rfl (zc rfl) (zi rfl rfl rfl rfl rfl (by decide) (zi rfl rfl rfl rfl rfl (by decide) (zi rfl rfl rfl rfl rfl (by decide) (za rfl rfl (zr rfl rfl) (za rfl rfl (zc rfl) (zi rfl rfl rfl rfl rfl (by decide) (zi rfl rfl rfl rfl rfl (by decide) (zi rfl rfl rfl rfl rfl (by decide) (zi rfl rfl rfl rfl rfl (by decide) (zi rfl rfl rfl rfl rfl (by decide) (zi rfl rfl rfl rfl rfl (by decide) (za rfl rfl (zr rfl rfl) (zg rfl (ze (JD.keep [0, 2, 3, 23] [(0, .s s), (2, .v (.string ByteArray.empty)), (3, dB false), (23, dB true)] rfl (zaB _ rfl rfl rfl (zf _ _ rfl rfl rfl (zb rfl (za rfl rfl (zd rfl) (za rfl rfl (zd rfl) (zg rfl (ze (zu rfl (zq ?_))))))))))))))))))))))))))))
    exact zk Tryz.results69 (.cons (zC (zo rfl) (((Cv.str (by first | decide | (unfold maxLen; omega)))).trans (Cv.eq (congrArg D.s (by first | (have T := unq_short (s := s) (by omega); first | exact T.1 | exact T.2)))))) (.cons (zC (zo rfl) (Cv.eq (congrArg (fun b => D.v (.bool b)) (by first | (have T := unq_short (s := s) (by omega); first | exact T.1 | exact T.2))))) .nil)) rfl HSub.none ⟨rfl, rfl⟩
  · skip
    obtain ⟨w2, hw2⟩ := zaI s 0 (by omega)
    have hlw2 := w2.toNat_lt
    obtain ⟨w3, hw3⟩ := zaI s (s.size - 1) (by omega)
    have hlw3 := w3.toNat_lt
    refine JD.keep [0, 2, 3] [(0, .s s), (2, .v (.string ByteArray.empty)), (3, dB false)] rfl ?_
    refine zak 23 ((decide (((w2.toNat : Nat) : Int) ≠ (34 : Int)) || decide (((w3.toNat : Nat) : Int) ≠ (34 : Int)))) [] (fun _ hQ4 => ?_) ?_
    · skip
      by_cases hg5 : ((w2.toNat : Nat) : Int) ≠ (34 : Int)
      · skip
        refine zb rfl (za rfl rfl (zc rfl) (za rfl rfl (zP rfl Tryz.runUnderlying9) (za rfl rfl (z1 rfl rfl (decide_eq_false hc1)) (za rfl rfl (zc rfl) (zh rfl rfl rfl rfl rfl (zc rfl) (zh rfl rfl rfl rfl rfl (zM (k := 0) rfl rfl Tryz.runUnderlying9 (by first | rfl | omega) hw2) (zh rfl rfl rfl rfl rfl (zcd rfl rfl (decide_eq_true hg5)) (za rfl rfl (zt rfl rfl) (za rfl rfl (zc rfl) (zi rfl rfl rfl rfl rfl (by decide) (zi rfl rfl rfl rfl rfl (by decide) (zi rfl rfl rfl rfl rfl (by decide) (zi rfl rfl rfl rfl rfl (by decide) (zi rfl rfl rfl rfl rfl (by decide) (zi rfl rfl rfl rfl rfl (by decide) (za rfl rfl (zr rfl rfl) (zg rfl ?_)))))))))))))))))
        exact PD.sub ((23, dB (decide (((w2.toNat : Nat) : Int) ≠ (34 : Int)) || decide (((w3.toNat : Nat) : Int) ≠ (34 : Int)))) :: [(0, .s s), (2, .v (.string ByteArray.empty)), (3, dB false)]) ⟨sc rfl (Cv.eq (congrArg (fun b => D.v (.bool b)) (by first | (simp [hc1, hg5]; done) | (simp_all; done)))), sk rfl, sk rfl, sk rfl, trivial⟩ hQ4
      · skip
        refine zb rfl (za rfl rfl (zc rfl) (za rfl rfl (zP rfl Tryz.runUnderlying9) (za rfl rfl (z1 rfl rfl (decide_eq_false hc1)) (za rfl rfl (zc rfl) (zh rfl rfl rfl rfl rfl (zc rfl) (zh rfl rfl rfl rfl rfl (zM (k := 0) rfl rfl Tryz.runUnderlying9 (by first | rfl | omega) hw2) (zh rfl rfl rfl rfl rfl (zcd rfl rfl (decide_eq_false hg5)) (za rfl rfl (zt rfl rfl) (za rfl rfl (zc rfl) (zh rfl rfl rfl rfl rfl (zc rfl) (zh rfl rfl rfl rfl rfl (zc rfl) (zh rfl rfl rfl rfl rfl (zP rfl Tryz.runUnderlying9) (zh rfl rfl rfl rfl rfl (zcG (c := ((s.size - 1 : Nat) : Int)) rfl rfl (zX (by omega) (by omega))) (zh rfl rfl rfl rfl rfl (zM (k := s.size - 1) rfl rfl Tryz.runUnderlying9 (by first | rfl | omega) hw3) (zh rfl rfl rfl rfl rfl (zcd rfl rfl rfl) (za rfl rfl (zt rfl rfl) (zg rfl ?_)))))))))))))))))
        exact PD.sub ((23, dB (decide (((w2.toNat : Nat) : Int) ≠ (34 : Int)) || decide (((w3.toNat : Nat) : Int) ≠ (34 : Int)))) :: [(0, .s s), (2, .v (.string ByteArray.empty)), (3, dB false)]) ⟨sc rfl (Cv.eq (congrArg (fun b => D.v (.bool b)) (by first | (simp [hc1, hg5]; done) | (simp_all; done)))), sk rfl, sk rfl, sk rfl, trivial⟩ hQ4
    · skip
      refine ze ?_
      refine zl _ _ rfl rfl rfl rfl (fun hc6 => ?_) (fun hc6 => ?_)
      · simp only [Bool.and_eq_true, Bool.or_eq_true, Bool.not_eq_true', Bool.not_eq_false', Bool.and_eq_false_iff, Bool.or_eq_false_iff, decide_eq_true_eq, decide_eq_false_iff_not, Decidable.not_not, ne_eq] at hc6
        refine zf _ _ rfl rfl rfl (zb rfl (za rfl rfl (zd rfl) (za rfl rfl (zd rfl) (zg rfl (ze (zu rfl (zq ?_)))))))
        exact zk Tryz.results69 (.cons (zC (zo rfl) (((Cv.str (by first | decide | (unfold maxLen; omega)))).trans (Cv.eq (congrArg D.s (by first | (have T := unq_short (s := s) (by omega); first | exact T.1 | exact T.2) | (have T := unq_head (s := s) hw2 (by omega); first | exact T.1 | exact T.2) | (have T := unq_last (s := s) hw3 (by omega); first | exact T.1 | exact T.2) | (have T := (show ByteArray.empty = unqT s ∧ false = zbh s from (by by_cases e1 : w2.toNat = 34; exact unq_last (s := s) hw3 (by omega); exact unq_head (s := s) hw2 e1)); first | exact T.1 | exact T.2)))))) (.cons (zC (zo rfl) (Cv.eq (congrArg (fun b => D.v (.bool b)) (by first | (have T := unq_short (s := s) (by omega); first | exact T.1 | exact T.2) | (have T := unq_head (s := s) hw2 (by omega); first | exact T.1 | exact T.2) | (have T := unq_last (s := s) hw3 (by omega); first | exact T.1 | exact T.2) | (have T := (show ByteArray.empty = unqT s ∧ false = zbh s from (by by_cases e1 : w2.toNat = 34; exact unq_last (s := s) hw3 (by omega); exact unq_head (s := s) hw2 e1)); first | exact T.1 | exact T.2))))) .nil)) rfl HSub.none ⟨rfl, rfl⟩
      · simp only [Bool.and_eq_true, Bool.or_eq_true, Bool.not_eq_true', Bool.not_eq_false', Bool.and_eq_false_iff, Bool.or_eq_false_iff, decide_eq_true_eq, decide_eq_false_iff_not, Decidable.not_not, ne_eq] at hc6
        refine zy rfl (ze (zf _ _ rfl rfl rfl (zb rfl (za rfl rfl (zc rfl) (za rfl rfl (zc rfl) (za rfl rfl (zP rfl Tryz.runUnderlying9) (za rfl rfl (zcG (c := ((s.size - 1 : Nat) : Int)) rfl rfl (zX (by omega) (by omega))) (za rfl rfl (zV (a := 1) (c := s.size - 1) rfl rfl rfl (by first | rfl | (show _ = _; omega)) (by first | rfl | (show _ = _; omega)) Tryz.runUnderlying9 (by omega) (by omega)) (za rfl rfl (zd rfl) (zg rfl (ze (zf _ _ rfl rfl rfl ?_))))))))))))
        obtain ⟨b, hb⟩ : ∃ b, s.extract 1 (s.size - 1) = b := ⟨_, rfl⟩
        have hbz : b.size = s.size - 2 := by rw [← hb, ByteArray.size_extract]; omega
        refine JD.sub [(0, .s s), (2, .v (.string ByteArray.empty)), (3, dB false), (4, .s b)] ⟨sk rfl, sk rfl, sk rfl, sc rfl (Cv.eq (congrArg D.s hb)), trivial⟩ (zb rfl (za rfl rfl (zd rfl) (zg rfl (ze (zf _ _ rfl rfl rfl (zf _ _ rfl rfl rfl (zb rfl (za rfl rfl (zd rfl) (zg rfl (ze (zB _ rfl rfl (zS (fun (g : Nat × Value × List UInt8) => [(0, .s s), (4, .s b), (6, dN g.1), (5, .ov g.2.1)]) (fun (g : Nat × Value × List UInt8) => [.sl g.2.1 1 5 (g.2.2.map dU8)]) (fun (g : Nat × Value × List UInt8) => (EInv b g.1 g.2.2) ∧ (g.1 ≤ b.size) ∧ (g.2.2.length ≤ g.1)) (fun (g : Nat × Value × List UInt8) => b.size - g.1) _ (0, .slice none 0 0, []) rfl rfl ⟨sk rfl, sk rfl, sk rfl, sc rfl (Cv.ov rfl), trivial⟩ (HSub.nil 1 5) ⟨EInv.zero, Nat.zero_le _, Nat.le_refl _⟩ ?_))))))))))))
        rintro ⟨i, ov, out⟩ ⟨hE, hi, ho⟩
        replace hE : EInv b i out := hE
        replace hi : i ≤ b.size := hi
        replace ho : out.length ≤ i := ho
        refine JD.keep [0, 4, 6, 5] [(0, .s s), (4, .s b), (6, dN i), (5, .ov ov)] rfl (JD.norm [.sl ov 1 5 (out.map dU8)] rfl (zf _ _ rfl rfl rfl (zf _ _ rfl rfl rfl (zb rfl (za rfl rfl (zc rfl) (za rfl rfl (zc rfl) (za rfl rfl (zP rfl Tryz.runUnderlying9) (za rfl rfl (z1 rfl rfl rfl) (zg rfl (ze ?_))))))))))
        refine zl _ _ rfl rfl rfl rfl (fun hc7 => ?_) (fun hc7 => ?_)
        · replace hc7 := of_decide_eq_true hc7
          refine zy rfl (ze (zf _ _ rfl rfl rfl (zB _ rfl rfl (zB _ rfl rfl (zf _ _ rfl rfl rfl (zb rfl (za rfl rfl (zc rfl) (za rfl rfl (zc rfl) ?_))))))))
          obtain ⟨u3, hu3⟩ := zaI b i (by omega)
          have hlu3 := u3.toNat_lt
          refine za rfl rfl (zM (k := i) rfl rfl Tryz.runUnderlying9 (by first | rfl | omega) hu3) (za rfl rfl (zcd rfl rfl rfl) (za rfl rfl (zd rfl) (zg rfl (ze ?_))))
          refine zl _ _ rfl rfl rfl rfl (fun hc8 => ?_) (fun hc8 => ?_)
          · replace hc8 := of_decide_eq_true hc8
            refine zb rfl (za rfl rfl (zc rfl) (za rfl rfl (zc rfl) (za rfl rfl (zc rfl) (za rfl rfl (zM (k := i) rfl rfl Tryz.runUnderlying9 (by first | rfl | omega) hu3) (zj rfl rfl (zac [.tmp 43] rfl rfl (.cons (CellD.v rfl) .nil) rfl Tryz.runUnderlying128 Tryz.sizeOf5 Tryz.zeroValue5 rfl rfl rfl rfl) ?_)))))
            rintro _ _ ⟨g9, rfl, rfl⟩
            refine zj rfl rfl (zaj (f := dU8) (l := out) (l' := [u3]) (i := 1) rfl rfl rfl (SrcD.own (j := 0) rfl rfl) zaL zbq rfl rfl (by unfold maxLen; (try simp only [la, lc, ln, lm, lt', ld, ls, lr]); omega) (by (try simp only [la, lc, ln, lm, lt', ld, ls, lr]); omega)) ?_
            rintro _ _ ⟨v10, rfl, rfl⟩
            refine OpsD.norm [.sl (vS g9 1 1) 1 5 ([.v (.int .u8 ((u3.toNat : Nat) : Int))]), .sl v10 1 5 ((out ++ [u3]).map dU8)] rfl (za rfl rfl (zd rfl) (zg rfl (zG (zG (ze (zb rfl (za rfl rfl (zc rfl) (za rfl rfl (z7 (c := ((i + 1 : Nat) : Int)) rfl rfl (zX (by omega) (by omega))) (za rfl rfl (zd rfl) (zg rfl (PD.subH (HSub.perm (zm (i := 1) rfl)) (PD.norm [.sl v10 1 5 ((out ++ [u3]).map dU8), .sl (vS g9 1 1) 1 5 ([.v (.int .u8 ((u3.toNat : Nat) : Int))])] rfl (PD.subH (HSub.fst 1 rfl) (PD.norm [.sl v10 1 5 ((out ++ [u3]).map dU8)] rfl ?_))))))))))))))
            exact zZ (i + 1, v10, (out ++ [u3])) ⟨sk rfl, sk rfl, sk rfl, sk rfl, trivial⟩ HSub.rfl' ⟨hE.raw hu3 (by omega), by omega, by (try simp only [la, List.length_singleton]); omega⟩ (by omega)
          · replace hc8 := of_decide_eq_false hc8
            refine zf _ _ rfl rfl rfl ?_
            by_cases hc11 : ((i + 1 : Nat) : Int) < ((b.size : Nat) : Int)
            · skip
              obtain ⟨w12, hw12⟩ := zaI b (i + 1) (by omega)
              have hlw12 := w12.toNat_lt
              refine JD.keep [0, 4, 5, 6, 29, 30, 31, 32, 35, 36, 37, 38, 39] [(0, .s s), (4, .s b), (5, .ov ov), (6, dN i), (29, dN i), (30, .s b), (31, dN b.size), (32, dB (decide (((i : Nat) : Int) < ((b.size : Nat) : Int)))), (35, dB (decide (((u3.toNat : Nat) : Int) ≠ (92 : Int)))), (36, .s b), (37, dN i), (38, .v (.int .u8 ((u3.toNat : Nat) : Int))), (39, dB (decide (((u3.toNat : Nat) : Int) ≠ (92 : Int))))] rfl ?_
              refine zak 46 ((decide (((w12.toNat : Nat) : Int) = (34 : Int)) || decide (((w12.toNat : Nat) : Int) = (92 : Int)))) [.sl ov 1 5 (out.map dU8)] (fun _ hQ13 => ?_) ?_
              · skip
                by_cases hg14 : ((w12.toNat : Nat) : Int) = (34 : Int)
                · skip
                  refine zb rfl (za rfl rfl (zc rfl) (za rfl rfl (z7 (c := ((i + 1 : Nat) : Int)) rfl rfl (zX (by omega) (by omega))) (za rfl rfl (zc rfl) (za rfl rfl (zP rfl Tryz.runUnderlying9) (za rfl rfl (z1 rfl rfl (decide_eq_true hc11)) (za rfl rfl (zc rfl) (zh rfl rfl rfl rfl rfl (zc rfl) (zh rfl rfl rfl rfl rfl (zc rfl) (zh rfl rfl rfl rfl rfl (z7 (c := ((i + 1 : Nat) : Int)) rfl rfl (zX (by omega) (by omega))) (zh rfl rfl rfl rfl rfl (zM (k := i + 1) rfl rfl Tryz.runUnderlying9 (by first | rfl | omega) hw12) (zh rfl rfl rfl rfl rfl (zU rfl rfl (decide_eq_true hg14)) (zh rfl rfl rfl rfl rfl (zc rfl) (zi rfl rfl rfl rfl rfl (by decide) (zi rfl rfl rfl rfl rfl (by decide) (zi rfl rfl rfl rfl rfl (by decide) (zi rfl rfl rfl rfl rfl (by decide) (zi rfl rfl rfl rfl rfl (by decide) (zh rfl rfl rfl rfl rfl (zr rfl rfl) (za rfl rfl (zr rfl rfl) (za rfl rfl (zd rfl) (zg rfl ?_)))))))))))))))))))))
                  exact PD.sub ((46, dB (decide (((w12.toNat : Nat) : Int) = (34 : Int)) || decide (((w12.toNat : Nat) : Int) = (92 : Int)))) :: [(0, .s s), (4, .s b), (5, .ov ov), (6, dN i), (29, dN i), (30, .s b), (31, dN b.size), (32, dB (decide (((i : Nat) : Int) < ((b.size : Nat) : Int)))), (35, dB (decide (((u3.toNat : Nat) : Int) ≠ (92 : Int)))), (36, .s b), (37, dN i), (38, .v (.int .u8 ((u3.toNat : Nat) : Int))), (39, dB (decide (((u3.toNat : Nat) : Int) ≠ (92 : Int))))]) ⟨sc rfl (Cv.eq (congrArg (fun b => D.v (.bool b)) (by first | (simp [hc11, hc7, hc8, hg14]; done) | (simp_all; done)))), sk rfl, sk rfl, sk rfl, sk rfl, sk rfl, sk rfl, sk rfl, sk rfl, sk rfl, sk rfl, sk rfl, sk rfl, sk rfl, trivial⟩ hQ13
                · skip
                  refine zb rfl (za rfl rfl (zc rfl) (za rfl rfl (z7 (c := ((i + 1 : Nat) : Int)) rfl rfl (zX (by omega) (by omega))) (za rfl rfl (zc rfl) (za rfl rfl (zP rfl Tryz.runUnderlying9) (za rfl rfl (z1 rfl rfl (decide_eq_true hc11)) (za rfl rfl (zc rfl) (zh rfl rfl rfl rfl rfl (zc rfl) (zh rfl rfl rfl rfl rfl (zc rfl) (zh rfl rfl rfl rfl rfl (z7 (c := ((i + 1 : Nat) : Int)) rfl rfl (zX (by omega) (by omega))) (zh rfl rfl rfl rfl rfl (zM (k := i + 1) rfl rfl Tryz.runUnderlying9 (by first | rfl | omega) hw12) (zh rfl rfl rfl rfl rfl (zU rfl rfl (decide_eq_false hg14)) (zh rfl rfl rfl rfl rfl (zc rfl) (zh rfl rfl rfl rfl rfl (zc rfl) (zh rfl rfl rfl rfl rfl (zc rfl) (zh rfl rfl rfl rfl rfl (z7 (c := ((i + 1 : Nat) : Int)) rfl rfl (zX (by omega) (by omega))) (zh rfl rfl rfl rfl rfl (zM (k := i + 1) rfl rfl Tryz.runUnderlying9 (by first | rfl | omega) hw12) (zh rfl rfl rfl rfl rfl (zU rfl rfl rfl) (zh rfl rfl rfl rfl rfl (zt rfl rfl) (za rfl rfl (zr rfl rfl) (za rfl rfl (zd rfl) (zg rfl ?_)))))))))))))))))))))
                  exact PD.sub ((46, dB (decide (((w12.toNat : Nat) : Int) = (34 : Int)) || decide (((w12.toNat : Nat) : Int) = (92 : Int)))) :: [(0, .s s), (4, .s b), (5, .ov ov), (6, dN i), (29, dN i), (30, .s b), (31, dN b.size), (32, dB (decide (((i : Nat) : Int) < ((b.size : Nat) : Int)))), (35, dB (decide (((u3.toNat : Nat) : Int) ≠ (92 : Int)))), (36, .s b), (37, dN i), (38, .v (.int .u8 ((u3.toNat : Nat) : Int))), (39, dB (decide (((u3.toNat : Nat) : Int) ≠ (92 : Int))))]) ⟨sc rfl (Cv.eq (congrArg (fun b => D.v (.bool b)) (by first | (simp [hc11, hc7, hc8, hg14]; done) | (simp_all; done)))), sk rfl, sk rfl, sk rfl, sk rfl, sk rfl, sk rfl, sk rfl, sk rfl, sk rfl, sk rfl, sk rfl, sk rfl, sk rfl, trivial⟩ hQ13
              · skip
                refine ze ?_
                refine zl _ _ rfl rfl rfl rfl (fun hc15 => ?_) (fun hc15 => ?_)
                · simp only [Bool.and_eq_true, Bool.or_eq_true, Bool.not_eq_true', Bool.not_eq_false', Bool.and_eq_false_iff, Bool.or_eq_false_iff, decide_eq_true_eq, decide_eq_false_iff_not, Decidable.not_not, ne_eq] at hc15
                  refine zf _ _ rfl rfl rfl (zb rfl (za rfl rfl (zc rfl) (za rfl rfl (zc rfl) (za rfl rfl (zc rfl) (za rfl rfl (z7 (c := ((i + 1 : Nat) : Int)) rfl rfl (zX (by omega) (by omega))) (za rfl rfl (zM (k := i + 1) rfl rfl Tryz.runUnderlying9 (by first | rfl | omega) hw12) (zj rfl rfl (zac [.tmp 70] rfl rfl (.cons (CellD.v rfl) .nil) rfl Tryz.runUnderlying128 Tryz.sizeOf5 Tryz.zeroValue5 rfl rfl rfl rfl) ?_)))))))
                  rintro _ _ ⟨g16, rfl, rfl⟩
                  refine zj rfl rfl (zaj (f := dU8) (l := out) (l' := [w12]) (i := 1) rfl rfl rfl (SrcD.own (j := 0) rfl rfl) zaL zbq rfl rfl (by unfold maxLen; (try simp only [la, lc, ln, lm, lt', ld, ls, lr]); omega) (by (try simp only [la, lc, ln, lm, lt', ld, ls, lr]); omega)) ?_
                  rintro _ _ ⟨v17, rfl, rfl⟩
                  refine OpsD.norm [.sl (vS g16 1 1) 1 5 ([.v (.int .u8 ((w12.toNat : Nat) : Int))]), .sl v17 1 5 ((out ++ [w12]).map dU8)] rfl (za rfl rfl (zd rfl) (zg rfl (ze (zb rfl (za rfl rfl (zc rfl) (za rfl rfl (z7 (c := ((i + 1 : Nat) : Int)) rfl rfl (zX (by omega) (by omega))) (za rfl rfl (zd rfl) (zg rfl (zG (zG (ze (zb rfl (za rfl rfl (zc rfl) (za rfl rfl (z7 (c := (((i + 1) + 1 : Nat) : Int)) rfl rfl (zX (by omega) (by omega))) (za rfl rfl (zd rfl) (zg rfl (PD.subH (HSub.perm (zm (i := 1) rfl)) (PD.norm [.sl v17 1 5 ((out ++ [w12]).map dU8), .sl (vS g16 1 1) 1 5 ([.v (.int .u8 ((w12.toNat : Nat) : Int))])] rfl (PD.subH (HSub.fst 1 rfl) (PD.norm [.sl v17 1 5 ((out ++ [w12]).map dU8)] rfl ?_))))))))))))))))))))
                  exact zZ ((i + 1) + 1, v17, (out ++ [w12])) ⟨sk rfl, sk rfl, sk rfl, sk rfl, trivial⟩ HSub.rfl' ⟨hE.e1 hu3 (by omega) hw12 (by omega), by omega, by (try simp only [la, List.length_singleton]); omega⟩ (by omega)
                · simp only [Bool.and_eq_true, Bool.or_eq_true, Bool.not_eq_true', Bool.not_eq_false', Bool.and_eq_false_iff, Bool.or_eq_false_iff, decide_eq_true_eq, decide_eq_false_iff_not, Decidable.not_not, ne_eq] at hc15
                  refine zf _ _ rfl rfl rfl (JD.keep [0, 4, 5, 6, 29, 30, 31, 32, 35, 36, 37, 38, 39, 46] [(0, .s s), (4, .s b), (5, .ov ov), (6, dN i), (29, dN i), (30, .s b), (31, dN b.size), (32, dB (decide (((i : Nat) : Int) < ((b.size : Nat) : Int)))), (35, dB (decide (((u3.toNat : Nat) : Int) ≠ (92 : Int)))), (36, .s b), (37, dN i), (38, .v (.int .u8 ((u3.toNat : Nat) : Int))), (39, dB (decide (((u3.toNat : Nat) : Int) ≠ (92 : Int)))), (46, dB (decide (((w12.toNat : Nat) : Int) = (34 : Int)) || decide (((w12.toNat : Nat) : Int) = (92 : Int))))] rfl ?_)
                  refine zak 75 (decide (((w12.toNat : Nat) : Int) = (110 : Int))) [.sl ov 1 5 (out.map dU8)] (fun _ hQ18 => ?_) ?_
                  · skip
                    refine zb rfl (za rfl rfl (zc rfl) (za rfl rfl (z7 (c := ((i + 1 : Nat) : Int)) rfl rfl (zX (by omega) (by omega))) (za rfl rfl (zc rfl) (za rfl rfl (zP rfl Tryz.runUnderlying9) (za rfl rfl (z1 rfl rfl (decide_eq_true hc11)) (za rfl rfl (zc rfl) (zh rfl rfl rfl rfl rfl (zc rfl) (zh rfl rfl rfl rfl rfl (zc rfl) (zh rfl rfl rfl rfl rfl (z7 (c := ((i + 1 : Nat) : Int)) rfl rfl (zX (by omega) (by omega))) (zh rfl rfl rfl rfl rfl (zM (k := i + 1) rfl rfl Tryz.runUnderlying9 (by first | rfl | omega) hw12) (zh rfl rfl rfl rfl rfl (zU rfl rfl rfl) (za rfl rfl (zr rfl rfl) (za rfl rfl (zd rfl) (zg rfl ?_))))))))))))))
                    exact PD.sub ((75, dB (decide (((w12.toNat : Nat) : Int) = (110 : Int)))) :: [(0, .s s), (4, .s b), (5, .ov ov), (6, dN i), (29, dN i), (30, .s b), (31, dN b.size), (32, dB (decide (((i : Nat) : Int) < ((b.size : Nat) : Int)))), (35, dB (decide (((u3.toNat : Nat) : Int) ≠ (92 : Int)))), (36, .s b), (37, dN i), (38, .v (.int .u8 ((u3.toNat : Nat) : Int))), (39, dB (decide (((u3.toNat : Nat) : Int) ≠ (92 : Int)))), (46, dB (decide (((w12.toNat : Nat) : Int) = (34 : Int)) || decide (((w12.toNat : Nat) : Int) = (92 : Int))))]) ⟨sc rfl (Cv.eq (congrArg (fun b => D.v (.bool b)) (by first | (simp [hc11, hc7, hc8]; done) | (simp_all; done)))), sk rfl, sk rfl, sk rfl, sk rfl, sk rfl, sk rfl, sk rfl, sk rfl, sk rfl, sk rfl, sk rfl, sk rfl, sk rfl, sk rfl, trivial⟩ hQ18
                  · skip
                    refine ze ?_
                    refine zl _ _ rfl rfl rfl rfl (fun hc19 => ?_) (fun hc19 => ?_)
                    · replace hc19 := of_decide_eq_true hc19
                      refine zf _ _ rfl rfl rfl (zb rfl (za rfl rfl (zc rfl) (zj rfl rfl (zac [.const (.int .u8 10)] rfl rfl (.cons (CellD.v rfl) .nil) rfl Tryz.runUnderlying128 Tryz.sizeOf5 Tryz.zeroValue5 rfl rfl rfl rfl) ?_)))
                      rintro _ _ ⟨g20, rfl, rfl⟩
                      refine zj rfl rfl (zaj (f := dU8) (l := out) (l' := [(10 : UInt8)]) (i := 1) rfl rfl rfl (SrcD.own (j := 0) rfl rfl) zaL zbq rfl rfl (by unfold maxLen; (try simp only [la, lc, ln, lm, lt', ld, ls, lr]); omega) (by (try simp only [la, lc, ln, lm, lt', ld, ls, lr]); omega)) ?_
                      rintro _ _ ⟨v21, rfl, rfl⟩
                      refine OpsD.norm [.sl (vS g20 1 1) 1 5 ([.v (.int .u8 10)]), .sl v21 1 5 ((out ++ [(10 : UInt8)]).map dU8)] rfl (za rfl rfl (zd rfl) (zg rfl (ze (zb rfl (za rfl rfl (zc rfl) (za rfl rfl (z7 (c := ((i + 1 : Nat) : Int)) rfl rfl (zX (by omega) (by omega))) (za rfl rfl (zd rfl) (zg rfl (zG (zG (ze (zb rfl (za rfl rfl (zc rfl) (za rfl rfl (z7 (c := (((i + 1) + 1 : Nat) : Int)) rfl rfl (zX (by omega) (by omega))) (za rfl rfl (zd rfl) (zg rfl (PD.subH (HSub.perm (zm (i := 1) rfl)) (PD.norm [.sl v21 1 5 ((out ++ [(10 : UInt8)]).map dU8), .sl (vS g20 1 1) 1 5 ([.v (.int .u8 10)])] rfl (PD.subH (HSub.fst 1 rfl) (PD.norm [.sl v21 1 5 ((out ++ [(10 : UInt8)]).map dU8)] rfl ?_))))))))))))))))))))
                      exact zZ ((i + 1) + 1, v21, (out ++ [(10 : UInt8)])) ⟨sk rfl, sk rfl, sk rfl, sk rfl, trivial⟩ HSub.rfl' ⟨hE.e2 hu3 (by omega) hw12 (by omega) (by omega), by omega, by (try simp only [la, List.length_singleton]); omega⟩ (by omega)
                    · replace hc19 := of_decide_eq_false hc19
                      refine zf _ _ rfl rfl rfl ?_
                      by_cases hc22 : ((i + 3 : Nat) : Int) < ((b.size : Nat) : Int)
                      · skip
                        obtain ⟨w23, hw23⟩ := zaI b (i + 2) (by omega)
                        have hlw23 := w23.toNat_lt
                        obtain ⟨w24, hw24⟩ := zaI b (i + 3) (by omega)
                        have hlw24 := w24.toNat_lt
                        refine JD.keep [0, 4, 5, 6, 29, 30, 31, 32, 35, 36, 37, 38, 39, 46, 75] [(0, .s s), (4, .s b), (5, .ov ov), (6, dN i), (29, dN i), (30, .s b), (31, dN b.size), (32, dB (decide (((i : Nat) : Int) < ((b.size : Nat) : Int)))), (35, dB (decide (((u3.toNat : Nat) : Int) ≠ (92 : Int)))), (36, .s b), (37, dN i), (38, .v (.int .u8 ((u3.toNat : Nat) : Int))), (39, dB (decide (((u3.toNat : Nat) : Int) ≠ (92 : Int)))), (46, dB (decide (((w12.toNat : Nat) : Int) = (34 : Int)) || decide (((w12.toNat : Nat) : Int) = (92 : Int)))), (75, dB (decide (((w12.toNat : Nat) : Int) = (110 : Int))))] rfl ?_
                        refine zak 93 (((decide (((w12.toNat : Nat) : Int) = (120 : Int)) && decide ((0 : Int) ≤ hexI w23.toNat)) && decide ((0 : Int) ≤ hexI w24.toNat))) [.sl ov 1 5 (out.map dU8)] (fun _ hQ25 => ?_) ?_
                        · skip
                          by_cases hg26 : ((w12.toNat : Nat) : Int) = (120 : Int)
                          · skip
                            by_cases hg27 : (0 : Int) ≤ hexI w23.toNat
                            · skip
                              refine zb rfl (za rfl rfl (zc rfl) (za rfl rfl (z7 (c := ((i + 3 : Nat) : Int)) rfl rfl (zX (by omega) (by omega))) (za rfl rfl (zc rfl) (za rfl rfl (zP rfl Tryz.runUnderlying9) (za rfl rfl (z1 rfl rfl (decide_eq_true hc22)) (za rfl rfl (zc rfl) (zh rfl rfl rfl rfl rfl (zc rfl) (zh rfl rfl rfl rfl rfl (zc rfl) (zh rfl rfl rfl rfl rfl (z7 (c := ((i + 1 : Nat) : Int)) rfl rfl (zX (by omega) (by omega))) (zh rfl rfl rfl rfl rfl (zM (k := i + 1) rfl rfl Tryz.runUnderlying9 (by first | rfl | omega) hw12) (zh rfl rfl rfl rfl rfl (zU rfl rfl (decide_eq_true hg26)) (za rfl rfl (zr rfl rfl) (za rfl rfl (zc rfl) (zh rfl rfl rfl rfl rfl (zc rfl) (zh rfl rfl rfl rfl rfl (zc rfl) (zh rfl rfl rfl rfl rfl (z7 (c := ((i + 2 : Nat) : Int)) rfl rfl (zX (by omega) (by omega))) (zh rfl rfl rfl rfl rfl (zM (k := i + 2) rfl rfl Tryz.runUnderlying9 (by first | rfl | omega) hw23) (zat rfl rfl rfl rfl rfl (zx [] _ [] rfl rfl (.cons ArgC.id .nil) zp Tryz.call99 (zdr w23) (.inl rfl)) ?_))))))))))))))))))
                              rintro _ _ ⟨_, ⟨rfl, rfl⟩, rfl⟩
                              refine OpsD.norm [.sl ov 1 5 (out.map dU8)] rfl (zh rfl rfl rfl rfl rfl (z8 rfl rfl (decide_eq_true hg27)) (za rfl rfl (zr rfl rfl) (za rfl rfl (zc rfl) (zh rfl rfl rfl rfl rfl (zc rfl) (zh rfl rfl rfl rfl rfl (zc rfl) (zh rfl rfl rfl rfl rfl (z7 (c := ((i + 3 : Nat) : Int)) rfl rfl (zX (by omega) (by omega))) (zh rfl rfl rfl rfl rfl (zM (k := i + 3) rfl rfl Tryz.runUnderlying9 (by first | rfl | omega) hw24) (zat rfl rfl rfl rfl rfl (zx [] _ [] rfl rfl (.cons ArgC.id .nil) zp Tryz.call99 (zdr w24) (.inl rfl)) ?_))))))))
                              rintro _ _ ⟨_, ⟨rfl, rfl⟩, rfl⟩
                              refine OpsD.norm [.sl ov 1 5 (out.map dU8)] rfl (zh rfl rfl rfl rfl rfl (z8 rfl rfl rfl) (za rfl rfl (zr rfl rfl) (za rfl rfl (zd rfl) (zg rfl ?_))))
                              exact PD.sub ((93, dB ((decide (((w12.toNat : Nat) : Int) = (120 : Int)) && decide ((0 : Int) ≤ hexI w23.toNat)) && decide ((0 : Int) ≤ hexI w24.toNat))) :: [(0, .s s), (4, .s b), (5, .ov ov), (6, dN i), (29, dN i), (30, .s b), (31, dN b.size), (32, dB (decide (((i : Nat) : Int) < ((b.size : Nat) : Int)))), (35, dB (decide (((u3.toNat : Nat) : Int) ≠ (92 : Int)))), (36, .s b), (37, dN i), (38, .v (.int .u8 ((u3.toNat : Nat) : Int))), (39, dB (decide (((u3.toNat : Nat) : Int) ≠ (92 : Int)))), (46, dB (decide (((w12.toNat : Nat) : Int) = (34 : Int)) || decide (((w12.toNat : Nat) : Int) = (92 : Int)))), (75, dB (decide (((w12.toNat : Nat) : Int) = (110 : Int))))]) ⟨sc rfl (Cv.eq (congrArg (fun b => D.v (.bool b)) (by first | (simp [hc11, hc19, hc22, hc7, hc8, hg26, hg27]; done) | (simp_all; done)))), sk rfl, sk rfl, sk rfl, sk rfl, sk rfl, sk rfl, sk rfl, sk rfl, sk rfl, sk rfl, sk rfl, sk rfl, sk rfl, sk rfl, sk rfl, trivial⟩ hQ25
                            · skip
                              refine zb rfl (za rfl rfl (zc rfl) (za rfl rfl (z7 (c := ((i + 3 : Nat) : Int)) rfl rfl (zX (by omega) (by omega))) (za rfl rfl (zc rfl) (za rfl rfl (zP rfl Tryz.runUnderlying9) (za rfl rfl (z1 rfl rfl (decide_eq_true hc22)) (za rfl rfl (zc rfl) (zh rfl rfl rfl rfl rfl (zc rfl) (zh rfl rfl rfl rfl rfl (zc rfl) (zh rfl rfl rfl rfl rfl (z7 (c := ((i + 1 : Nat) : Int)) rfl rfl (zX (by omega) (by omega))) (zh rfl rfl rfl rfl rfl (zM (k := i + 1) rfl rfl Tryz.runUnderlying9 (by first | rfl | omega) hw12) (zh rfl rfl rfl rfl rfl (zU rfl rfl (decide_eq_true hg26)) (za rfl rfl (zr rfl rfl) (za rfl rfl (zc rfl) (zh rfl rfl rfl rfl rfl (zc rfl) (zh rfl rfl rfl rfl rfl (zc rfl) (zh rfl rfl rfl rfl rfl (z7 (c := ((i + 2 : Nat) : Int)) rfl rfl (zX (by omega) (by omega))) (zh rfl rfl rfl rfl rfl (zM (k := i + 2) rfl rfl Tryz.runUnderlying9 (by first | rfl | omega) hw23) (zat rfl rfl rfl rfl rfl (zx [] _ [] rfl rfl (.cons ArgC.id .nil) zp Tryz.call99 (zdr w23) (.inl rfl)) ?_))))))))))))))))))
                              rintro _ _ ⟨_, ⟨rfl, rfl⟩, rfl⟩
                              refine OpsD.norm [.sl ov 1 5 (out.map dU8)] rfl (zh rfl rfl rfl rfl rfl (z8 rfl rfl (decide_eq_false hg27)) (za rfl rfl (zr rfl rfl) (za rfl rfl (zc rfl) (zi rfl rfl rfl rfl rfl (by decide) (zi rfl rfl rfl rfl rfl (by decide) (zi rfl rfl rfl rfl rfl (by decide) (zi rfl rfl rfl rfl rfl (by decide) (zi rfl rfl rfl rfl rfl (by decide) (zi rfl rfl rfl rfl rfl (by decide) (za rfl rfl (zt rfl rfl) (za rfl rfl (zd rfl) (zg rfl ?_))))))))))))
                              exact PD.sub ((93, dB ((decide (((w12.toNat : Nat) : Int) = (120 : Int)) && decide ((0 : Int) ≤ hexI w23.toNat)) && decide ((0 : Int) ≤ hexI w24.toNat))) :: [(0, .s s), (4, .s b), (5, .ov ov), (6, dN i), (29, dN i), (30, .s b), (31, dN b.size), (32, dB (decide (((i : Nat) : Int) < ((b.size : Nat) : Int)))), (35, dB (decide (((u3.toNat : Nat) : Int) ≠ (92 : Int)))), (36, .s b), (37, dN i), (38, .v (.int .u8 ((u3.toNat : Nat) : Int))), (39, dB (decide (((u3.toNat : Nat) : Int) ≠ (92 : Int)))), (46, dB (decide (((w12.toNat : Nat) : Int) = (34 : Int)) || decide (((w12.toNat : Nat) : Int) = (92 : Int)))), (75, dB (decide (((w12.toNat : Nat) : Int) = (110 : Int))))]) ⟨sc rfl (Cv.eq (congrArg (fun b => D.v (.bool b)) (by first | (simp [hc11, hc19, hc22, hc7, hc8, hg26, hg27]; done) | (simp_all; done)))), sk rfl, sk rfl, sk rfl, sk rfl, sk rfl, sk rfl, sk rfl, sk rfl, sk rfl, sk rfl, sk rfl, sk rfl, sk rfl, sk rfl, sk rfl, trivial⟩ hQ25
                          · skip
                            refine zb rfl (za rfl rfl (zc rfl) (za rfl rfl (z7 (c := ((i + 3 : Nat) : Int)) rfl rfl (zX (by omega) (by omega))) (za rfl rfl (zc rfl) (za rfl rfl (zP rfl Tryz.runUnderlying9) (za rfl rfl (z1 rfl rfl (decide_eq_true hc22)) (za rfl rfl (zc rfl) (zh rfl rfl rfl rfl rfl (zc rfl) (zh rfl rfl rfl rfl rfl (zc rfl) (zh rfl rfl rfl rfl rfl (z7 (c := ((i + 1 : Nat) : Int)) rfl rfl (zX (by omega) (by omega))) (zh rfl rfl rfl rfl rfl (zM (k := i + 1) rfl rfl Tryz.runUnderlying9 (by first | rfl | omega) hw12) (zh rfl rfl rfl rfl rfl (zU rfl rfl (decide_eq_false hg26)) (za rfl rfl (zr rfl rfl) (za rfl rfl (zc rfl) (zi rfl rfl rfl rfl rfl (by decide) (zi rfl rfl rfl rfl rfl (by decide) (zi rfl rfl rfl rfl rfl (by decide) (zi rfl rfl rfl rfl rfl (by decide) (zi rfl rfl rfl rfl rfl (by decide) (zi rfl rfl rfl rfl rfl (by decide) (za rfl rfl (zt rfl rfl) (za rfl rfl (zc rfl) (zi rfl rfl rfl rfl rfl (by decide) (zi rfl rfl rfl rfl rfl (by decide) (zi rfl rfl rfl rfl rfl (by decide) (zi rfl rfl rfl rfl rfl (by decide) (zi rfl rfl rfl rfl rfl (by decide) (zi rfl rfl rfl rfl rfl (by decide) (za rfl rfl (zt rfl rfl) (za rfl rfl (zd rfl) (zg rfl ?_))))))))))))))))))))))))))))))
                            exact PD.sub ((93, dB ((decide (((w12.toNat : Nat) : Int) = (120 : Int)) && decide ((0 : Int) ≤ hexI w23.toNat)) && decide ((0 : Int) ≤ hexI w24.toNat))) :: [(0, .s s), (4, .s b), (5, .ov ov), (6, dN i), (29, dN i), (30, .s b), (31, dN b.size), (32, dB (decide (((i : Nat) : Int) < ((b.size : Nat) : Int)))), (35, dB (decide (((u3.toNat : Nat) : Int) ≠ (92 : Int)))), (36, .s b), (37, dN i), (38, .v (.int .u8 ((u3.toNat : Nat) : Int))), (39, dB (decide (((u3.toNat : Nat) : Int) ≠ (92 : Int)))), (46, dB (decide (((w12.toNat : Nat) : Int) = (34 : Int)) || decide (((w12.toNat : Nat) : Int) = (92 : Int)))), (75, dB (decide (((w12.toNat : Nat) : Int) = (110 : Int))))]) ⟨sc rfl (Cv.eq (congrArg (fun b => D.v (.bool b)) (by first | (simp [hc11, hc19, hc22, hc7, hc8, hg26]; done) | (simp_all; done)))), sk rfl, sk rfl, sk rfl, sk rfl, sk rfl, sk rfl, sk rfl, sk rfl, sk rfl, sk rfl, sk rfl, sk rfl, sk rfl, sk rfl, sk rfl, trivial⟩ hQ25
                        · skip
                          refine ze ?_
                          refine zl _ _ rfl rfl rfl rfl (fun hc28 => ?_) (fun hc28 => ?_)
                          · simp only [Bool.and_eq_true, Bool.or_eq_true, Bool.not_eq_true', Bool.not_eq_false', Bool.and_eq_false_iff, Bool.or_eq_false_iff, decide_eq_true_eq, decide_eq_false_iff_not, Decidable.not_not, ne_eq] at hc28
                            have hbp := hexI_bd w23.toNat (by omega)
                            obtain ⟨p, hp⟩ : ∃ n : Nat, hexI w23.toNat = (n : Int) := ⟨(hexI w23.toNat).toNat, by omega⟩
                            have hbq := hexI_bd w24.toNat (by omega)
                            obtain ⟨q, hq⟩ : ∃ n : Nat, hexI w24.toNat = (n : Int) := ⟨(hexI w24.toNat).toNat, by omega⟩
                            refine zf _ _ rfl rfl rfl (JD.keep [0, 4, 5, 6, 29, 30, 31, 32, 35, 36, 37, 38, 39, 46, 75, 93] [(0, .s s), (4, .s b), (5, .ov ov), (6, dN i), (29, dN i), (30, .s b), (31, dN b.size), (32, dB (decide (((i : Nat) : Int) < ((b.size : Nat) : Int)))), (35, dB (decide (((u3.toNat : Nat) : Int) ≠ (92 : Int)))), (36, .s b), (37, dN i), (38, .v (.int .u8 ((u3.toNat : Nat) : Int))), (39, dB (decide (((u3.toNat : Nat) : Int) ≠ (92 : Int)))), (46, dB (decide (((w12.toNat : Nat) : Int) = (34 : Int)) || decide (((w12.toNat : Nat) : Int) = (92 : Int)))), (75, dB (decide (((w12.toNat : Nat) : Int) = (110 : Int)))), (93, dB ((decide (((w12.toNat : Nat) : Int) = (120 : Int)) && decide ((0 : Int) ≤ hexI w23.toNat)) && decide ((0 : Int) ≤ hexI w24.toNat)))] rfl (JD.norm [.sl ov 1 5 (out.map dU8)] rfl ?_))
                            refine zbN 15 [(122, .ov ov, none), (123, .s b, none), (124, dN i, none), (125, dN (i + 2), none), (126, .v (.int .u8 ((w23.toNat : Nat) : Int)), none), (127, dI (hexI w23.toNat), none), (128, dN (16 * p), none), (129, .s b, none), (130, dN i, none), (131, dN (i + 3), none), (132, .v (.int .u8 ((w24.toNat : Nat) : Int)), none), (133, dI (hexI w24.toNat), none), (134, dN (16 * p + q), none), (135, .v (.int .u8 ((16 * p + q : Nat) : Int)), none), (136, .sh 1 ([(UInt8.ofNat (16 * p + q))].map dU8), none)] [.sl ov 1 5 (out.map dU8)] (Hn := [.sl ov 1 5 (out.map dU8)]) mixed rfl rfl rfl rfl HSub.rfl' rfl ⟨sa_p rfl rfl rfl (zc rfl), sa_p rfl rfl rfl (zc rfl), sa_p rfl rfl rfl (zc rfl), sa_p rfl rfl rfl (z7 (c := ((i + 2 : Nat) : Int)) rfl rfl (zX (by omega) (by omega))), sa_p rfl rfl rfl (zM (k := i + 2) rfl rfl Tryz.runUnderlying9 (by first | rfl | omega) hw23), sa_q rfl rfl rfl (zda rfl (.cons Cv.rfl' .nil) Tryz.call99 (zdr w23) isR_share), sa_p rfl rfl rfl (zc5 (c := ((16 * p : Nat) : Int)) rfl rfl (zX (by rw [hp]; omega) (by omega))), sa_p rfl rfl rfl (zc rfl), sa_p rfl rfl rfl (zc rfl), sa_p rfl rfl rfl (z7 (c := ((i + 3 : Nat) : Int)) rfl rfl (zX (by omega) (by omega))), sa_p rfl rfl rfl (zM (k := i + 3) rfl rfl Tryz.runUnderlying9 (by first | rfl | omega) hw24), sa_q rfl rfl rfl (zda rfl (.cons Cv.rfl' .nil) Tryz.call99 (zdr w24) isR_share), sa_p rfl rfl rfl (z7 (c := ((16 * p + q : Nat) : Int)) rfl rfl (zX (by rw [hq]; omega) (by omega))), sa_p rfl rfl rfl (zaO rfl (c := ((16 * p + q : Nat) : Int)) (zdw (by omega))), sa_q rfl rfl rfl ((zaz [.tmp 135] rfl rfl (.cons (CellD.v rfl) .nil) rfl Tryz.runUnderlying128 Tryz.sizeOf5 Tryz.zeroValue5 rfl rfl rfl rfl).cv (Cv.shs (.cons (Cv.eq (zbK rfl (by omega))) .nil))), trivial⟩ ?_
                            refine OpsD.keep [0, 4, 5, 6, 29, 30, 31, 32, 35, 36, 37, 38, 39, 46, 75, 93, 122, 123, 124, 125, 126, 127, 128, 129, 130, 131, 132, 133, 134, 135, 136] [(0, .s s), (4, .s b), (5, .ov ov), (6, dN i), (29, dN i), (30, .s b), (31, dN b.size), (32, dB (decide (((i : Nat) : Int) < ((b.size : Nat) : Int)))), (35, dB (decide (((u3.toNat : Nat) : Int) ≠ (92 : Int)))), (36, .s b), (37, dN i), (38, .v (.int .u8 ((u3.toNat : Nat) : Int))), (39, dB (decide (((u3.toNat : Nat) : Int) ≠ (92 : Int)))), (46, dB (decide (((w12.toNat : Nat) : Int) = (34 : Int)) || decide (((w12.toNat : Nat) : Int) = (92 : Int)))), (75, dB (decide (((w12.toNat : Nat) : Int) = (110 : Int)))), (93, dB ((decide (((w12.toNat : Nat) : Int) = (120 : Int)) && decide ((0 : Int) ≤ hexI w23.toNat)) && decide ((0 : Int) ≤ hexI w24.toNat))), (122, .ov ov), (123, .s b), (124, dN i), (125, dN (i + 2)), (126, .v (.int .u8 ((w23.toNat : Nat) : Int))), (127, dI (hexI w23.toNat)), (128, dN (16 * p)), (129, .s b), (130, dN i), (131, dN (i + 3)), (132, .v (.int .u8 ((w24.toNat : Nat) : Int))), (133, dI (hexI w24.toNat)), (134, dN (16 * p + q)), (135, .v (.int .u8 ((16 * p + q : Nat) : Int))), (136, .sh 1 ([(UInt8.ofNat (16 * p + q))].map dU8))] rfl ?_
                            refine zj rfl rfl (zaj (f := dU8) (l := out) (l' := [(UInt8.ofNat (16 * p + q))]) (i := 0) rfl rfl rfl (SrcD.sh) zaL zbq rfl rfl (by unfold maxLen; (try simp only [la, lc, ln, lm, lt', ld, ls, lr]); omega) (by (try simp only [la, lc, ln, lm, lt', ld, ls, lr]); omega)) ?_
                            rintro _ _ ⟨v29, rfl, rfl⟩
                            refine OpsD.norm [.sl v29 1 5 ((out ++ [(UInt8.ofNat (16 * p + q))]).map dU8)] rfl (za rfl rfl (zd rfl) (zg rfl (ze (zb rfl (za rfl rfl (zc rfl) (za rfl rfl (z7 (c := ((i + 3 : Nat) : Int)) rfl rfl (zX (by omega) (by omega))) (za rfl rfl (zd rfl) (zg rfl (zG (zG (ze (zb rfl (za rfl rfl (zc rfl) (za rfl rfl (z7 (c := (((i + 3) + 1 : Nat) : Int)) rfl rfl (zX (by omega) (by omega))) (za rfl rfl (zd rfl) (zg rfl (PD.norm [.sl v29 1 5 ((out ++ [(UInt8.ofNat (16 * p + q))]).map dU8)] rfl ?_)))))))))))))))))
                            exact zZ ((i + 3) + 1, v29, (out ++ [(UInt8.ofNat (16 * p + q))])) ⟨sk rfl, sk rfl, sk rfl, sk rfl, trivial⟩ HSub.rfl' ⟨by have h3 := hE.e3 hu3 (by omega) hw12 (by omega) (by omega) (by omega) hw23 hw24 hp hq; rw [show p * 16 + q = 16 * p + q by omega] at h3; exact h3, by omega, by (try simp only [la, List.length_singleton]); omega⟩ (by omega)
                          · simp only [Bool.and_eq_true, Bool.or_eq_true, Bool.not_eq_true', Bool.not_eq_false', Bool.and_eq_false_iff, Bool.or_eq_false_iff, decide_eq_true_eq, decide_eq_false_iff_not, Decidable.not_not, ne_eq] at hc28
                            refine zf _ _ rfl rfl rfl (zb rfl (za rfl rfl (zd rfl) (za rfl rfl (zd rfl) (zg rfl (ze (zu rfl (zn (zn (zq (zam (zn (zq ?_))))))))))))
                            exact zk Tryz.results69 (.cons (zC (zo rfl) (((Cv.str (by first | decide | (unfold maxLen; omega)))).trans (Cv.eq (congrArg D.s (by have T := zcZ (s := s) (by rw [hb]; exact hE.n1 hu3 (by omega) hw12 (by omega) (by omega) (fun e => by have e1 := e.1; have e2 := e.2.1; have e3 := e.2.2.1; have e4 := e.2.2.2; rw [← zW hw23] at e3; rw [← zW hw24] at e4; omega)); first | exact T.1 | exact T.2))))) (.cons (zC (zo rfl) (Cv.eq (congrArg (fun b => D.v (.bool b)) (by have T := zcZ (s := s) (by rw [hb]; exact hE.n1 hu3 (by omega) hw12 (by omega) (by omega) (fun e => by have e1 := e.1; have e2 := e.2.1; have e3 := e.2.2.1; have e4 := e.2.2.2; rw [← zW hw23] at e3; rw [← zW hw24] at e4; omega)); first | exact T.1 | exact T.2)))) .nil)) rfl HSub.none ⟨rfl, rfl⟩
                      · skip
                        refine zb rfl (za rfl rfl (zc rfl) (za rfl rfl (z7 (c := ((i + 3 : Nat) : Int)) rfl rfl (zX (by omega) (by omega))) (za rfl rfl (zc rfl) (za rfl rfl (zP rfl Tryz.runUnderlying9) (za rfl rfl (z1 rfl rfl (decide_eq_false hc22)) (za rfl rfl (zc rfl) (zi rfl rfl rfl rfl rfl (by decide) (zi rfl rfl rfl rfl rfl (by decide) (zi rfl rfl rfl rfl rfl (by decide) (zi rfl rfl rfl rfl rfl (by decide) (zi rfl rfl rfl rfl rfl (by decide) (za rfl rfl (zt rfl rfl) (za rfl rfl (zc rfl) (zi rfl rfl rfl rfl rfl (by decide) (zi rfl rfl rfl rfl rfl (by decide) (zi rfl rfl rfl rfl rfl (by decide) (zi rfl rfl rfl rfl rfl (by decide) (zi rfl rfl rfl rfl rfl (by decide) (zi rfl rfl rfl rfl rfl (by decide) (za rfl rfl (zt rfl rfl) (za rfl rfl (zc rfl) (zi rfl rfl rfl rfl rfl (by decide) (zi rfl rfl rfl rfl rfl (by decide) (zi rfl rfl rfl rfl rfl (by decide) (zi rfl rfl rfl rfl rfl (by decide) (zi rfl rfl rfl rfl rfl (by decide) (zi rfl rfl rfl rfl rfl (by decide) (za rfl rfl (zt rfl rfl) (za rfl rfl (zd rfl) (zg rfl (ze (zah _ rfl rfl rfl ?_))))))))))))))))))))))))))))))))
                        refine zf _ _ rfl rfl rfl (zb rfl (za rfl rfl (zd rfl) (za rfl rfl (zd rfl) (zg rfl (ze (zu rfl (zn (zn (zq (zam (zn (zq ?_))))))))))))
                        exact zk Tryz.results69 (.cons (zC (zo rfl) (((Cv.str (by first | decide | (unfold maxLen; omega)))).trans (Cv.eq (congrArg D.s (by have T := zcZ (s := s) (by rw [hb]; exact hE.n1 hu3 (by omega) hw12 (by omega) (by omega) (fun e => by have e1 := e.1; have e2 := e.2.1; have e3 := e.2.2.1; have e4 := e.2.2.2; omega)); first | exact T.1 | exact T.2))))) (.cons (zC (zo rfl) (Cv.eq (congrArg (fun b => D.v (.bool b)) (by have T := zcZ (s := s) (by rw [hb]; exact hE.n1 hu3 (by omega) hw12 (by omega) (by omega) (fun e => by have e1 := e.1; have e2 := e.2.1; have e3 := e.2.2.1; have e4 := e.2.2.2; omega)); first | exact T.1 | exact T.2)))) .nil)) rfl HSub.none ⟨rfl, rfl⟩
            · skip
              refine zb rfl (za rfl rfl (zc rfl) (za rfl rfl (z7 (c := ((i + 1 : Nat) : Int)) rfl rfl (zX (by omega) (by omega))) (za rfl rfl (zc rfl) (za rfl rfl (zP rfl Tryz.runUnderlying9) (za rfl rfl (z1 rfl rfl (decide_eq_false hc11)) (za rfl rfl (zc rfl) (zi rfl rfl rfl rfl rfl (by decide) (zi rfl rfl rfl rfl rfl (by decide) (zi rfl rfl rfl rfl rfl (by decide) (zi rfl rfl rfl rfl rfl (by decide) (zi rfl rfl rfl rfl rfl (by decide) (zi rfl rfl rfl rfl rfl (by decide) (zi rfl rfl rfl rfl rfl (by decide) (zi rfl rfl rfl rfl rfl (by decide) (zi rfl rfl rfl rfl rfl (by decide) (zi rfl rfl rfl rfl rfl (by decide) (zi rfl rfl rfl rfl rfl (by decide) (zi rfl rfl rfl rfl rfl (by decide) (za rfl rfl (zt rfl rfl) (za rfl rfl (zd rfl) (zg rfl (ze (zah _ rfl rfl rfl (zf _ _ rfl rfl rfl (zb rfl (za rfl rfl (zc rfl) (za rfl rfl (z7 (c := ((i + 1 : Nat) : Int)) rfl rfl (zX (by omega) (by omega))) (za rfl rfl (zc rfl) (za rfl rfl (zP rfl Tryz.runUnderlying9) ?_)))))))))))))))))))))))))))))
              refine za rfl rfl (z1 rfl rfl (decide_eq_false hc11)) (za rfl rfl (zc rfl) (zi rfl rfl rfl rfl rfl (by decide) (zi rfl rfl rfl rfl rfl (by decide) (zi rfl rfl rfl rfl rfl (by decide) (zi rfl rfl rfl rfl rfl (by decide) (zi rfl rfl rfl rfl rfl (by decide) (za rfl rfl (zt rfl rfl) (za rfl rfl (zd rfl) (zg rfl (ze (zah _ rfl rfl rfl (zf _ _ rfl rfl rfl ?_))))))))))))
              have hno3 : ¬ (((i + 3 : Nat) : Int) < ((b.size : Nat) : Int)) := by omega
              refine zb rfl (za rfl rfl (zc rfl) (za rfl rfl (z7 (c := ((i + 3 : Nat) : Int)) rfl rfl (zX (by omega) (by omega))) (za rfl rfl (zc rfl) (za rfl rfl (zP rfl Tryz.runUnderlying9) (za rfl rfl (z1 rfl rfl (decide_eq_false hno3)) (za rfl rfl (zc rfl) (zi rfl rfl rfl rfl rfl (by decide) (zi rfl rfl rfl rfl rfl (by decide) (zi rfl rfl rfl rfl rfl (by decide) (zi rfl rfl rfl rfl rfl (by decide) (zi rfl rfl rfl rfl rfl (by decide) (za rfl rfl (zt rfl rfl) (za rfl rfl (zc rfl) (zi rfl rfl rfl rfl rfl (by decide) (zi rfl rfl rfl rfl rfl (by decide) (zi rfl rfl rfl rfl rfl (by decide) (zi rfl rfl rfl rfl rfl (by decide) (zi rfl rfl rfl rfl rfl (by decide) (zi rfl rfl rfl rfl rfl (by decide) (za rfl rfl (zt rfl rfl) (za rfl rfl (zc rfl) (zi rfl rfl rfl rfl rfl (by decide) (zi rfl rfl rfl rfl rfl (by decide) (zi rfl rfl rfl rfl rfl (by decide) (zi rfl rfl rfl rfl rfl (by decide) (zi rfl rfl rfl rfl rfl (by decide) (zi rfl rfl rfl rfl rfl (by decide) (za rfl rfl (zt rfl rfl) (za rfl rfl (zd rfl) (zg rfl (ze (zah _ rfl rfl rfl ?_))))))))))))))))))))))))))))))))
              refine zf _ _ rfl rfl rfl (zb rfl (za rfl rfl (zd rfl) (za rfl rfl (zd rfl) (zg rfl (ze (zu rfl (zn (zn (zq (zam (zn (zq ?_))))))))))))
              exact zk Tryz.results69 (.cons (zC (zo rfl) (((Cv.str (by first | decide | (unfold maxLen; omega)))).trans (Cv.eq (congrArg D.s (by have T := zcZ (s := s) (by rw [hb]; exact hE.n0 hu3 (by omega) (by omega)); first | exact T.1 | exact T.2))))) (.cons (zC (zo rfl) (Cv.eq (congrArg (fun b => D.v (.bool b)) (by have T := zcZ (s := s) (by rw [hb]; exact hE.n0 hu3 (by omega) (by omega)); first | exact T.1 | exact T.2)))) .nil)) rfl HSub.none ⟨rfl, rfl⟩
        · replace hc7 := of_decide_eq_false hc7
          have hms : (mkB out).size = out.length := zaH _
          have hdn := hE.done (by omega)
          refine zO rfl (zD (zz (zw (ze (zf _ _ rfl rfl rfl (zb rfl (za rfl rfl (zc rfl) (za rfl rfl (p_bytesU (j := 0) rfl rfl Tryz.underlying128 (by kernel_rfl) (by kernel_rfl) (by unfold maxLen; omega)) (za rfl rfl (zd rfl) (zg rfl (ze (JD.keep [0, 7] [(0, .s s), (7, .s (mkB out))] rfl (zf _ _ rfl rfl rfl (zf _ _ rfl rfl rfl (zb rfl (za rfl rfl (zc rfl) (zj rfl rfl (zx [] _ [] rfl rfl (.cons ArgC.id .nil) zp Tryz.call100 (refQuote_c (mkB out) (by omega)) (.inl rfl)) ?_)))))))))))))))))
          rintro _ _ ⟨_, ⟨rfl, rfl⟩, rfl⟩
          refine OpsD.norm [.sl ov 1 5 (out.map dU8)] rfl (za rfl rfl (zc rfl) (za rfl rfl (zdG rfl rfl rfl) (zg rfl (ze ?_))))
          refine zl _ _ rfl rfl rfl rfl (fun hc30 => ?_) (fun hc30 => ?_)
          · replace hc30 := of_decide_eq_true hc30
            refine zf _ _ rfl rfl rfl (zb rfl (za rfl rfl (zd rfl) (za rfl rfl (zd rfl) (zg rfl (ze (zu rfl (zq ?_)))))))
            exact zk Tryz.results69 (.cons (zC (zo rfl) (((Cv.str (by first | decide | (unfold maxLen; omega)))).trans (Cv.eq (congrArg D.s (by have T := unq_off (s := s) (by rw [hb]; exact hdn) (by simpa using hc30); first | exact T.1 | exact T.2))))) (.cons (zC (zo rfl) (Cv.eq (congrArg (fun b => D.v (.bool b)) (by have T := unq_off (s := s) (by rw [hb]; exact hdn) (by simpa using hc30); first | exact T.1 | exact T.2)))) .nil)) rfl HSub.none ⟨rfl, rfl⟩
          · replace hc30 := of_decide_eq_false hc30
            refine zy rfl (ze (zf _ _ rfl rfl rfl (zb rfl (za rfl rfl (zc rfl) (za rfl rfl (zd rfl) (za rfl rfl (zd rfl) (zg rfl (ze (zu rfl ?_)))))))))
            exact zk Tryz.results69 (.cons (zC (zo rfl) (Cv.eq (congrArg D.s (by have T := unq_yes (s := s) (o := out) (by simpa using hc30); first | exact T.1 | exact T.2)))) (.cons (zC (zo rfl) (Cv.eq (congrArg (fun b => D.v (.bool b)) (by have T := unq_yes (s := s) (o := out) (by simpa using hc30); first | exact T.1 | exact T.2)))) .nil)) rfl HSub.none ⟨rfl, rfl⟩
end Lp
/-
  The document's own lexer, step by step.
-/
set_option linter.unusedVariables false
namespace Lp
open Go
section
variable {s : ByteArray} {i n v : Nat} {u : UInt8}
theorem bts_at (h : s[i]? = some u) : bts s i = u :: bts s (i + 1) := by
  have hp := zcV h
  rw [zaw hp, show s.get! i = u from UInt8.toNat_inj.1 (by rw [← zbM hp, zW h])]
theorem bl8_at (h : s[i]? = some u) : (bl8 s)[i]? = some u := by
  have hp := zcV h
  rw [getElem?_pos s i hp] at h
  injection h with h
  rw [List.getElem?_eq_getElem (by rw [zag]; exact hp), ← h]; rfl
/-! ### quotation marks -/
def RqI (s : ByteArray) (i : Nat) : Prop := 1 ≤ i ∧ i ≤ s.size + 1 ∧ zbS (bts s 1) = (zbS (bts s i)).map (· + (i - 1))
theorem RqI.zero (hz : 0 < s.size) : RqI s 1 := ⟨Nat.le_refl _, by omega, by cases zbS (bts s 1) <;> rfl⟩
theorem RqI.esc (h : RqI s i) (hu : s[i]? = some u) (h92 : u.toNat = 92) : RqI s (i + 2) := by
  obtain ⟨h1, h2, h3⟩ := h
  have hl := zcV hu
  refine ⟨by omega, by omega, ?_⟩
  rw [h3, bts_at hu, show u = 92 from UInt8.toNat_inj.1 h92, bscan_esc, za8, map_map_add]
  congr 1; funext j; omega
theorem RqI.raw (h : RqI s i) (hu : s[i]? = some u) (h92 : ¬ u.toNat = 92) (h34 : ¬ u.toNat = 34) : RqI s (i + 1) := by
  obtain ⟨h1, h2, h3⟩ := h
  have hl := zcV hu
  refine ⟨by omega, by omega, ?_⟩
  rw [h3, bts_at hu, bscan_raw (fun e => h92 (by rw [e]; rfl)) (fun e => h34 (by rw [e]; rfl)), map_map_add]
  congr 1; funext j; omega
theorem qscan_first (hz : 0 < s.size) (h0 : decR s 0 = 34) : zay true (bl8 s) = (zbS (bts s 1)).map (· + 1) := by
  have hne := bl8_ne hz
  have hc : ∃ t, bl8 s = 34 :: t := by
    have h0' : (decL (bl8 s)).1 = 34 := by rw [dec0]; exact h0
    cases e : bl8 s with
    | nil => exact absurd e hne
    | cons b t =>
      rw [e] at h0'
      by_cases hb : b.toNat < 128
      · rw [zaS hb] at h0'
        have h0' : b.toNat = 34 := h0'
        exact ⟨t, by rw [show b = 34 from UInt8.toNat_inj.1 h0']⟩
      · have := (dec_first_high (t := t) hb).1
        omega
  obtain ⟨t, ht⟩ := hc
  have hd : decL (bl8 s) = (34, 1) := by rw [ht]; exact zaS (by decide)
  have e1 : (bl8 s).drop 1 = bts s 1 := rfl
  rw [zb7 hne, if_pos rfl, hd, e1, bscan_qscan _ _ rfl]
theorem RqI.found (h : RqI s i) (hz : 0 < s.size) (h0 : decR s 0 = 34) (hu : s[i]? = some u) (h34 : u.toNat = 34) : zay true (bl8 s) = some i := by
  obtain ⟨h1, h2, h3⟩ := h
  rw [qscan_first hz h0, h3, bts_at hu, show u = 34 from UInt8.toNat_inj.1 h34, bscan_end]
  show some (0 + (i - 1) + 1) = some i
  congr 1; omega
theorem RqI.none (h : RqI s i) (hz : 0 < s.size) (h0 : decR s 0 = 34) (hi : s.size ≤ i) : strT (bl8 s) = (zbF, 0) := by
  obtain ⟨h1, h2, h3⟩ := h
  unfold strT
  rw [qscan_first hz h0, h3, zb0 hi]; rfl
/-! ### numbers -/
def VInv (s : ByteArray) (n v : Nat) : Prop := n ≤ s.size ∧ runL isD (bl8 s) = n + runL isD (bts s n) ∧ v = digV ((bl8 s).take (min n 13)) ∧ ∀ b ∈ (bl8 s).take n, 48 ≤ b.toNat ∧ b.toNat ≤ 57
theorem VInv.zero : VInv s 0 0 := ⟨Nat.zero_le _, by rw [Nat.zero_add]; rfl, rfl, fun b hb => absurd hb (by simp)⟩
theorem VInv.lt (h : VInv s n v) : v < 10000000000000 := by
  rw [h.2.2.1]
  refine vD_le (fun b hb => ?_) (by rw [List.length_take]; omega)
  have : b ∈ (bl8 s).take n := by
    rw [List.mem_take_iff_getElem] at hb ⊢
    obtain ⟨k, hk, e⟩ := hb
    exact ⟨k, by omega, e⟩
  exact h.2.2.2 b this
theorem VInv.step (h : VInv s n v) (hu : s[n]? = some u) (hd : 48 ≤ u.toNat ∧ u.toNat ≤ 57) : n + 1 ≤ s.size ∧ runL isD (bl8 s) = (n + 1) + runL isD (bts s (n + 1)) ∧ ∀ b ∈ (bl8 s).take (n + 1), 48 ≤ b.toNat ∧ b.toNat ≤ 57 := by
  have hl := zcV hu
  refine ⟨hl, dig_byte hu hd h.2.1 hl, fun b hb => ?_⟩
  rw [za9 (bl8_at hu)] at hb
  rcases List.mem_append.1 hb with hb | hb
  · exact h.2.2.2 b hb
  · rw [List.mem_singleton.1 hb]; exact hd
theorem VInv.next (h : VInv s n v) (hu : s[n]? = some u) (hd : 48 ≤ u.toNat ∧ u.toNat ≤ 57) (hn : n < 13) : VInv s (n + 1) (v * 10 + (u.toNat - 48)) := by
  obtain ⟨h1, h2, h3⟩ := h.step hu hd
  refine ⟨h1, h2, ?_, h3⟩
  rw [Nat.min_eq_left (by omega), za9 (bl8_at hu), digV_eq, digF_app]
  have e := h.2.2.1
  rw [Nat.min_eq_left (by omega), digV_eq] at e
  rw [← e]
  show _ = 10 * v + (u.toNat - 48)
  omega
theorem VInv.more (h : VInv s n v) (hu : s[n]? = some u) (hd : 48 ≤ u.toNat ∧ u.toNat ≤ 57) (hn : ¬ n < 13) : VInv s (n + 1) v := by
  obtain ⟨h1, h2, h3⟩ := h.step hu hd
  refine ⟨h1, h2, ?_, h3⟩
  have e := h.2.2.1
  rw [Nat.min_eq_right (by omega)] at e ⊢
  exact e
theorem VInv.stop (h : VInv s n v) (hu : s[n]? = some u) (hd : ¬ (48 ≤ u.toNat ∧ u.toNat ≤ 57)) : nD s = n := by
  have hf : isD ((decL (bts s n)).1 : Int) = false := by
    rw [bts_at hu, ← Bool.not_eq_true]
    intro e
    have h2 : zR ((decL (u :: bts s (n + 1))).1 : Int) = 2 := by
      have h' : inK [2] ((decL (u :: bts s (n + 1))).1 : Int) = true := e
      unfold inK at h'
      simp only [List.any_cons, List.any_nil, Bool.or_false, decide_eq_true_eq] at h'
      exact h'.symm
    have hr : 48 ≤ (decL (u :: bts s (n + 1))).1 ∧ (decL (u :: bts s (n + 1))).1 ≤ 57 := by unfold zR at h2; (repeat (split at h2)) <;> omega
    by_cases hb : u.toNat < 128
    · rw [zaS hb] at hr; exact hd hr
    · have := (dec_first_high (t := bts s (n + 1)) hb).1
      omega
  show runL isD (bl8 s) = n
  rw [h.2.1, zcM hf]; rfl
theorem VInv.fin (h : VInv s n v) (hn : s.size ≤ n) : nD s = n := by
  show runL isD (bl8 s) = n
  rw [h.2.1, zb0 hn, zcL]; rfl
theorem VInv.val (h : VInv s n v) (hd : nD s = n) (hn : n ≤ 13) : v = vD s := by
  have e := h.2.2.1
  rw [Nat.min_eq_left hn] at e
  rw [e]; show _ = digV ((bl8 s).take (nD s)); rw [hd]
theorem VInv.all (h : VInv s n v) (hd : nD s = n) : nA s = n + runL isLD (bl8 (s.extract n s.size)) := by
  have e : bl8 s = (bl8 s).take n ++ (bl8 s).drop n := (List.take_append_drop n _).symm
  have hn := h.1
  show runL isLD (bl8 s) = _
  conv => lhs; rw [e]
  rw [run_digs isLD_2 _ _ h.2.2.2, List.length_take, zag, Nat.min_eq_left hn, zbs, zbd]
/-! ### all words -/
def WI (s : ByteArray) (i : Nat) (o : List TokD) : Prop := zao (bl8 s) 0 = (zao (bts s i) i).map (o ++ ·)
theorem WI.zero : WI s 0 [] := by
  unfold WI
  show zao (bl8 s) 0 = (zao (bl8 s) 0).map _
  cases zao (bl8 s) 0 <;> rfl
theorem blank_byte {b : UInt8} {t : List UInt8} (h : zR ((decL (b :: t)).1 : Int) = 3) : b = 32 ∨ b = 9 ∨ b = 10 := by
  have hr : (decL (b :: t)).1 = 32 ∨ (decL (b :: t)).1 = 9 ∨ (decL (b :: t)).1 = 10 := by unfold zR at h; (repeat (split at h)) <;> omega
  by_cases hb : b.toNat < 128
  · rw [zaS hb] at hr
    have hr : b.toNat = 32 ∨ b.toNat = 9 ∨ b.toNat = 10 := hr
    rcases hr with h | h | h
    · exact .inl (UInt8.toNat_inj.1 h)
    · exact .inr (.inl (UInt8.toNat_inj.1 h))
    · exact .inr (.inr (UInt8.toNat_inj.1 h))
  · have := (dec_first_high (t := t) hb).1
    omega
theorem ext_dec : (decR (s.extract i s.size) 0) = (decL (bts s i)).1 := by rw [decR_extract, Nat.add_zero, za7]
theorem WI.blank {o : List TokD} (h : WI s i o) (hi : i < s.size) (hk : zR ((decR (s.extract i s.size) 0 : Nat) : Int) = 3) : WI s (i + 1) o := by
  unfold WI at *
  rw [ext_dec, zaw hi] at hk
  rw [h, zaw hi]
  have e : s.get! i :: bts s (i + 1) = [s.get! i] ++ bts s (i + 1) := rfl
  rw [e, wordsL_blank (by intro b hb; rw [List.mem_singleton.1 hb]; exact blank_byte hk)]; rfl
theorem no_blank {l : List UInt8} (hk : ¬ zR ((decL l).1 : Int) = 3) : runL isB l = 0 := by
  refine zcM ?_
  show inK [3] _ = false
  unfold inK
  simp only [List.any_cons, List.any_nil, Bool.or_false, decide_eq_false_iff_not]
  exact fun e => hk e.symm
theorem WI.next {o : List TokD} (h : WI s i o) (hi : i < s.size) (hk : ¬ zR ((decR (s.extract i s.size) 0 : Nat) : Int) = 3) (h0 : ¬ (zF (bl8 (s.extract i s.size))).2 = 0) : WI s (i + (zF (bl8 (s.extract i s.size))).2) (o ++ [(zF (bl8 (s.extract i s.size))).1.put i]) := by
  have e1 : bl8 (s.extract i s.size) = bts s i := zaJ
  unfold WI at *
  rw [ext_dec] at hk
  rw [e1] at h0 ⊢
  have hb := no_blank hk
  have hw : zao (bts s i) i = zaT (bts s i).length (bts s i) i := by unfold zao; rw [hb]; rfl
  rw [h, hw, zbv (zcb hi) h0 (Nat.le_refl _), za8]
  cases zao (bts s (i + (zF (bts s i)).2)) (i + (zF (bts s i)).2) <;> simp
theorem WI.bad {o : List TokD} (h : WI s i o) (hi : i < s.size) (hk : ¬ zR ((decR (s.extract i s.size) 0 : Nat) : Int) = 3) (h0 : (zF (bl8 (s.extract i s.size))).2 = 0) : zao (bl8 s) 0 = none := by
  have e1 : bl8 (s.extract i s.size) = bts s i := zaJ
  unfold WI at h
  rw [ext_dec] at hk
  rw [e1] at h0
  have hb := no_blank hk
  have hw : zao (bts s i) i = zaT (bts s i).length (bts s i) i := by unfold zao; rw [hb]; rfl
  rw [h, hw, zb5 (zcb hi) h0]; rfl
theorem WI.done {o : List TokD} (h : WI s i o) (hi : s.size ≤ i) : zao (bl8 s) 0 = some o := by
  unfold WI at h
  have e : zao [] i = some [] := by unfold zao; rw [zcL]; exact zbg
  rw [h, zb0 hi, e]; simp
/-! ### signs -/
def SgI (s : ByteArray) (n : Nat) : Prop := n ≤ 2 ∧ n ≤ s.size ∧ (n < 2 → 2 ≤ s.size → hasN zN (s.extract 0 2) = false) ∧ (n < 1 → 1 ≤ s.size → hasN zN (s.extract 0 1) = false)
theorem SgI.zero (hz : 0 < s.size) : SgI s (min 2 s.size) := ⟨by omega, by omega, fun h1 h2 => by omega, fun h1 h2 => by omega⟩
theorem SgI.next (h : SgI s n) (h0 : 0 < n) (hf : hasN zN (s.extract 0 n) = false) : SgI s (n - 1) := by
  obtain ⟨h1, h2, h3, h4⟩ := h
  rcases (show n = 1 ∨ n = 2 by omega) with rfl | rfl
  · exact ⟨by omega, by omega, fun _ => h3 (by omega), fun _ _ => hf⟩
  · exact ⟨by omega, by omega, fun _ _ => hf, fun h _ => by omega⟩
theorem SgI.yes (h : SgI s n) (h0 : 0 < n) (ht : hasN zN (s.extract 0 n) = true) : zbi (bl8 s) = (⟨5, 0, s.extract 0 n⟩, n) := by
  obtain ⟨h1, h2, h3, h4⟩ := h
  rw [signT_two, zag]
  have e : ∀ k, k ≤ s.size → mkB ((bl8 s).take k) = s.extract 0 k := fun k hk => (zbn hk).symm
  rcases (show n = 1 ∨ n = 2 by omega) with rfl | rfl
  · have hn : ¬ (2 ≤ s.size ∧ hasN zN (mkB ((bl8 s).take 2)) = true) := fun hh => by
      have := h3 (by omega) hh.1
      rw [e 2 hh.1, this] at hh; exact absurd hh.2 (by simp)
    rw [if_neg hn, if_pos ⟨h2, by rw [e 1 h2]; exact ht⟩, e 1 h2]
  · rw [if_pos ⟨h2, by rw [e 2 h2]; exact ht⟩, e 2 h2]
theorem SgI.no (h : SgI s n) (h0 : ¬ 0 < n) : zbi (bl8 s) = (zbF, 0) := by
  obtain ⟨h1, h2, h3, h4⟩ := h
  rw [signT_two, zag]
  have e : ∀ k, k ≤ s.size → mkB ((bl8 s).take k) = s.extract 0 k := fun k hk => (zbn hk).symm
  have n2 : ¬ (2 ≤ s.size ∧ hasN zN (mkB ((bl8 s).take 2)) = true) := fun hh => by
    have := h3 (by omega) hh.1
    rw [e 2 hh.1, this] at hh; exact absurd hh.2 (by simp)
  have n1 : ¬ (1 ≤ s.size ∧ hasN zN (mkB ((bl8 s).take 1)) = true) := fun hh => by
    have := h4 (by omega) hh.1
    rw [e 1 hh.1, this] at hh; exact absurd hh.2 (by simp)
  rw [if_neg n2, if_neg n1]
theorem notLD {r : Int} (h : ¬ zR r = 1 ∧ ¬ zR r = 2) : isLD r = false := by
  rw [← Bool.not_eq_true, zcv]; omega
end
end Lp
