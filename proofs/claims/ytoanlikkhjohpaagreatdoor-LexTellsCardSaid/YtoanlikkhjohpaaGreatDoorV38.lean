/- Walks, printed by a program of mine. -/
import Derived.Test.YtoanlikkhjohpaaGreatDoorV37
set_option linter.unusedSimpArgs false
set_option linter.unusedVariables false
namespace Lp
open Go Go.RowKit Go.Proofs

namespace HdYtoanlikkhjohpaaGreatDoorV38
theorem zdw {a : Int} (h : 0 ≤ a ∧ a ≤ 255) : ∀ w, (convert 3 5 (.int .i64 a)).run Tryz.prog w = .ok (.int .u8 a) w := fun w => by
  have e : IntKind.u8.wrap a = a := by simp [IntKind.wrap, IntKind.bits, IntKind.signed]; omega
  simp [convert, run_underlying (show Tryz.prog.underlying 3 = some _ by kernel_rfl), run_underlying (show Tryz.prog.underlying 5 = some _ by kernel_rfl), Conv.intToInt, e]
theorem zaL : Tryz.prog.underlying 128 = some (.slice 5) := by kernel_rfl
end HdYtoanlikkhjohpaaGreatDoorV38
open HdYtoanlikkhjohpaaGreatDoorV38

set_option maxHeartbeats 4000000 in
set_option maxRecDepth 100000 in
theorem escaped_c (s : ByteArray) (hs : s.size ≤ 1000000) :
    CD Tryz.prog 107 [] [.s s] (isR (.tup [D.s (escT s), dN (escN s)])) := by
  refine zH Tryz.func107 rfl (N := 52) rfl rfl (fun C => ?_)
  refine JD.keep [0] [(0, .s s)] rfl ?_
  refine JD.bd 0 rfl (fun bd0 => ?_)
  have sz0 : s.size ≤ 9223372036854775807 := bd0
  refine zf _ _ rfl rfl rfl (zb rfl (za rfl rfl (zd rfl) (za rfl rfl (zd rfl) (zg rfl (ze (zf _ _ rfl rfl rfl (zB _ rfl rfl (zf _ _ rfl rfl rfl (zb rfl (za rfl rfl (zc rfl) (za rfl rfl (zaD rfl rfl rfl) (za rfl rfl (zd rfl) (zg rfl (ze ?_))))))))))))))
  refine zl _ _ rfl rfl rfl rfl (fun hc1 => ?_) (fun hc1 => ?_)
  · replace hc1 := of_decide_eq_true hc1
    refine zf _ _ rfl rfl rfl (zb rfl (za rfl rfl (zd rfl) (za rfl rfl (zd rfl) (zg rfl (ze (zu rfl (zn (zq ?_))))))))
    exact zk Tryz.results107 (.cons (zC (zo rfl) (((Cv.str (by first | decide | (unfold maxLen; omega)))).trans (Cv.eq (congrArg D.s (by have T := esc_0 hc1; first | exact T.1 | exact T.2))))) (.cons (zC (zo rfl) (Cv.eq (congrArg dN (by have T := esc_0 hc1; first | exact T.1 | exact T.2)))) .nil)) rfl HSub.none ⟨rfl, rfl⟩
  · replace hc1 := of_decide_eq_false hc1
    have hz := ne_size hc1
    refine zf _ _ rfl rfl rfl ?_
    obtain ⟨u1, hu1⟩ := zaI s 0 (by omega)
    have hlu1 := u1.toNat_lt
    refine JD.keep [0, 2, 3] [(0, .s s), (2, .v (.string ByteArray.empty)), (3, dI 0)] rfl ?_
    refine zak 9 ((decide (((u1.toNat : Nat) : Int) = (34 : Int)) || decide (((u1.toNat : Nat) : Int) = (92 : Int)))) [] (fun _ hQ2 => ?_) ?_
    · skip
      by_cases hg3 : ((u1.toNat : Nat) : Int) = (34 : Int)
      · skip
        refine zb rfl (za rfl rfl (zc rfl) (za rfl rfl (zM (k := 0) rfl rfl Tryz.runUnderlying9 (by first | rfl | omega) hu1) (za rfl rfl (zU rfl rfl (decide_eq_true hg3)) (za rfl rfl (zc rfl) (zi rfl rfl rfl rfl rfl (by decide) (zi rfl rfl rfl rfl rfl (by decide) (zi rfl rfl rfl rfl rfl (by decide) (za rfl rfl (zr rfl rfl) (za rfl rfl (zd rfl) (zg rfl ?_))))))))))
        exact PD.sub ((9, dB (decide (((u1.toNat : Nat) : Int) = (34 : Int)) || decide (((u1.toNat : Nat) : Int) = (92 : Int)))) :: [(0, .s s), (2, .v (.string ByteArray.empty)), (3, dI 0)]) ⟨sc rfl (Cv.eq (congrArg (fun b => D.v (.bool b)) (by first | (simp [hc1, hg3]; done) | (simp_all; done)))), sk rfl, sk rfl, sk rfl, trivial⟩ hQ2
      · skip
        refine zb rfl (za rfl rfl (zc rfl) (za rfl rfl (zM (k := 0) rfl rfl Tryz.runUnderlying9 (by first | rfl | omega) hu1) (za rfl rfl (zU rfl rfl (decide_eq_false hg3)) (za rfl rfl (zc rfl) (zh rfl rfl rfl rfl rfl (zc rfl) (zh rfl rfl rfl rfl rfl (zM (k := 0) rfl rfl Tryz.runUnderlying9 (by first | rfl | omega) hu1) (zh rfl rfl rfl rfl rfl (zU rfl rfl rfl) (za rfl rfl (zt rfl rfl) (za rfl rfl (zd rfl) (zg rfl ?_))))))))))
        exact PD.sub ((9, dB (decide (((u1.toNat : Nat) : Int) = (34 : Int)) || decide (((u1.toNat : Nat) : Int) = (92 : Int)))) :: [(0, .s s), (2, .v (.string ByteArray.empty)), (3, dI 0)]) ⟨sc rfl (Cv.eq (congrArg (fun b => D.v (.bool b)) (by first | (simp [hc1, hg3]; done) | (simp_all; done)))), sk rfl, sk rfl, sk rfl, trivial⟩ hQ2
    · skip
      refine ze ?_
      refine zl _ _ rfl rfl rfl rfl (fun hc4 => ?_) (fun hc4 => ?_)
      · simp only [Bool.and_eq_true, Bool.or_eq_true, Bool.not_eq_true', Bool.not_eq_false', Bool.and_eq_false_iff, Bool.or_eq_false_iff, decide_eq_true_eq, decide_eq_false_iff_not, Decidable.not_not, ne_eq] at hc4
        refine zf _ _ rfl rfl rfl (zb rfl (za rfl rfl (zc rfl) (za rfl rfl (zV (a := 0) (c := 1) rfl rfl rfl (by first | rfl | (show _ = _; omega)) (by first | rfl | (show _ = _; omega)) Tryz.runUnderlying9 (by omega) (by omega)) (za rfl rfl (zd rfl) (za rfl rfl (zd rfl) (zg rfl (ze (zu rfl (zn (zq ?_))))))))))
        exact zk Tryz.results107 (.cons (zC (zo rfl) (Cv.eq (congrArg D.s (by have T := esc_1 hz (by rw [← (zW hu1)]; have := hc4; omega); first | exact T.1 | exact T.2)))) (.cons (zC (zo rfl) (Cv.eq (congrArg dN (by have T := esc_1 hz (by rw [← (zW hu1)]; have := hc4; omega); first | exact T.1 | exact T.2)))) .nil)) rfl HSub.none ⟨rfl, rfl⟩
      · simp only [Bool.and_eq_true, Bool.or_eq_true, Bool.not_eq_true', Bool.not_eq_false', Bool.and_eq_false_iff, Bool.or_eq_false_iff, decide_eq_true_eq, decide_eq_false_iff_not, Decidable.not_not, ne_eq] at hc4
        refine zf _ _ rfl rfl rfl (zb rfl (za rfl rfl (zc rfl) (za rfl rfl (zM (k := 0) rfl rfl Tryz.runUnderlying9 (by first | rfl | omega) hu1) (za rfl rfl (zU rfl rfl rfl) (za rfl rfl (zd rfl) (zg rfl (ze ?_)))))))
        refine zl _ _ rfl rfl rfl rfl (fun hc5 => ?_) (fun hc5 => ?_)
        · replace hc5 := of_decide_eq_true hc5
          refine zf _ _ rfl rfl rfl (zb rfl (za rfl rfl (zd rfl) (za rfl rfl (zd rfl) (zg rfl (ze (zu rfl (zn (zq ?_))))))))
          exact zk Tryz.results107 (.cons (zC (zo rfl) (((Cv.str (by first | decide | (unfold maxLen; omega)))).trans (Cv.eq (congrArg D.s (by have T := esc_2 hz (by rw [← (zW hu1)]; have := hc4; omega) (by rw [← (zW hu1)]; have := hc5; omega); first | exact T.1 | exact T.2))))) (.cons (zC (zo rfl) (Cv.eq (congrArg dN (by have T := esc_2 hz (by rw [← (zW hu1)]; have := hc4; omega) (by rw [← (zW hu1)]; have := hc5; omega); first | exact T.1 | exact T.2)))) .nil)) rfl HSub.none ⟨rfl, rfl⟩
        · replace hc5 := of_decide_eq_false hc5
          refine zf _ _ rfl rfl rfl (JD.keep [0, 2, 3] [(0, .s s), (2, .v (.string ByteArray.empty)), (3, dI 0)] rfl ?_)
          refine zak 24 ((decide (((u1.toNat : Nat) : Int) = (120 : Int)) && decide ((3 : Int) ≤ ((s.size : Nat) : Int)))) [] (fun _ hQ6 => ?_) ?_
          · skip
            by_cases hg7 : ((u1.toNat : Nat) : Int) = (120 : Int)
            · skip
              refine zb rfl (za rfl rfl (zc rfl) (za rfl rfl (zM (k := 0) rfl rfl Tryz.runUnderlying9 (by first | rfl | omega) hu1) (za rfl rfl (zU rfl rfl (decide_eq_true hg7)) (za rfl rfl (zc rfl) (zh rfl rfl rfl rfl rfl (zc rfl) (zh rfl rfl rfl rfl rfl (zP rfl Tryz.runUnderlying9) (zh rfl rfl rfl rfl rfl (z8 rfl rfl rfl) (za rfl rfl (zr rfl rfl) (za rfl rfl (zd rfl) (zg rfl ?_))))))))))
              exact PD.sub ((24, dB (decide (((u1.toNat : Nat) : Int) = (120 : Int)) && decide ((3 : Int) ≤ ((s.size : Nat) : Int)))) :: [(0, .s s), (2, .v (.string ByteArray.empty)), (3, dI 0)]) ⟨sc rfl (Cv.eq (congrArg (fun b => D.v (.bool b)) (by first | (simp [hc1, hc5, hg7]; done) | (simp_all; done)))), sk rfl, sk rfl, sk rfl, trivial⟩ hQ6
            · skip
              refine zb rfl (za rfl rfl (zc rfl) (za rfl rfl (zM (k := 0) rfl rfl Tryz.runUnderlying9 (by first | rfl | omega) hu1) (za rfl rfl (zU rfl rfl (decide_eq_false hg7)) (za rfl rfl (zc rfl) (zi rfl rfl rfl rfl rfl (by decide) (zi rfl rfl rfl rfl rfl (by decide) (zi rfl rfl rfl rfl rfl (by decide) (za rfl rfl (zt rfl rfl) (za rfl rfl (zd rfl) (zg rfl ?_))))))))))
              exact PD.sub ((24, dB (decide (((u1.toNat : Nat) : Int) = (120 : Int)) && decide ((3 : Int) ≤ ((s.size : Nat) : Int)))) :: [(0, .s s), (2, .v (.string ByteArray.empty)), (3, dI 0)]) ⟨sc rfl (Cv.eq (congrArg (fun b => D.v (.bool b)) (by first | (simp [hc1, hc5, hg7]; done) | (simp_all; done)))), sk rfl, sk rfl, sk rfl, trivial⟩ hQ6
          · skip
            refine ze ?_
            refine zl _ _ rfl rfl rfl rfl (fun hc8 => ?_) (fun hc8 => ?_)
            · simp only [Bool.and_eq_true, Bool.or_eq_true, Bool.not_eq_true', Bool.not_eq_false', Bool.and_eq_false_iff, Bool.or_eq_false_iff, decide_eq_true_eq, decide_eq_false_iff_not, Decidable.not_not, ne_eq] at hc8
              refine zf _ _ rfl rfl rfl (JD.keep [0, 2, 3, 24] [(0, .s s), (2, .v (.string ByteArray.empty)), (3, dI 0), (24, dB (decide (((u1.toNat : Nat) : Int) = (120 : Int)) && decide ((3 : Int) ≤ ((s.size : Nat) : Int))))] rfl (JD.norm [] rfl ?_))
              obtain ⟨u2, hu2⟩ := zaI s 1 (by omega)
              have hlu2 := u2.toNat_lt
              obtain ⟨u3, hu3⟩ := zaI s 2 (by omega)
              have hlu3 := u3.toNat_lt
              refine zbN 5 [(33, .s s, none), (34, .v (.int .u8 ((u2.toNat : Nat) : Int)), none), (35, dI (hexI u2.toNat), none), (36, .s s, none), (37, .v (.int .u8 ((u3.toNat : Nat) : Int)), none)] [] (Hn := []) mixed rfl rfl rfl rfl HSub.rfl' rfl ⟨sa_p rfl rfl rfl (zc rfl), sa_p rfl rfl rfl (zM (k := 1) rfl rfl Tryz.runUnderlying9 (by first | rfl | omega) hu2), sa_q rfl rfl rfl (zda rfl (.cons Cv.rfl' (.cons Cv.rfl' .nil)) Tryz.call121 (indexByte_c u2.toNat) isR_share), sa_p rfl rfl rfl (zc rfl), sa_p rfl rfl rfl (zM (k := 2) rfl rfl Tryz.runUnderlying9 (by first | rfl | omega) hu3), trivial⟩ (OpsD.keep [0, 2, 3, 24, 33, 34, 35, 36, 37] [(0, .s s), (2, .v (.string ByteArray.empty)), (3, dI 0), (24, dB (decide (((u1.toNat : Nat) : Int) = (120 : Int)) && decide ((3 : Int) ≤ ((s.size : Nat) : Int)))), (33, .s s), (34, .v (.int .u8 ((u2.toNat : Nat) : Int))), (35, dI (hexI u2.toNat)), (36, .s s), (37, .v (.int .u8 ((u3.toNat : Nat) : Int)))] rfl (zj rfl rfl (zx [] _ [] rfl rfl (.cons ArgC.id (.cons ArgC.id .nil)) zp Tryz.call121 (indexByte_c u3.toNat) (.inl rfl)) ?_))
              rintro _ _ ⟨_, ⟨rfl, rfl⟩, rfl⟩
              refine OpsD.norm [] rfl (za rfl rfl (zd rfl) (za rfl rfl (zd rfl) (zg rfl (ze (zf _ _ rfl rfl rfl (JD.keep [2, 3, 4, 5] [(2, .v (.string ByteArray.empty)), (3, dI 0), (4, dI (hexI u2.toNat)), (5, dI (hexI u3.toNat))] rfl ?_))))))
              refine zak 44 ((decide ((0 : Int) ≤ hexI u2.toNat) && decide ((0 : Int) ≤ hexI u3.toNat))) [] (fun _ hQ9 => ?_) ?_
              · skip
                by_cases hg10 : (0 : Int) ≤ hexI u2.toNat
                · skip
                  refine zb rfl (za rfl rfl (zc rfl) (za rfl rfl (z8 rfl rfl (decide_eq_true hg10)) (za rfl rfl (zc rfl) (zh rfl rfl rfl rfl rfl (zc rfl) (zh rfl rfl rfl rfl rfl (z8 rfl rfl rfl) (za rfl rfl (zr rfl rfl) (zg rfl ?_)))))))
                  exact PD.sub ((44, dB (decide ((0 : Int) ≤ hexI u2.toNat) && decide ((0 : Int) ≤ hexI u3.toNat))) :: [(2, .v (.string ByteArray.empty)), (3, dI 0), (4, dI (hexI u2.toNat)), (5, dI (hexI u3.toNat))]) ⟨sc rfl (Cv.eq (congrArg (fun b => D.v (.bool b)) (by first | (simp [hc1, hc5, hg10]; done) | (simp_all; done)))), sk rfl, sk rfl, sk rfl, sk rfl, trivial⟩ hQ9
                · skip
                  refine zb rfl (za rfl rfl (zc rfl) (za rfl rfl (z8 rfl rfl (decide_eq_false hg10)) (za rfl rfl (zc rfl) (zi rfl rfl rfl rfl rfl (by decide) (zi rfl rfl rfl rfl rfl (by decide) (za rfl rfl (zt rfl rfl) (zg rfl ?_)))))))
                  exact PD.sub ((44, dB (decide ((0 : Int) ≤ hexI u2.toNat) && decide ((0 : Int) ≤ hexI u3.toNat))) :: [(2, .v (.string ByteArray.empty)), (3, dI 0), (4, dI (hexI u2.toNat)), (5, dI (hexI u3.toNat))]) ⟨sc rfl (Cv.eq (congrArg (fun b => D.v (.bool b)) (by first | (simp [hc1, hc5, hg10]; done) | (simp_all; done)))), sk rfl, sk rfl, sk rfl, sk rfl, trivial⟩ hQ9
              · skip
                refine ze ?_
                refine zl _ _ rfl rfl rfl rfl (fun hc11 => ?_) (fun hc11 => ?_)
                · simp only [Bool.and_eq_true, Bool.or_eq_true, Bool.not_eq_true', Bool.not_eq_false', Bool.and_eq_false_iff, Bool.or_eq_false_iff, decide_eq_true_eq, decide_eq_false_iff_not, Decidable.not_not, ne_eq] at hc11
                  have hxa := hexI_bd u2.toNat (by omega)
                  obtain ⟨a, ha⟩ : ∃ n : Nat, hexI u2.toNat = (n : Int) := ⟨(hexI u2.toNat).toNat, by omega⟩
                  have hxb := hexI_bd u3.toNat (by omega)
                  obtain ⟨b, hb⟩ : ∃ n : Nat, hexI u3.toNat = (n : Int) := ⟨(hexI u3.toNat).toNat, by omega⟩
                  refine JD.sub [(2, .v (.string ByteArray.empty)), (3, dI 0), (4, dN a), (5, dN b)] ⟨sk rfl, sk rfl, sc rfl (Cv.eq (congrArg dI ha)), sc rfl (Cv.eq (congrArg dI hb)), trivial⟩ (zf _ _ rfl rfl rfl (zb rfl (za rfl rfl (zc rfl) (za rfl rfl (p_shl4 (a := a) rfl rfl (by omega)) (za rfl rfl (zc rfl) (za rfl rfl (p_or64 (a := a) (b := b) rfl rfl (by omega) (by omega)) (za rfl rfl (zaO rfl (c := ((a * 16 + b : Nat) : Int)) (zdw (by omega))) (zj rfl rfl (zac [.tmp 49] rfl rfl (.cons (CellD.v rfl) .nil) rfl Tryz.runUnderlying128 Tryz.sizeOf5 Tryz.zeroValue5 rfl rfl rfl rfl) ?_))))))))
                  rintro _ _ ⟨g12, rfl, rfl⟩
                  refine za rfl rfl ((p_bytes (j := 0) (xs := [((a * 16 + b : Nat) : Int)]) rfl rfl (by simp) zaL (by kernel_rfl) (by kernel_rfl)).cv (Cv.str (by rw [strOfNums_size]; show 1 ≤ maxLen; decide))) (za rfl rfl (zd rfl) (za rfl rfl (zd rfl) (zg rfl (ze (JD.keep [2, 3] [(2, .s (strOfNums [((a * 16 + b : Nat) : Int)])), (3, dI 3)] rfl (zu rfl (zn (zq ?_))))))))
                  exact zk Tryz.results107 (.cons (zC (zo rfl) (Cv.eq (congrArg D.s (by have T := esc_3 (a := a) (b := b) hz (by rw [← (zW hu1)]; have := hc4; omega) (by rw [← (zW hu1)]; have := hc5; omega) ⟨by rw [← (zW hu1)]; have := hc8.1; omega, by have := hc8.2; omega⟩ (by rw [← zW hu2]; exact ha) (by rw [← zW hu3]; exact hb); first | (rw [nums_one (by omega)]; exact T.1) | exact T.2)))) (.cons (zC (zo rfl) (Cv.eq (congrArg dN (by have T := esc_3 (a := a) (b := b) hz (by rw [← (zW hu1)]; have := hc4; omega) (by rw [← (zW hu1)]; have := hc5; omega) ⟨by rw [← (zW hu1)]; have := hc8.1; omega, by have := hc8.2; omega⟩ (by rw [← zW hu2]; exact ha) (by rw [← zW hu3]; exact hb); first | (rw [nums_one (by omega)]; exact T.1) | exact T.2)))) .nil)) rfl HSub.none ⟨rfl, rfl⟩
                · simp only [Bool.and_eq_true, Bool.or_eq_true, Bool.not_eq_true', Bool.not_eq_false', Bool.and_eq_false_iff, Bool.or_eq_false_iff, decide_eq_true_eq, decide_eq_false_iff_not, Decidable.not_not, ne_eq] at hc11
                  refine zy rfl (zG (ze (zf _ _ rfl rfl rfl (zb rfl (za rfl rfl (zd rfl) (za rfl rfl (zd rfl) (zg rfl (ze (zu rfl ?_)))))))))
                  exact zk Tryz.results107 (.cons (zC (zo rfl) (((Cv.str (by first | decide | (unfold maxLen; omega)))).trans (Cv.eq (congrArg D.s (by have T := zdI hz (by rw [← (zW hu1)]; have := hc4; omega) (by rw [← (zW hu1)]; have := hc5; omega) (fun e => by have h3 := e.2.2.1; have h4 := e.2.2.2; rw [← zW hu2] at h3; rw [← zW hu3] at h4; rcases hc11 with h | h <;> omega); first | exact T.1 | exact T.2))))) (.cons (zC (zo rfl) (Cv.eq (congrArg dN (by have T := zdI hz (by rw [← (zW hu1)]; have := hc4; omega) (by rw [← (zW hu1)]; have := hc5; omega) (fun e => by have h3 := e.2.2.1; have h4 := e.2.2.2; rw [← zW hu2] at h3; rw [← zW hu3] at h4; rcases hc11 with h | h <;> omega); first | exact T.1 | exact T.2)))) .nil)) rfl HSub.none ⟨rfl, rfl⟩
            · simp only [Bool.and_eq_true, Bool.or_eq_true, Bool.not_eq_true', Bool.not_eq_false', Bool.and_eq_false_iff, Bool.or_eq_false_iff, decide_eq_true_eq, decide_eq_false_iff_not, Decidable.not_not, ne_eq] at hc8
              refine zy rfl (zG (ze (zf _ _ rfl rfl rfl (zb rfl (za rfl rfl (zd rfl) (za rfl rfl (zd rfl) (zg rfl (ze (zu rfl ?_)))))))))
              exact zk Tryz.results107 (.cons (zC (zo rfl) (((Cv.str (by first | decide | (unfold maxLen; omega)))).trans (Cv.eq (congrArg D.s (by have T := zdI hz (by rw [← (zW hu1)]; have := hc4; omega) (by rw [← (zW hu1)]; have := hc5; omega) (fun e => by have h3 := e.1; have h4 := e.2.1; rw [← (zW hu1)] at h3; rcases hc8 with h | h <;> omega); first | exact T.1 | exact T.2))))) (.cons (zC (zo rfl) (Cv.eq (congrArg dN (by have T := zdI hz (by rw [← (zW hu1)]; have := hc4; omega) (by rw [← (zW hu1)]; have := hc5; omega) (fun e => by have h3 := e.1; have h4 := e.2.1; rw [← (zW hu1)] at h3; rcases hc8 with h | h <;> omega); first | exact T.1 | exact T.2)))) .nil)) rfl HSub.none ⟨rfl, rfl⟩

set_option maxHeartbeats 4000000 in
set_option maxRecDepth 100000 in
theorem Unquote_c (s : ByteArray) (h2 : 2 ≤ s.size) (hs : s.size ≤ 1000000) :
    CD Tryz.prog 95 [] [.s s] (isR (.tup [D.s (unqT s), dB (zbh s)])) := by
  refine zH Tryz.func95 rfl (N := 42) rfl rfl (fun C => ?_)
  refine JD.keep [0] [(0, .s s)] rfl ?_
  refine JD.bd 0 rfl (fun bd0 => ?_)
  have sz0 : s.size ≤ 9223372036854775807 := bd0
  have hts := trimP_size s
  refine zf _ _ rfl rfl rfl (zb rfl (za rfl rfl (zd rfl) (za rfl rfl (zd rfl) (zg rfl (ze (zf _ _ rfl rfl rfl (zb rfl (zj rfl rfl (zbo (zv := (.agg #[(.pointer none), (.slice none 0 0)])) (X := .agg [.v (.pointer none), .ov (.slice none 0 0)]) Tryz.zeroValue135 ⟨rfl, rfl, trivial⟩ ((Cv.vagg (by decide)).trans (Cv.agg (.cons Cv.rfl' (.cons (Cv.ov rfl) .nil))))) ?_))))))))
  rintro _ _ ⟨g1, rfl, rfl⟩
  refine OpsD.subH (HSub.nil 1 5) (OpsD.norm [.sl (.slice none 0 0) 1 5 ([].map dU8), .bx g1 135 (.agg [.v (.pointer none), .ov (.slice none 0 0)])] rfl (zg rfl (ze (zf _ _ rfl rfl rfl (zf _ _ rfl rfl rfl (zb rfl (za rfl rfl (zc rfl) (zj rfl rfl (zx [] _ [] rfl rfl (.cons ArgC.id (.cons ArgC.id .nil)) zp Tryz.call105 (trimP_c s) (.inl rfl)) ?_))))))))
  rintro _ _ ⟨_, ⟨rfl, rfl⟩, rfl⟩
  refine OpsD.norm [.sl (.slice none 0 0) 1 5 ([].map dU8), .bx g1 135 (.agg [.v (.pointer none), .ov (.slice none 0 0)])] rfl (za rfl rfl (zd rfl) (zg rfl (ze (zB _ rfl rfl (JD.subH (HSub.perm (zm (i := 1) rfl)) (JD.norm [.bx g1 135 (.agg [.v (.pointer none), .ov (.slice none 0 0)]), .sl (.slice none 0 0) 1 5 ([].map dU8)] rfl (zS (fun (g : ByteArray × Value × Value × List UInt8) => [(0, .s s), (4, dP g1 0), (5, .s g.1)]) (fun (g : ByteArray × Value × Value × List UInt8) => [.bx g1 135 (.agg [.v g.2.1, .ov g.2.2.1]), .sl g.2.2.1 1 5 (g.2.2.2.map dU8)]) (fun (g : ByteArray × Value × Value × List UInt8) => (g.2.1 = .pointer none ∨ g.2.1 = .pointer (some ⟨g1, 0, none⟩)) ∧ (UInv (zbA s) g.1 g.2.2.2) ∧ (g.1.size ≤ s.size) ∧ (g.2.2.2.length + g.1.size ≤ s.size) ∧ (g.2.2.2 = [] → g.1.size = (zbA s).size)) (fun (g : ByteArray × Value × Value × List UInt8) => g.1.size) _ (zbA s, .pointer none, .slice none 0 0, []) rfl rfl ⟨sk rfl, sk rfl, sk rfl, trivial⟩ HSub.rfl' ⟨.inl rfl, UInv.zero _, hts.2, by show 0 + (zbA s).size ≤ s.size; omega, fun _ => rfl⟩ ?_)))))))
  rintro ⟨r, pv, ov, bs⟩ ⟨hp, hu, hr, hb, hn⟩
  replace hp : pv = .pointer none ∨ pv = .pointer (some ⟨g1, 0, none⟩) := hp
  replace hu : UInv (zbA s) r bs := hu
  replace hr : r.size ≤ s.size := hr
  replace hb : bs.length + r.size ≤ s.size := hb
  replace hn : bs = [] → r.size = (zbA s).size := hn
  refine JD.keep [0, 4, 5] [(0, .s s), (4, dP g1 0), (5, .s r)] rfl (JD.norm [.bx g1 135 (.agg [.v pv, .ov ov]), .sl ov 1 5 (bs.map dU8)] rfl ?_)
  have hts := trimP_size s
  refine zf _ _ rfl rfl rfl (zf _ _ rfl rfl rfl (zb rfl (za rfl rfl (zc rfl) (za rfl rfl (zdG rfl rfl rfl) (zg rfl (ze ?_))))))
  refine zl _ _ rfl rfl rfl rfl (fun hc2 => ?_) (fun hc2 => ?_)
  · replace hc2 := of_decide_eq_true hc2
    have hz := ne_size hc2
    have hex0 : (r.extract 1 r.size).size = r.size - 1 := by rw [ByteArray.size_extract]; omega
    refine zy rfl (ze (zB _ rfl rfl (zf _ _ rfl rfl rfl (zf _ _ rfl rfl rfl (zb rfl (za rfl rfl (zc rfl) ?_))))))
    obtain ⟨u1, hu1⟩ := zaI r 0 (by omega)
    have hlu1 := u1.toNat_lt
    refine za rfl rfl (zM (k := 0) rfl rfl Tryz.runUnderlying9 (by first | rfl | omega) hu1) (za rfl rfl (zcd rfl rfl rfl) (zg rfl (ze ?_)))
    refine zl _ _ rfl rfl rfl rfl (fun hc3 => ?_) (fun hc3 => ?_)
    · replace hc3 := of_decide_eq_true hc3
      refine zf _ _ rfl rfl rfl (zb rfl (za rfl rfl (zc rfl) (za rfl rfl (zM (k := 0) rfl rfl Tryz.runUnderlying9 (by first | rfl | omega) hu1) (zj rfl rfl (zx [.bx g1 135 (.agg [.v pv, .ov ov]), .sl ov 1 5 (bs.map dU8)] [] [] rfl rfl (.cons ArgC.id (.cons ArgC.id .nil)) zp Tryz.call106 (zbz g1 pv ov bs u1 hp (by (try simp only [la, lc, ln]); omega)) (.inl rfl)) ?_))))
      rintro _ _ ⟨_, ⟨bv4, rfl, rfl⟩, rfl⟩
      refine OpsD.norm [.bx g1 135 (.agg [dP g1 0, .ov bv4]), .sl bv4 1 5 ((bs ++ [u1]).map dU8)] rfl (zg rfl (ze (zf _ _ rfl rfl rfl (zb rfl (za rfl rfl (zc rfl) (za rfl rfl (zV (a := 1) (c := r.size) rfl rfl rfl (by first | rfl | (show _ = _; omega)) (by first | rfl | (show _ = _; omega)) Tryz.runUnderlying9 (by omega) (by omega)) (za rfl rfl (zd rfl) (zg rfl (ze (zO rfl (zD (zw (PD.norm [.bx g1 135 (.agg [dP g1 0, .ov bv4]), .sl bv4 1 5 ((bs ++ [u1]).map dU8)] rfl ?_)))))))))))))
      exact zZ (r.extract 1 r.size, .pointer (some ⟨g1, 0, none⟩), bv4, (bs ++ [u1])) ⟨sk rfl, sk rfl, sk rfl, trivial⟩ HSub.rfl' ⟨.inr rfl, hu.raw hu1 (u8_ne92 hc3), by simp only [ByteArray.size_extract]; omega, by simp only [la, lc, ln, len_toList, ByteArray.size_extract]; omega, by intro e; have := congrArg List.length e; simp only [la, lc, ln, len_toList] at this; omega⟩ (by simp only [ByteArray.size_extract]; omega)
    · replace hc3 := of_decide_eq_false hc3
      refine zy rfl (ze (zf _ _ rfl rfl rfl (zb rfl (za rfl rfl (zc rfl) (za rfl rfl (zV (a := 1) (c := r.size) rfl rfl rfl (by first | rfl | (show _ = _; omega)) (by first | rfl | (show _ = _; omega)) Tryz.runUnderlying9 (by omega) (by omega)) (zj rfl rfl (zx [] _ [] rfl rfl (.cons ArgC.id .nil) zp Tryz.call107 (escaped_c (r.extract 1 r.size) (by omega)) (.inl rfl)) ?_))))))
      rintro _ _ ⟨_, ⟨rfl, rfl⟩, rfl⟩
      refine OpsD.norm [.bx g1 135 (.agg [.v pv, .ov ov]), .sl ov 1 5 (bs.map dU8)] rfl (za rfl rfl (zc rfl) (za rfl rfl (zJ rfl rfl) (za rfl rfl (zJ rfl rfl) (za rfl rfl (zd rfl) (za rfl rfl (zd rfl) (zg rfl (ze (zf _ _ rfl rfl rfl (zf _ _ rfl rfl rfl (zb rfl (za rfl rfl (zc rfl) (za rfl rfl (zU rfl rfl rfl) (zg rfl (ze ?_))))))))))))))
      refine zl _ _ rfl rfl rfl rfl (fun hc5 => ?_) (fun hc5 => ?_)
      · replace hc5 := of_decide_eq_true hc5
        refine zf _ _ rfl rfl rfl (zb rfl (za rfl rfl (zd rfl) (za rfl rfl (zd rfl) (zg rfl (ze (zu rfl (zq (zn (zam (zn (zq ?_)))))))))))
        exact zk Tryz.results95 (.cons (zC (zo rfl) (((Cv.str (by first | decide | (unfold maxLen; omega)))).trans (Cv.eq (congrArg D.s (by have T := unq_n (hu.none (by rw [hu1, u8_92 (u := u1) (by have := hc3; omega)]) (by have := hc5; omega)); first | exact T.1 | exact T.2))))) (.cons (zC (zo rfl) (Cv.eq (congrArg (fun b => D.v (.bool b)) (by have T := unq_n (hu.none (by rw [hu1, u8_92 (u := u1) (by have := hc3; omega)]) (by have := hc5; omega)); first | exact T.1 | exact T.2)))) .nil)) rfl HSub.none ⟨rfl, rfl⟩
      · replace hc5 := of_decide_eq_false hc5
        obtain ⟨hes, hes1, hes2⟩ := escT_size (r.extract 1 r.size)
        have hex1 : (r.extract 1 r.size).size = r.size - 1 := by rw [ByteArray.size_extract]; omega
        refine zy rfl (ze (zf _ _ rfl rfl rfl (zb rfl (za rfl rfl (zc rfl) (zj rfl rfl (zx [.bx g1 135 (.agg [.v pv, .ov ov]), .sl ov 1 5 (bs.map dU8)] [] [] rfl rfl (.cons ArgC.id (.cons ArgC.id .nil)) zp Tryz.call108 (WriteString_c g1 pv ov bs (escT (r.extract 1 r.size)) hp (by (try simp only [la, lc, ln]); omega) (by first | decide | omega)) (.inl rfl)) ?_)))))
        rintro _ _ ⟨_, ⟨bv6, rfl, rfl⟩, rfl⟩
        refine OpsD.norm [.bx g1 135 (.agg [dP g1 0, .ov bv6]), .sl bv6 1 5 ((bs ++ (escT (r.extract 1 r.size)).data.toList).map dU8)] rfl (zg rfl (ze (zb rfl (za rfl rfl (zc rfl) (za rfl rfl (zc rfl) (za rfl rfl (z7 (c := ((1 + (escN (r.extract 1 r.size)) : Nat) : Int)) rfl rfl (zX (by omega) (by omega))) (za rfl rfl (zV (a := 1 + (escN (r.extract 1 r.size))) (c := r.size) rfl rfl rfl (by first | rfl | (show _ = _; omega)) (by first | rfl | (show _ = _; omega)) Tryz.runUnderlying9 (by omega) (by omega)) (za rfl rfl (zd rfl) (zg rfl (zG (PD.norm [.bx g1 135 (.agg [dP g1 0, .ov bv6]), .sl bv6 1 5 ((bs ++ (escT (r.extract 1 r.size)).data.toList).map dU8)] rfl ?_)))))))))))
        exact zZ (r.extract (1 + (escN (r.extract 1 r.size))) r.size, .pointer (some ⟨g1, 0, none⟩), bv6, (bs ++ (escT (r.extract 1 r.size)).data.toList)) ⟨sk rfl, sk rfl, sk rfl, trivial⟩ HSub.rfl' ⟨.inr rfl, hu.esc (by rw [hu1, u8_92 (u := u1) (by have := hc3; omega)]) (by have := hc5; omega), by simp only [ByteArray.size_extract]; omega, by simp only [la, lc, ln, len_toList, ByteArray.size_extract]; omega, by intro e; have := congrArg List.length e; simp only [la, lc, ln, len_toList] at this; omega⟩ (by simp only [ByteArray.size_extract]; omega)
  · replace hc2 := of_decide_eq_false hc2
    have hre : r = ByteArray.empty := Decidable.byContradiction hc2
    have htz := trimS_size ⟨bs.toArray⟩
    have hbz : (⟨bs.toArray⟩ : ByteArray).size = bs.length := zaH bs
    have hdn := hu.done hre
    have hne : bs ≠ [] := fun e => by have h1 := hn e; rw [hre] at h1; have h2 : (ByteArray.empty).size = 0 := rfl; have hts := trimP_size s; omega
    refine zO rfl (zD (zz (zw (ze (zf _ _ rfl rfl rfl (zb rfl (zj rfl rfl (zx [.bx g1 135 (.agg [.v pv, .ov ov]), .sl ov 1 5 (bs.map dU8)] [] [] rfl rfl (.cons ArgC.id .nil) zp Tryz.call110 (String_c g1 pv ov bs hne) (.inl rfl)) ?_)))))))
    rintro _ _ ⟨_, ⟨rfl, rfl⟩, rfl⟩
    refine OpsD.norm [] rfl (zj rfl rfl (zx [] _ [] rfl rfl (.cons ArgC.id (.cons ArgC.id .nil)) zp Tryz.call109 (trimS_c (⟨bs.toArray⟩)) (.inl rfl)) ?_)
    rintro _ _ ⟨_, ⟨rfl, rfl⟩, rfl⟩
    refine OpsD.norm [] rfl (za rfl rfl (zd rfl) (zg rfl (ze (zf _ _ rfl rfl rfl (zf _ _ rfl rfl rfl (zb rfl (za rfl rfl (zc rfl) (zj rfl rfl (zx [] _ [] rfl rfl (.cons ArgC.id .nil) zp Tryz.call111 (Quote_c (zb6 (⟨bs.toArray⟩)) (by omega)) (.inl rfl)) ?_))))))))
    rintro _ _ ⟨_, ⟨rfl, rfl⟩, rfl⟩
    refine OpsD.norm [] rfl (za rfl rfl (zc rfl) (za rfl rfl (zdG rfl rfl rfl) (zg rfl (ze (JD.keep [8, 40] [(8, .s (zb6 (⟨bs.toArray⟩))), (40, dB (decide ((zax (zb6 (⟨bs.toArray⟩))) ≠ s)))] rfl ?_)))))
    refine zl _ _ rfl rfl rfl rfl (fun hc7 => ?_) (fun hc7 => ?_)
    · replace hc7 := of_decide_eq_true hc7
      refine zf _ _ rfl rfl rfl (zb rfl (za rfl rfl (zd rfl) (za rfl rfl (zd rfl) (zg rfl (ze (zu rfl (zq ?_)))))))
      exact zk Tryz.results95 (.cons (zC (zo rfl) (((Cv.str (by first | decide | (unfold maxLen; omega)))).trans (Cv.eq (congrArg D.s (by have T := unq_f hdn (by simpa using hc7); first | exact T.1 | exact T.2))))) (.cons (zC (zo rfl) (Cv.eq (congrArg (fun b => D.v (.bool b)) (by have T := unq_f hdn (by simpa using hc7); first | exact T.1 | exact T.2)))) .nil)) rfl HSub.none ⟨rfl, rfl⟩
    · replace hc7 := of_decide_eq_false hc7
      refine zy rfl (ze (zf _ _ rfl rfl rfl (zb rfl (za rfl rfl (zc rfl) (za rfl rfl (zd rfl) (za rfl rfl (zd rfl) (zg rfl (ze (zu rfl ?_)))))))))
      exact zk Tryz.results95 (.cons (zC (zo rfl) (Cv.eq (congrArg D.s (by have T := unq_t (s := s) (o := bs) (by simpa using hc7); first | exact T.1 | exact T.2)))) (.cons (zC (zo rfl) (Cv.eq (congrArg (fun b => D.v (.bool b)) (by have T := unq_t (s := s) (o := bs) (by simpa using hc7); first | exact T.1 | exact T.2)))) .nil)) rfl HSub.none ⟨rfl, rfl⟩
end Lp
