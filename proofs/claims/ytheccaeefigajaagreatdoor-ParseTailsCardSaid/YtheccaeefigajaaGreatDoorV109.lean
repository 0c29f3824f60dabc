/- Walks, printed by a program of mine. -/
import Derived.Test.YtheccaeefigajaaGreatDoorPSame8b
set_option linter.unusedSimpArgs false
set_option linter.unusedVariables false
set_option maxHeartbeats 4000000
set_option maxRecDepth 100000
namespace Lp
open Go Go.RowKit Go.Proofs

namespace HdYtheccaeefigajaaGreatDoorV109
theorem cv_3_5 {a : Int} (h : 0 ≤ a ∧ a ≤ 255) : ∀ w, (convert 3 5 (.int .i64 a)).run Tryz.prog w = .ok (.int .u8 a) w := fun w => by
  have e : IntKind.u8.wrap a = a := by simp [IntKind.wrap, IntKind.bits, IntKind.signed]; omega
  simp [convert, run_underlying (show Tryz.prog.underlying 3 = some _ by kernel_rfl), run_underlying (show Tryz.prog.underlying 5 = some _ by kernel_rfl), Conv.intToInt, e]
theorem zaB (b o : Nat) : ∀ w, (Instr.fieldAt 27 (.pointer (some ⟨b, o, none⟩)) 0).run Tryz.prog w = .ok (.pointer (some ⟨b, o + 0, none⟩)) w := fun _ => by kernel_rfl
theorem zaF (b o : Nat) : ∀ w, (Instr.fieldAt 27 (.pointer (some ⟨b, o, none⟩)) 1).run Tryz.prog w = .ok (.pointer (some ⟨b, o + 1, none⟩)) w := fun _ => by kernel_rfl
theorem zaU (b o : Nat) : ∀ w, (Instr.fieldAt 27 (.pointer (some ⟨b, o, none⟩)) 2).run Tryz.prog w = .ok (.pointer (some ⟨b, o + 2, none⟩)) w := fun _ => by kernel_rfl
theorem zbI (b o : Nat) : ∀ w, (Instr.fieldAt 27 (.pointer (some ⟨b, o, none⟩)) 3).run Tryz.prog w = .ok (.pointer (some ⟨b, o + 3, none⟩)) w := fun _ => by kernel_rfl
theorem zci (b o : Nat) : ∀ w, (Instr.fieldAt 27 (.pointer (some ⟨b, o, none⟩)) 4).run Tryz.prog w = .ok (.pointer (some ⟨b, o + 4, none⟩)) w := fun _ => by kernel_rfl
theorem zcV (b o : Nat) : ∀ w, (Instr.fieldAt 27 (.pointer (some ⟨b, o, none⟩)) 5).run Tryz.prog w = .ok (.pointer (some ⟨b, o + 5, none⟩)) w := fun _ => by kernel_rfl
theorem zbH (b o : Nat) : ∀ w, (Instr.fieldAt 27 (.pointer (some ⟨b, o, none⟩)) 6).run Tryz.prog w = .ok (.pointer (some ⟨b, o + 6, none⟩)) w := fun _ => by kernel_rfl
theorem zbi : Tryz.prog.underlying 103 = some (.slice 5) := by kernel_rfl
end HdYtheccaeefigajaaGreatDoorV109
open HdYtheccaeefigajaaGreatDoorV109

theorem Digits_c (v : Nat) (hv : v ≤ 9223372036854775807) :
    CD Tryz.prog 26 [] [dN v] (isR (.s (digB v))) := by
  refine zq Tryz.func26 rfl (N := 31) rfl rfl (fun C => ?_)
  refine jk [0] rfl (jT rfl (oR 1 rfl (oZ rfl (jT rfl (oR 3 rfl (oZ rfl (jS rfl (jT rfl (oR 1 rfl (oP rfl (zaA rfl rfl rfl) (oZ rfl ?_)))))))))))
  refine jD rfl (fun hc1 => ?_) (fun hc1 => ?_)
  · skip
    exfalso; omega
  · skip
    refine zr rfl (zo (jS rfl (jB rfl (jl2 (fun (a_ : Nat) (b_ : ByteArray) => [(0, dN v), (2, .v (.string ByteArray.empty)), (4, dN a_), (3, .s b_)]) (fun a_ b_ => []) (fun a_ b_ => (DigI v a_ b_) ∧ (2 * b_.size ≤ v + 4 ∧ (a_ = 0 ∨ 2 * b_.size + a_ ≤ v + 2))) (fun a_ b_ => 2 * a_ + (1 - b_.size)) v ByteArray.empty rfl ⟨sk rfl, sk rfl, sk rfl, sc rfl (Cv.str (by decide)), trivial⟩ HSub.rfl' ⟨DigI.zero, by show 2 * 0 ≤ _ ∧ (_ ∨ 2 * 0 + _ ≤ _); omega⟩ ?_))))
    rintro n o ⟨hI, hz⟩
    refine ja rfl (jn rfl (jS rfl (jS rfl (jk [0, 2, 3, 4] rfl ?_))))
    refine zT 15 ((decide ((0 : Int) < ((n : Nat) : Int)) || decide (o = ByteArray.empty))) [] (fun _ hQ2 => ?_) ?_
    · skip
      by_cases hg3 : (0 : Int) < ((n : Nat) : Int)
      · skip
        refine zf rfl (oR 1 rfl (oP rfl (zal rfl rfl (decide_eq_true hg3)) (oR 4 rfl (zp rfl ?_))))
        exact PD.sub ((15, dB (decide ((0 : Int) < ((n : Nat) : Int)) || decide (o = ByteArray.empty))) :: [(0, dN v), (2, .v (.string ByteArray.empty)), (3, .s o), (4, dN n)]) ⟨sc rfl (Cv.eq (congrArg (fun b => D.v (.bool b)) (by first | (simp [hg3]; done) | (simp_all; done) | (simp_all; exact Iff.rfl)))), sk rfl, sk rfl, sk rfl, sk rfl, trivial⟩ hQ2
      · skip
        refine zf rfl (oR 1 rfl (oP rfl (zal rfl rfl (decide_eq_false hg3)) (oR 2 rfl (oG rfl (zat rfl rfl rfl) (oR 1 rfl (zp rfl ?_))))))
        exact PD.sub ((15, dB (decide ((0 : Int) < ((n : Nat) : Int)) || decide (o = ByteArray.empty))) :: [(0, dN v), (2, .v (.string ByteArray.empty)), (3, .s o), (4, dN n)]) ⟨sc rfl (Cv.eq (congrArg (fun b => D.v (.bool b)) (by first | (simp [hg3]; done) | (simp_all; done) | (simp_all; exact Iff.rfl)))), sk rfl, sk rfl, sk rfl, sk rfl, trivial⟩ hQ2
    · skip
      refine zo ?_
      refine jC rfl (fun hc4 => ?_) (fun hc4 => ?_)
      · simp only [bA, bB, bC, bD, bE, bF, bG, bH, bI, bJ] at hc4
        refine zr rfl (zo (jB rfl (jT rfl (oR 1 rfl (oP rfl (p_rem (c := ((n % 10 : Nat) : Int)) rfl rfl (by omega) (by rw [Int.tmod_eq_emod_of_nonneg (by omega)]; omega)) (oP rfl (zb1 (c := ((48 + (n % 10) : Nat) : Int)) rfl rfl (zaZ (by omega) (by omega))) (oP rfl (zaY rfl (c := ((48 + (n % 10) : Nat) : Int)) (cv_3_5 (by omega))) (oE rfl (zF [.tmp 19] rfl rfl (.cons (CellD.v rfl) .nil) rfl Tryz.runUnderlying103 Tryz.sizeOf5 Tryz.zeroValue5 rfl rfl rfl rfl) ?_))))))))
        rintro _ _ ⟨g5, rfl, rfl⟩
        refine oP rfl ((p_bytes (j := 0) (xs := [((48 + (n % 10) : Nat) : Int)]) rfl rfl (by simp) zbi (by kernel_rfl) (by kernel_rfl)).cv (Cv.str (by rw [strOfNums_size]; show 1 ≤ maxLen; decide))) (oR 1 rfl (oP rfl (zco rfl rfl (by unfold maxLen; (try simp only [ByteArray.size_append]); (try simp only [ByteArray.size_append, strOfNums_size]); have e1 : [((48 + (n % 10) : Nat) : Int)].length = 1 := rfl; omega)) (oR 1 rfl (oZ rfl (zf rfl (oR 1 rfl (oP rfl (p_quo (c := ((n / 10 : Nat) : Int)) rfl rfl (by omega) (zaZ (by rw [Int.tdiv_eq_ediv_of_nonneg (by omega)]; omega) (by omega))) (oR 1 rfl (zp rfl (zB ?_))))))))))
        exact pl2 (n / 10) ((⟨#[UInt8.ofNat (48 + n % 10)]⟩ : ByteArray) ++ o) ⟨sk rfl, sk rfl, sk rfl, sc rfl (Cv.eq (congrArg D.s (by rw [nums_one (by omega)]; rfl))), trivial⟩ HSub.none ⟨hI.next (by have h := hc4; rcases h with h | h; (exact .inl (by omega)); (exact .inr h)), by have ho : 0 < n ∨ o.size = 0 := (by have h := hc4; rcases h with h | h; (exact .inl (by omega)); (exact .inr (by rw [h]; rfl))); have h1 : (⟨#[UInt8.ofNat (48 + n % 10)]⟩ : ByteArray).size = 1 := rfl; (try simp only [ByteArray.size_append]); omega⟩ (by have ho : 0 < n ∨ o.size = 0 := (by have h := hc4; rcases h with h | h; (exact .inl (by omega)); (exact .inr (by rw [h]; rfl))); have h1 : (⟨#[UInt8.ofNat (48 + n % 10)]⟩ : ByteArray).size = 1 := rfl; show _ < _; simp only [ByteArray.size_append]; omega)
      · simp only [bA, bB, bC, bD, bE, bF, bG, bH, bI, bJ] at hc4
        refine zah rfl (zH (zE (zC (zo (jS rfl (jT rfl (oR 1 rfl (oP rfl (zaA rfl rfl rfl) (oZ rfl ?_)))))))))
        refine jD rfl (fun hc6 => ?_) (fun hc6 => ?_)
        · skip
          exfalso; omega
        · skip
          refine zr rfl (zo (jT rfl (oR 2 rfl (oZ rfl (zn rfl ?_)))))
          exact zi Tryz.results26 (.cons (zu (zm rfl) (Cv.eq (congrArg D.s (by have h := hc4; exact hI.done (by omega) h.2)))) .nil) rfl HSub.none ⟨rfl, rfl⟩

theorem Digits2_c (v : Int) (h0 : 0 ≤ v) (hv : v ≤ 9223372036854775807) : CD Tryz.prog 26 [] [dI v] (isR (.s (digB v.toNat))) := by
  obtain ⟨n, rfl⟩ := Int.eq_ofNat_of_zero_le h0
  exact Digits_c n (by omega)

theorem eqT_c (a b : List ByteArray)  :
    CD Tryz.prog 94 [] [.sh 1 (a.map D.s), .sh 1 (b.map D.s)] (isR (dB (decide (a = b)))) := by
  refine zq Tryz.func94 rfl (N := 26) rfl rfl (fun C => ?_)
  refine jk [0, 1] rfl ?_
  refine JD.bd 0 rfl (fun bd0 => ?_)
  have nl0 := zbN bd0
  refine JD.bd 1 rfl (fun bd1 => ?_)
  have nl1 := zbN bd1
  refine jT rfl (oR 1 rfl (oZ rfl (jS rfl (jT rfl (oR 1 rfl (oP rfl (zaV (n := a.length) rfl Tryz.runUnderlying23 (by simp only [lm, lc, ln])) (oR 1 rfl (oP rfl (zaV (n := b.length) rfl Tryz.runUnderlying23 (by simp only [lm, lc, ln])) (oP rfl (zbC rfl rfl rfl) (oZ rfl ?_))))))))))
  refine jD rfl (fun hc1 => ?_) (fun hc1 => ?_)
  · skip
    refine jT rfl (oR 1 rfl (oZ rfl (zn rfl (zj ?_))))
    exact zi Tryz.results94 (.cons (zu (zm rfl) (Cv.eq (congrArg (fun b => D.v (.bool b)) (by first | exact (decide_eq_false (fun e => by have e := congrArg List.length e; omega)).symm | exact (decide_eq_true (zdk (by omega) (by omega) hf)).symm)))) .nil) rfl HSub.none ⟨rfl, rfl⟩
  · skip
    refine zr rfl (zo (jS rfl (jT rfl (oR 1 rfl (oP rfl (zaV (n := a.length) rfl Tryz.runUnderlying23 (by simp only [lm, lc, ln])) (oR 1 rfl (oZ rfl (jB rfl (jl1 (fun (a_ : Nat) => [(0, .sh 1 (a.map D.s)), (1, .sh 1 (b.map D.s)), (12, dN a.length), (13, dN a_)]) (fun a_ => []) (fun a_ => (a_ ≤ a.length) ∧ (a.take a_ = b.take a_)) (fun a_ => a.length - a_) 0 rfl (sa rfl) HSub.rfl' ⟨Nat.zero_le _, rfl⟩ ?_)))))))))
    rintro k ⟨hk, hf⟩
    refine ja rfl (jn rfl (jT rfl (oP rfl (zaA rfl rfl rfl) (oZ rfl (jS rfl ?_)))))
    refine jD rfl (fun hc2 => ?_) (fun hc2 => ?_)
    · skip
      refine zr rfl (zo (jS rfl (jB rfl (jT rfl (oR 2 rfl (oZ rfl (jS rfl (jk [0, 1, 5, 12, 13, 14, 15] rfl (jn rfl ?_)))))))))
      obtain ⟨x1, hx1⟩ := zaq a k (by omega)
      obtain ⟨x2, hx2⟩ := zaq b k (by omega)
      refine zch 8 [(16, .sh 1 (a.map D.s), none), (17, dN k, none), (18, .el (.s x1) 0, none), (19, .s x1, none), (20, .sh 1 (b.map D.s), none), (21, dN k, none), (22, .el (.s x2) 0, none), (23, .s x2, none)] [] (Hn := []) mixed rfl rfl rfl rfl HSub.rfl' rfl ⟨sa_p rfl rfl rfl (zag rfl), sa_p rfl rfl rfl (zag rfl), sa_p rfl rfl rfl (zK (k := k) rfl rfl Tryz.runUnderlying23 Tryz.sizeOf9 (by first | rfl | omega) (zan hx1)), sa_p rfl rfl rfl (zav rfl Tryz.isAgg9 rfl), sa_p rfl rfl rfl (zag rfl), sa_p rfl rfl rfl (zag rfl), sa_p rfl rfl rfl (zK (k := k) rfl rfl Tryz.runUnderlying23 Tryz.sizeOf9 (by first | rfl | omega) (zan hx2)), sa_p rfl rfl rfl (zav rfl Tryz.isAgg9 rfl), trivial⟩ (ok [0, 1, 5, 12, 13, 14, 15, 16, 17, 18, 19, 20, 21, 22, 23] rfl (oP rfl (p_nes rfl rfl rfl) (oZ rfl ?_)))
      refine jD rfl (fun hc3 => ?_) (fun hc3 => ?_)
      · skip
        refine jT rfl (oR 1 rfl (oZ rfl (zn rfl (zk (zj (zX (zk (zj ?_))))))))
        exact zi Tryz.results94 (.cons (zu (zm rfl) (Cv.eq (congrArg (fun b => D.v (.bool b)) (by first | exact (decide_eq_false (fun e => by have e := congrArg List.length e; omega)).symm | exact (decide_eq_false (tk_ne hx1 hx2 (by simpa using hc3))).symm | exact (decide_eq_true (zdk (by omega) (by omega) hf)).symm)))) .nil) rfl HSub.none ⟨rfl, rfl⟩
      · skip
        refine zr rfl (zB (zo (zf rfl (oP rfl (zb1 (c := ((k + 1 : Nat) : Int)) rfl rfl (zaZ (by omega) (by omega))) (oR 1 rfl (zp rfl ?_))))))
        exact pl1 (k + 1) (sa rfl) HSub.rfl' ⟨by omega, tk_go hx1 hx2 hf (by simpa using hc3)⟩ (by omega)
    · skip
      refine zah rfl (zH (zE (zC (zo (jT rfl (oR 1 rfl (oZ rfl (zn rfl ?_))))))))
      exact zi Tryz.results94 (.cons (zu (zm rfl) (Cv.eq (congrArg (fun b => D.v (.bool b)) (by first | exact (decide_eq_false (fun e => by have e := congrArg List.length e; omega)).symm | exact (decide_eq_true (zdk (by omega) (by omega) hf)).symm)))) .nil) rfl HSub.none ⟨rfl, rfl⟩

theorem eqM_c (a b : List MatD)  :
    CD Tryz.prog 95 [] [.sh 3 (a.map MatD.d), .sh 3 (b.map MatD.d)] (isR (dB (decide (a = b)))) := by
  refine zq Tryz.func95 rfl (N := 26) rfl rfl (fun C => ?_)
  refine jk [0, 1] rfl ?_
  refine JD.bd 0 rfl (fun bd0 => ?_)
  have nl0 := zbN bd0
  refine JD.bd 1 rfl (fun bd1 => ?_)
  have nl1 := zbN bd1
  refine jT rfl (oR 1 rfl (oZ rfl (jS rfl (jT rfl (oR 1 rfl (oP rfl (zaV (n := a.length) rfl Tryz.runUnderlying24 (by simp only [lm, lc, ln])) (oR 1 rfl (oP rfl (zaV (n := b.length) rfl Tryz.runUnderlying24 (by simp only [lm, lc, ln])) (oP rfl (zbC rfl rfl rfl) (oZ rfl ?_))))))))))
  refine jD rfl (fun hc1 => ?_) (fun hc1 => ?_)
  · skip
    refine jT rfl (oR 1 rfl (oZ rfl (zn rfl (zj ?_))))
    exact zi Tryz.results95 (.cons (zu (zm rfl) (Cv.eq (congrArg (fun b => D.v (.bool b)) (by first | exact (decide_eq_false (fun e => by have e := congrArg List.length e; omega)).symm | exact (decide_eq_true (zdk (by omega) (by omega) hf)).symm)))) .nil) rfl HSub.none ⟨rfl, rfl⟩
  · skip
    refine zr rfl (zo (jS rfl (jT rfl (oR 1 rfl (oP rfl (zaV (n := a.length) rfl Tryz.runUnderlying24 (by simp only [lm, lc, ln])) (oR 1 rfl (oZ rfl (jB rfl (jl1 (fun (a_ : Nat) => [(0, .sh 3 (a.map MatD.d)), (1, .sh 3 (b.map MatD.d)), (12, dN a.length), (13, dN a_)]) (fun a_ => []) (fun a_ => (a_ ≤ a.length) ∧ (a.take a_ = b.take a_)) (fun a_ => a.length - a_) 0 rfl (sa rfl) HSub.rfl' ⟨Nat.zero_le _, rfl⟩ ?_)))))))))
    rintro k ⟨hk, hf⟩
    refine ja rfl (jn rfl (jT rfl (oP rfl (zaA rfl rfl rfl) (oZ rfl (jS rfl ?_)))))
    refine jD rfl (fun hc2 => ?_) (fun hc2 => ?_)
    · skip
      refine zr rfl (zo (jS rfl (jB rfl (jT rfl (oR 2 rfl (oZ rfl (jS rfl (jk [0, 1, 5, 12, 13, 14, 15] rfl (jn rfl ?_)))))))))
      obtain ⟨x1, hx1⟩ := zaq a k (by omega)
      obtain ⟨x2, hx2⟩ := zaq b k (by omega)
      refine zch 8 [(16, .sh 3 (a.map MatD.d), none), (17, dN k, none), (18, .el (MatD.d x1) 0, none), (19, MatD.d x1, none), (20, .sh 3 (b.map MatD.d), none), (21, dN k, none), (22, .el (MatD.d x2) 0, none), (23, MatD.d x2, none)] [] (Hn := []) mixed rfl rfl rfl rfl HSub.rfl' rfl ⟨sa_p rfl rfl rfl (zag rfl), sa_p rfl rfl rfl (zag rfl), sa_p rfl rfl rfl (zK (k := k) rfl rfl Tryz.runUnderlying24 Tryz.sizeOf65 (by first | rfl | omega) (zan hx1)), sa_p rfl rfl rfl (zbv (d := MatD.d x1) rfl Tryz.isAgg65 Tryz.sizeOf65 rfl rfl), sa_p rfl rfl rfl (zag rfl), sa_p rfl rfl rfl (zag rfl), sa_p rfl rfl rfl (zK (k := k) rfl rfl Tryz.runUnderlying24 Tryz.sizeOf65 (by first | rfl | omega) (zan hx2)), sa_p rfl rfl rfl (zbv (d := MatD.d x2) rfl Tryz.isAgg65 Tryz.sizeOf65 rfl rfl), trivial⟩ (ok [0, 1, 5, 12, 13, 14, 15, 16, 17, 18, 19, 20, 21, 22, 23] rfl (oP rfl (p_eqmat_neq (dx := MatD.d x1) (dy := MatD.d x2) (a := x1) (b := x2) rfl (Cv.rfl') rfl (Cv.rfl') rfl) (oZ rfl ?_)))
      refine jD rfl (fun hc3 => ?_) (fun hc3 => ?_)
      · skip
        refine jT rfl (oR 1 rfl (oZ rfl (zn rfl (zk (zj (zX (zk (zj ?_))))))))
        exact zi Tryz.results95 (.cons (zu (zm rfl) (Cv.eq (congrArg (fun b => D.v (.bool b)) (by first | exact (decide_eq_false (fun e => by have e := congrArg List.length e; omega)).symm | exact (decide_eq_false (tk_ne hx1 hx2 (by simpa using hc3))).symm | exact (decide_eq_true (zdk (by omega) (by omega) hf)).symm)))) .nil) rfl HSub.none ⟨rfl, rfl⟩
      · skip
        refine zr rfl (zB (zo (zf rfl (oP rfl (zb1 (c := ((k + 1 : Nat) : Int)) rfl rfl (zaZ (by omega) (by omega))) (oR 1 rfl (zp rfl ?_))))))
        exact pl1 (k + 1) (sa rfl) HSub.rfl' ⟨by omega, tk_go hx1 hx2 hf (by simpa using hc3)⟩ (by omega)
    · skip
      refine zah rfl (zH (zE (zC (zo (jT rfl (oR 1 rfl (oZ rfl (zn rfl ?_))))))))
      exact zi Tryz.results95 (.cons (zu (zm rfl) (Cv.eq (congrArg (fun b => D.v (.bool b)) (by first | exact (decide_eq_false (fun e => by have e := congrArg List.length e; omega)).symm | exact (decide_eq_true (zdk (by omega) (by omega) hf)).symm)))) .nil) rfl HSub.none ⟨rfl, rfl⟩

theorem eqF_s (xg yg : List Nd) (ih : ∀ x ∈ xg, ∀ y : Nd, CD Tryz.prog 31 [] [Nd.d x, Nd.d y] (isR (dB (x.eqB y)))) :
    CD Tryz.prog 96 [] [.sh 7 (xg.map Nd.d), .sh 7 (yg.map Nd.d), .fn 31 [] []] (isR (dB (zc8 xg yg))) := by
  refine zq Tryz.func96 rfl (N := 32) rfl rfl (fun C => ?_)
  refine jk [0, 1, 2] rfl ?_
  refine JD.bd 0 rfl (fun bd0 => ?_)
  have nl0 := zbN bd0
  refine JD.bd 1 rfl (fun bd1 => ?_)
  have nl1 := zbN bd1
  refine jT rfl (oR 1 rfl (oZ rfl (jS rfl (jT rfl (oR 1 rfl (oP rfl (zaV (n := xg.length) rfl Tryz.runUnderlying25 (by simp only [lm, lc, ln])) (oR 1 rfl (oP rfl (zaV (n := yg.length) rfl Tryz.runUnderlying25 (by simp only [lm, lc, ln])) (oP rfl (zbC rfl rfl rfl) (oZ rfl ?_))))))))))
  refine jD rfl (fun hc1 => ?_) (fun hc1 => ?_)
  · skip
    refine jT rfl (oR 1 rfl (oZ rfl (zn rfl (zj ?_))))
    exact zi Tryz.results96 (.cons (zu (zm rfl) (Cv.eq (congrArg (fun b => D.v (.bool b)) (by first | exact listB_f (fun e => by have e := congrArg List.length e; omega) | exact listB_t (zdk (by omega) (by omega) hf))))) .nil) rfl HSub.none ⟨rfl, rfl⟩
  · skip
    refine zr rfl (zo (jS rfl (jT rfl (oR 1 rfl (oP rfl (zaV (n := xg.length) rfl Tryz.runUnderlying25 (by simp only [lm, lc, ln])) (oR 1 rfl (oZ rfl (jB rfl (jl1 (fun (a_ : Nat) => [(1, .sh 7 (yg.map Nd.d)), (2, .fn 31 [] []), (15, .sh 7 (xg.map Nd.d)), (16, dN xg.length), (17, dN a_)]) (fun a_ => []) (fun a_ => (a_ ≤ xg.length) ∧ (xg.take a_ = yg.take a_)) (fun a_ => xg.length - a_) 0 rfl (sa rfl) HSub.rfl' ⟨Nat.zero_le _, rfl⟩ ?_)))))))))
    rintro k ⟨hk, hf⟩
    refine ja rfl (jn rfl (jT rfl (oP rfl (zaA rfl rfl rfl) (oZ rfl (jS rfl ?_)))))
    refine jD rfl (fun hc2 => ?_) (fun hc2 => ?_)
    · skip
      refine zr rfl (zo (jS rfl (jB rfl (jT rfl (oR 1 rfl ?_)))))
      obtain ⟨x1, hx1⟩ := zaq xg k (by omega)
      obtain ⟨kax1, kbx1, kcx1, kdx1, kex1, kfx1, kgx1⟩ := x1
      refine oP rfl (zK (k := k) rfl rfl Tryz.runUnderlying25 Tryz.sizeOf27 (by first | rfl | omega) (zan hx1)) (oP rfl (zbv (d := .agg [.s kax1, .s kbx1, dI kcx1, dI kdx1, .sh 1 (kex1.map D.s), .sh 3 (kfx1.map MatD.d), .sh 7 (Nd.ds kgx1)]) rfl Tryz.isAgg27 Tryz.sizeOf27 rfl rfl) (oE rfl (zx (zv := (.agg #[(.string ByteArray.empty), (.string ByteArray.empty), (.int .i64 0), (.int .i64 0), (.slice none 0 0), (.slice none 0 0), (.slice none 0 0)])) Tryz.zeroValue27 ⟨rfl, rfl, rfl, rfl, rfl, rfl, rfl, trivial⟩ (Cv.vagg (by decide))) ?_))
      rintro _ _ ⟨g3, rfl, rfl⟩
      refine oR 1 rfl (oE rfl (zg (i := 0) (X' := .agg [.s kax1, .s kbx1, dI kcx1, dI kdx1, .sh 1 (kex1.map D.s), .sh 3 (kfx1.map MatD.d), .sh 7 (Nd.ds kgx1)]) rfl rfl rfl (CellD.agg) Tryz.sizeOf27 rfl rfl rfl) ?_)
      rintro _ _ ⟨rfl, rfl⟩
      refine on rfl (oZ rfl (jT rfl (oR 2 rfl ?_)))
      obtain ⟨x2, hx2⟩ := zaq yg k (by omega)
      obtain ⟨kax2, kbx2, kcx2, kdx2, kex2, kfx2, kgx2⟩ := x2
      refine oP rfl (zK (k := k) rfl rfl Tryz.runUnderlying25 Tryz.sizeOf27 (by first | rfl | omega) (zan hx2)) (oP rfl (zbv (d := .agg [.s kax2, .s kbx2, dI kcx2, dI kdx2, .sh 1 (kex2.map D.s), .sh 3 (kfx2.map MatD.d), .sh 7 (Nd.ds kgx2)]) rfl Tryz.isAgg27 Tryz.sizeOf27 rfl rfl) (oE rfl (zx (zv := (.agg #[(.string ByteArray.empty), (.string ByteArray.empty), (.int .i64 0), (.int .i64 0), (.slice none 0 0), (.slice none 0 0), (.slice none 0 0)])) Tryz.zeroValue27 ⟨rfl, rfl, rfl, rfl, rfl, rfl, rfl, trivial⟩ (Cv.vagg (by decide))) ?_))
      rintro _ _ ⟨g4, rfl, rfl⟩
      refine oE rfl (zg (i := 0) (X' := .agg [.s kax2, .s kbx2, dI kcx2, dI kdx2, .sh 1 (kex2.map D.s), .sh 3 (kfx2.map MatD.d), .sh 7 (Nd.ds kgx2)]) rfl rfl rfl (CellD.agg) Tryz.sizeOf27 rfl rfl rfl) ?_
      rintro _ _ ⟨rfl, rfl⟩
      refine on rfl (oZ rfl (jT rfl (oR 1 rfl (oP rfl (zy (d := .agg [.s kax1, .s kbx1, dI kcx1, dI kdx1, .sh 1 (kex1.map D.s), .sh 3 (kfx1.map MatD.d), .sh 7 (Nd.ds kgx1)]) rfl (i := 1) rfl Tryz.isAgg27 Tryz.sizeOf27 rfl rfl) (oP rfl (zy (d := .agg [.s kax2, .s kbx2, dI kcx2, dI kdx2, .sh 1 (kex2.map D.s), .sh 3 (kfx2.map MatD.d), .sh 7 (Nd.ds kgx2)]) rfl (i := 0) rfl Tryz.isAgg27 Tryz.sizeOf27 rfl rfl) (oE rfl (ef_callv [] [.bx g4 27 (.agg [.s kax2, .s kbx2, dI kcx2, dI kdx2, .sh 1 (kex2.map D.s), .sh 3 (kfx2.map MatD.d), .sh 7 (Nd.ds kgx2)]), .bx g3 27 (.agg [.s kax1, .s kbx1, dI kcx1, dI kdx1, .sh 1 (kex1.map D.s), .sh 3 (kfx1.map MatD.d), .sh 7 (Nd.ds kgx1)])] [] rfl rfl rfl (.cons ArgC.id (.cons ArgC.id .nil)) zh Tryz.call31 (ih (Nd.mk kax1 kbx1 kcx1 kdx1 kex1 kfx1 kgx1) (List.mem_of_getElem? hx1) (Nd.mk kax2 kbx2 kcx2 kdx2 kex2 kfx2 kgx2)) (.inl rfl)) ?_))))))
      rintro _ _ ⟨_, ⟨rfl, rfl⟩, rfl⟩
      refine on rfl (oP rfl (zbc rfl) (oZ rfl ?_))
      refine jC rfl (fun hc5 => ?_) (fun hc5 => ?_)
      · simp only [bA, bB, bC, bD, bE, bF, bG, bH, bI, bJ] at hc5
        refine jT rfl (oR 1 rfl (oZ rfl (zn rfl (zk (zj (zX (zk (zj ?_))))))))
        exact zi Tryz.results96 (.cons (zu (zm rfl) (Cv.eq (congrArg (fun b => D.v (.bool b)) (by first | exact listB_f (fun e => by have e := congrArg List.length e; omega) | exact listB_f (tk_ne hx1 hx2 (eqB_no.1 (by simpa using hc5))) | exact listB_t (zdk (by omega) (by omega) hf))))) .nil) rfl HSub.none ⟨rfl, rfl⟩
      · simp only [bA, bB, bC, bD, bE, bF, bG, bH, bI, bJ] at hc5
        refine zr rfl (zB (zo (zf rfl (oP rfl (zb1 (c := ((k + 1 : Nat) : Int)) rfl rfl (zaZ (by omega) (by omega))) (oR 1 rfl (zp rfl ?_))))))
        exact pl1 (k + 1) (sa rfl) HSub.none ⟨by omega, tk_go hx1 hx2 hf (eqB_is.1 (by simpa using hc5))⟩ (by omega)
    · skip
      refine zah rfl (zH (zE (zC (zo (jT rfl (oR 1 rfl (oZ rfl (zn rfl ?_))))))))
      exact zi Tryz.results96 (.cons (zu (zm rfl) (Cv.eq (congrArg (fun b => D.v (.bool b)) (by first | exact listB_f (fun e => by have e := congrArg List.length e; omega) | exact listB_t (zdk (by omega) (by omega) hf))))) .nil) rfl HSub.none ⟨rfl, rfl⟩

theorem pSame_s (xa xb : ByteArray) (xc xd : Int) (xe : List ByteArray) (xf : List MatD) (xg : List Nd) (ya yb : ByteArray) (yc yd : Int) (ye : List ByteArray) (yf : List MatD) (yg : List Nd) (ih : ∀ x ∈ xg, ∀ y : Nd, CD Tryz.prog 31 [] [Nd.d x, Nd.d y] (isR (dB (x.eqB y)))) :
    CD Tryz.prog 31 [] [.agg [.s xa, .s xb, dI xc, dI xd, .sh 1 (xe.map D.s), .sh 3 (xf.map MatD.d), .sh 7 (xg.map Nd.d)], .agg [.s ya, .s yb, dI yc, dI yd, .sh 1 (ye.map D.s), .sh 3 (yf.map MatD.d), .sh 7 (yg.map Nd.d)]] (isR (dB ((Nd.mk xa xb xc xd xe xf xg).eqB (Nd.mk ya yb yc yd ye yf yg)))) := by
  refine zq Tryz.func31 rfl (N := 52) rfl rfl (fun C => ?_)
  refine jk [0, 1] rfl ?_
  refine JD.bd 0 rfl (fun bd0 => ?_)
  refine JD.bd 1 rfl (fun bd1 => ?_)
  refine jT rfl (oE rfl (zbf rfl (CellD.agg)) ?_)
  rintro _ _ ⟨g1, rfl, rfl⟩
  refine oE rfl (zbf rfl (CellD.agg)) ?_
  rintro _ _ ⟨g2, rfl, rfl⟩
  refine oR 1 rfl (oZ rfl (jS rfl (jk [2, 3] rfl ?_)))
  refine zT 4 (((((((decide (xa = ya) && decide (xb = yb)) && decide (xc = yc)) && decide (xd = yd)) && decide (xe = ye)) && decide (xf = yf)) && (zc8 xg yg))) [.bx g2 27 (.agg [.s ya, .s yb, dI yc, dI yd, .sh 1 (ye.map D.s), .sh 3 (yf.map MatD.d), .sh 7 (yg.map Nd.d)]), .bx g1 27 (.agg [.s xa, .s xb, dI xc, dI xd, .sh 1 (xe.map D.s), .sh 3 (xf.map MatD.d), .sh 7 (xg.map Nd.d)])] (fun _ hQ3 => ?_) ?_
  · skip
    by_cases hg4 : xa = ya
    · skip
      by_cases hg5 : xb = yb
      · skip
        by_cases hg6 : xc = yc
        · skip
          by_cases hg7 : xd = yd
          · skip
            rcases Bool.eq_false_or_eq_true (decide (xe = ye)) with hg8 | hg8
            · skip
              rcases Bool.eq_false_or_eq_true (decide (xf = yf)) with hg9 | hg9
              · skip
                refine zf rfl (oP rfl (zd rfl zaB rfl) (oP rfl (ze rfl (i := 1) rfl Tryz.isAgg9 rfl) (oP rfl (zd rfl zaB rfl) (oP rfl (ze rfl (i := 0) rfl Tryz.isAgg9 rfl) (oP rfl (zat rfl rfl (decide_eq_true hg4)) (oR 1 rfl (oG rfl (zd rfl zaF rfl) (oG rfl (ze rfl (i := 1) rfl Tryz.isAgg9 rfl) (oG rfl (zd rfl zaF rfl) (oG rfl (ze rfl (i := 0) rfl Tryz.isAgg9 rfl) (oG rfl (zat rfl rfl (decide_eq_true hg5)) (oR 2 rfl (oG rfl (zd rfl zaU rfl) (oG rfl (ze rfl (i := 1) rfl Tryz.isAgg3 rfl) (oG rfl (zd rfl zaU rfl) (oG rfl (ze rfl (i := 0) rfl Tryz.isAgg3 rfl) (oG rfl (zA rfl rfl (decide_eq_true hg6)) (oR 2 rfl (oG rfl (zd rfl zbI rfl) (oG rfl (ze rfl (i := 1) rfl Tryz.isAgg3 rfl) (oG rfl (zd rfl zbI rfl) (oG rfl (ze rfl (i := 0) rfl Tryz.isAgg3 rfl) (oG rfl (zA rfl rfl (decide_eq_true hg7)) (oR 2 rfl (oG rfl (zd rfl zci rfl) (oG rfl (ze rfl (i := 1) rfl Tryz.isAgg23 rfl) (oG rfl (zd rfl zci rfl) (oG rfl (ze rfl (i := 0) rfl Tryz.isAgg23 rfl) (oV rfl rfl acs Tryz.call94 (eqT_c xe ye) (os 36 rfl (congrArg (fun b => D.v (.bool b)) hg8) (oR 2 rfl (oG rfl (zd rfl zcV rfl) (oG rfl (ze rfl (i := 1) rfl Tryz.isAgg24 rfl) (oG rfl (zd rfl zcV rfl) (oG rfl (ze rfl (i := 0) rfl Tryz.isAgg24 rfl) ?_)))))))))))))))))))))))))))))))))))
                refine oV rfl rfl acs Tryz.call95 (eqM_c xf yf) (os 43 rfl (congrArg (fun b => D.v (.bool b)) hg9) (oR 2 rfl (oG rfl (zd rfl zbH rfl) (oG rfl (ze rfl (i := 1) rfl Tryz.isAgg25 rfl) (oG rfl (zd rfl zbH rfl) (oG rfl (ze rfl (i := 0) rfl Tryz.isAgg25 rfl) (oF rfl (zl [] [.bx g2 27 (.agg [.s ya, .s yb, dI yc, dI yd, .sh 1 (ye.map D.s), .sh 3 (yf.map MatD.d), .sh 7 (yg.map Nd.d)]), .bx g1 27 (.agg [.s xa, .s xb, dI xc, dI xd, .sh 1 (xe.map D.s), .sh 3 (xf.map MatD.d), .sh 7 (xg.map Nd.d)])] [] rfl rfl (.cons ArgC.id (.cons ArgC.id (.cons ArgC.id .nil))) zh Tryz.call96 (eqF_s xg yg ih) (.inl rfl)) ?_)))))))
                rintro _ _ ⟨_, ⟨rfl, rfl⟩, rfl⟩
                refine on rfl (oR 2 rfl (zp rfl ?_))
                exact PD.sub ((4, dB ((((((decide (xa = ya) && decide (xb = yb)) && decide (xc = yc)) && decide (xd = yd)) && decide (xe = ye)) && decide (xf = yf)) && (zc8 xg yg))) :: [(2, dP g1 0), (3, dP g2 0)]) ⟨sc rfl (Cv.eq (congrArg (fun b => D.v (.bool b)) (by first | (simp [hg4, hg5, hg6, hg7, hg8, hg9]; done) | (simp_all; done)))), sk rfl, sk rfl, trivial⟩ hQ3
              · skip
                refine zf rfl (oP rfl (zd rfl zaB rfl) (oP rfl (ze rfl (i := 1) rfl Tryz.isAgg9 rfl) (oP rfl (zd rfl zaB rfl) (oP rfl (ze rfl (i := 0) rfl Tryz.isAgg9 rfl) (oP rfl (zat rfl rfl (decide_eq_true hg4)) (oR 1 rfl (oG rfl (zd rfl zaF rfl) (oG rfl (ze rfl (i := 1) rfl Tryz.isAgg9 rfl) (oG rfl (zd rfl zaF rfl) (oG rfl (ze rfl (i := 0) rfl Tryz.isAgg9 rfl) (oG rfl (zat rfl rfl (decide_eq_true hg5)) (oR 2 rfl (oG rfl (zd rfl zaU rfl) (oG rfl (ze rfl (i := 1) rfl Tryz.isAgg3 rfl) (oG rfl (zd rfl zaU rfl) (oG rfl (ze rfl (i := 0) rfl Tryz.isAgg3 rfl) (oG rfl (zA rfl rfl (decide_eq_true hg6)) (oR 2 rfl (oG rfl (zd rfl zbI rfl) (oG rfl (ze rfl (i := 1) rfl Tryz.isAgg3 rfl) (oG rfl (zd rfl zbI rfl) (oG rfl (ze rfl (i := 0) rfl Tryz.isAgg3 rfl) (oG rfl (zA rfl rfl (decide_eq_true hg7)) (oR 2 rfl (oG rfl (zd rfl zci rfl) (oG rfl (ze rfl (i := 1) rfl Tryz.isAgg23 rfl) (oG rfl (zd rfl zci rfl) (oG rfl (ze rfl (i := 0) rfl Tryz.isAgg23 rfl) (oV rfl rfl acs Tryz.call94 (eqT_c xe ye) (os 36 rfl (congrArg (fun b => D.v (.bool b)) hg8) (oR 2 rfl (oG rfl (zd rfl zcV rfl) (oG rfl (ze rfl (i := 1) rfl Tryz.isAgg24 rfl) (oG rfl (zd rfl zcV rfl) (oG rfl (ze rfl (i := 0) rfl Tryz.isAgg24 rfl) ?_)))))))))))))))))))))))))))))))))))
                refine oV rfl rfl acs Tryz.call95 (eqM_c xf yf) (os 43 rfl (congrArg (fun b => D.v (.bool b)) hg9) (oR 9 rfl (zp rfl ?_)))
                exact PD.sub ((4, dB ((((((decide (xa = ya) && decide (xb = yb)) && decide (xc = yc)) && decide (xd = yd)) && decide (xe = ye)) && decide (xf = yf)) && (zc8 xg yg))) :: [(2, dP g1 0), (3, dP g2 0)]) ⟨sc rfl (Cv.eq (congrArg (fun b => D.v (.bool b)) (by first | (simp [hg4, hg5, hg6, hg7, hg8, hg9]; done) | (simp_all; done)))), sk rfl, sk rfl, trivial⟩ hQ3
            · skip
              refine zf rfl (oP rfl (zd rfl zaB rfl) (oP rfl (ze rfl (i := 1) rfl Tryz.isAgg9 rfl) (oP rfl (zd rfl zaB rfl) (oP rfl (ze rfl (i := 0) rfl Tryz.isAgg9 rfl) (oP rfl (zat rfl rfl (decide_eq_true hg4)) (oR 1 rfl (oG rfl (zd rfl zaF rfl) (oG rfl (ze rfl (i := 1) rfl Tryz.isAgg9 rfl) (oG rfl (zd rfl zaF rfl) (oG rfl (ze rfl (i := 0) rfl Tryz.isAgg9 rfl) (oG rfl (zat rfl rfl (decide_eq_true hg5)) (oR 2 rfl (oG rfl (zd rfl zaU rfl) (oG rfl (ze rfl (i := 1) rfl Tryz.isAgg3 rfl) (oG rfl (zd rfl zaU rfl) (oG rfl (ze rfl (i := 0) rfl Tryz.isAgg3 rfl) (oG rfl (zA rfl rfl (decide_eq_true hg6)) (oR 2 rfl (oG rfl (zd rfl zbI rfl) (oG rfl (ze rfl (i := 1) rfl Tryz.isAgg3 rfl) (oG rfl (zd rfl zbI rfl) (oG rfl (ze rfl (i := 0) rfl Tryz.isAgg3 rfl) (oG rfl (zA rfl rfl (decide_eq_true hg7)) (oR 2 rfl (oG rfl (zd rfl zci rfl) (oG rfl (ze rfl (i := 1) rfl Tryz.isAgg23 rfl) (oG rfl (zd rfl zci rfl) (oG rfl (ze rfl (i := 0) rfl Tryz.isAgg23 rfl) (oV rfl rfl acs Tryz.call94 (eqT_c xe ye) (os 36 rfl (congrArg (fun b => D.v (.bool b)) hg8) (oR 16 rfl (zp rfl ?_))))))))))))))))))))))))))))))))
              exact PD.sub ((4, dB ((((((decide (xa = ya) && decide (xb = yb)) && decide (xc = yc)) && decide (xd = yd)) && decide (xe = ye)) && decide (xf = yf)) && (zc8 xg yg))) :: [(2, dP g1 0), (3, dP g2 0)]) ⟨sc rfl (Cv.eq (congrArg (fun b => D.v (.bool b)) (by first | (simp [hg4, hg5, hg6, hg7, hg8]; done) | (simp_all; done)))), sk rfl, sk rfl, trivial⟩ hQ3
          · skip
            refine zf rfl (oP rfl (zd rfl zaB rfl) (oP rfl (ze rfl (i := 1) rfl Tryz.isAgg9 rfl) (oP rfl (zd rfl zaB rfl) (oP rfl (ze rfl (i := 0) rfl Tryz.isAgg9 rfl) (oP rfl (zat rfl rfl (decide_eq_true hg4)) (oR 1 rfl (oG rfl (zd rfl zaF rfl) (oG rfl (ze rfl (i := 1) rfl Tryz.isAgg9 rfl) (oG rfl (zd rfl zaF rfl) (oG rfl (ze rfl (i := 0) rfl Tryz.isAgg9 rfl) (oG rfl (zat rfl rfl (decide_eq_true hg5)) (oR 2 rfl (oG rfl (zd rfl zaU rfl) (oG rfl (ze rfl (i := 1) rfl Tryz.isAgg3 rfl) (oG rfl (zd rfl zaU rfl) (oG rfl (ze rfl (i := 0) rfl Tryz.isAgg3 rfl) (oG rfl (zA rfl rfl (decide_eq_true hg6)) (oR 2 rfl (oG rfl (zd rfl zbI rfl) (oG rfl (ze rfl (i := 1) rfl Tryz.isAgg3 rfl) (oG rfl (zd rfl zbI rfl) (oG rfl (ze rfl (i := 0) rfl Tryz.isAgg3 rfl) (oG rfl (zA rfl rfl (decide_eq_false hg7)) (oR 23 rfl (zp rfl ?_)))))))))))))))))))))))))
            exact PD.sub ((4, dB ((((((decide (xa = ya) && decide (xb = yb)) && decide (xc = yc)) && decide (xd = yd)) && decide (xe = ye)) && decide (xf = yf)) && (zc8 xg yg))) :: [(2, dP g1 0), (3, dP g2 0)]) ⟨sc rfl (Cv.eq (congrArg (fun b => D.v (.bool b)) (by first | (simp [hg4, hg5, hg6, hg7]; done) | (simp_all; done)))), sk rfl, sk rfl, trivial⟩ hQ3
        · skip
          refine zf rfl (oP rfl (zd rfl zaB rfl) (oP rfl (ze rfl (i := 1) rfl Tryz.isAgg9 rfl) (oP rfl (zd rfl zaB rfl) (oP rfl (ze rfl (i := 0) rfl Tryz.isAgg9 rfl) (oP rfl (zat rfl rfl (decide_eq_true hg4)) (oR 1 rfl (oG rfl (zd rfl zaF rfl) (oG rfl (ze rfl (i := 1) rfl Tryz.isAgg9 rfl) (oG rfl (zd rfl zaF rfl) (oG rfl (ze rfl (i := 0) rfl Tryz.isAgg9 rfl) (oG rfl (zat rfl rfl (decide_eq_true hg5)) (oR 2 rfl (oG rfl (zd rfl zaU rfl) (oG rfl (ze rfl (i := 1) rfl Tryz.isAgg3 rfl) (oG rfl (zd rfl zaU rfl) (oG rfl (ze rfl (i := 0) rfl Tryz.isAgg3 rfl) (oG rfl (zA rfl rfl (decide_eq_false hg6)) (oR 30 rfl (zp rfl ?_)))))))))))))))))))
          exact PD.sub ((4, dB ((((((decide (xa = ya) && decide (xb = yb)) && decide (xc = yc)) && decide (xd = yd)) && decide (xe = ye)) && decide (xf = yf)) && (zc8 xg yg))) :: [(2, dP g1 0), (3, dP g2 0)]) ⟨sc rfl (Cv.eq (congrArg (fun b => D.v (.bool b)) (by first | (simp [hg4, hg5, hg6]; done) | (simp_all; done)))), sk rfl, sk rfl, trivial⟩ hQ3
      · skip
        refine zf rfl (oP rfl (zd rfl zaB rfl) (oP rfl (ze rfl (i := 1) rfl Tryz.isAgg9 rfl) (oP rfl (zd rfl zaB rfl) (oP rfl (ze rfl (i := 0) rfl Tryz.isAgg9 rfl) (oP rfl (zat rfl rfl (decide_eq_true hg4)) (oR 1 rfl (oG rfl (zd rfl zaF rfl) (oG rfl (ze rfl (i := 1) rfl Tryz.isAgg9 rfl) (oG rfl (zd rfl zaF rfl) (oG rfl (ze rfl (i := 0) rfl Tryz.isAgg9 rfl) (oG rfl (zat rfl rfl (decide_eq_false hg5)) (oR 37 rfl (zp rfl ?_)))))))))))))
        exact PD.sub ((4, dB ((((((decide (xa = ya) && decide (xb = yb)) && decide (xc = yc)) && decide (xd = yd)) && decide (xe = ye)) && decide (xf = yf)) && (zc8 xg yg))) :: [(2, dP g1 0), (3, dP g2 0)]) ⟨sc rfl (Cv.eq (congrArg (fun b => D.v (.bool b)) (by first | (simp [hg4, hg5]; done) | (simp_all; done)))), sk rfl, sk rfl, trivial⟩ hQ3
    · skip
      refine zf rfl (oP rfl (zd rfl zaB rfl) (oP rfl (ze rfl (i := 1) rfl Tryz.isAgg9 rfl) (oP rfl (zd rfl zaB rfl) (oP rfl (ze rfl (i := 0) rfl Tryz.isAgg9 rfl) (oP rfl (zat rfl rfl (decide_eq_false hg4)) (oR 43 rfl (zp rfl ?_)))))))
      exact PD.sub ((4, dB ((((((decide (xa = ya) && decide (xb = yb)) && decide (xc = yc)) && decide (xd = yd)) && decide (xe = ye)) && decide (xf = yf)) && (zc8 xg yg))) :: [(2, dP g1 0), (3, dP g2 0)]) ⟨sc rfl (Cv.eq (congrArg (fun b => D.v (.bool b)) (by first | (simp [hg4]; done) | (simp_all; done)))), sk rfl, sk rfl, trivial⟩ hQ3
  · skip
    refine zo (zn rfl ?_)
    exact zi Tryz.results31 (.cons (zu (zm rfl) (Cv.eq (congrArg (fun b => D.v (.bool b)) (by exact eqB_and)))) .nil) rfl HSub.none ⟨rfl, rfl⟩

theorem zdZ : ∀ a b : Nd, CD Tryz.prog 31 [] [Nd.d a, Nd.d b] (isR (dB (a.eqB b))) := Nd.ind (fun op text n mode names ms kids ih b => by
  obtain ⟨ya, yb, yc, yd, ye, yf, yg⟩ := b
  rw [Nd.d_mk, Nd.d_mk]
  exact pSame_s op text n mode names ms kids ya yb yc yd ye yf yg (fun x hx y => ih x hx y))
end Lp
