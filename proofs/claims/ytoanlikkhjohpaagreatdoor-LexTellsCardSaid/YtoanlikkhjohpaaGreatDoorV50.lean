/- Walks, printed by a program of mine. -/
import Derived.Test.YtoanlikkhjohpaaGreatDoorPRefW
set_option linter.unusedSimpArgs false
set_option linter.unusedVariables false
namespace Lp
open Go Go.RowKit Go.Proofs

namespace HdYtoanlikkhjohpaaGreatDoorV50
theorem zdw {a : Int} (h : 0 ≤ a ∧ a ≤ 255) : ∀ w, (convert 3 5 (.int .i64 a)).run Tryz.prog w = .ok (.int .u8 a) w := fun w => by
  have e : IntKind.u8.wrap a = a := by simp [IntKind.wrap, IntKind.bits, IntKind.signed]; omega
  simp [convert, run_underlying (show Tryz.prog.underlying 3 = some _ by kernel_rfl), run_underlying (show Tryz.prog.underlying 5 = some _ by kernel_rfl), Conv.intToInt, e]
theorem zaL : Tryz.prog.underlying 128 = some (.slice 5) := by kernel_rfl
end HdYtoanlikkhjohpaaGreatDoorV50
open HdYtoanlikkhjohpaaGreatDoorV50

set_option maxHeartbeats 4000000 in
set_option maxRecDepth 100000 in
theorem zbT (v : Nat) (hv : v ≤ 9223372036854775807) :
    CD Tryz.prog 98 [] [dN v] (isR (.s (digB v))) := by
  refine zH Tryz.func98 rfl (N := 31) rfl rfl (fun C => ?_)
  refine JD.keep [0] [(0, dN v)] rfl (zf _ _ rfl rfl rfl (zb rfl (za rfl rfl (zd rfl) (zg rfl (ze (zf _ _ rfl rfl rfl (zb rfl (za rfl rfl (zc rfl) (za rfl rfl (zd rfl) (za rfl rfl (zd rfl) (zg rfl (ze (zf _ _ rfl rfl rfl (zf _ _ rfl rfl rfl (zb rfl (za rfl rfl (zc rfl) (za rfl rfl (z1 rfl rfl rfl) (zg rfl (ze ?_)))))))))))))))))))
  refine zl _ _ rfl rfl rfl rfl (fun hc1 => ?_) (fun hc1 => ?_)
  · replace hc1 := of_decide_eq_true hc1
    exfalso; omega
  · replace hc1 := of_decide_eq_false hc1
    refine zy rfl (ze (zf _ _ rfl rfl rfl (zB _ rfl rfl (zS (fun (g : Nat × ByteArray) => [(0, dN v), (2, .v (.string ByteArray.empty)), (4, dN g.1), (3, .s g.2)]) (fun (g : Nat × ByteArray) => []) (fun (g : Nat × ByteArray) => (DigI v g.1 g.2) ∧ (2 * g.2.size ≤ v + 4 ∧ (g.1 = 0 ∨ 2 * g.2.size + g.1 ≤ v + 2))) (fun (g : Nat × ByteArray) => 2 * g.1 + (1 - g.2.size)) _ (v, ByteArray.empty) rfl rfl ⟨sk rfl, sk rfl, sk rfl, sc rfl (Cv.str (by decide)), trivial⟩ HSub.rfl' ⟨DigI.zero, by show 2 * 0 ≤ _ ∧ (_ ∨ 2 * 0 + _ ≤ _); omega⟩ ?_))))
    rintro ⟨n, o⟩ ⟨hI, hz⟩
    replace hI : DigI v n o := hI
    replace hz : 2 * o.size ≤ v + 4 ∧ (n = 0 ∨ 2 * o.size + n ≤ v + 2) := hz
    refine JD.keep [0, 2, 4, 3] [(0, dN v), (2, .v (.string ByteArray.empty)), (4, dN n), (3, .s o)] rfl (JD.norm [] rfl (zf _ _ rfl rfl rfl (zf _ _ rfl rfl rfl (JD.keep [0, 2, 3, 4] [(0, dN v), (2, .v (.string ByteArray.empty)), (3, .s o), (4, dN n)] rfl ?_))))
    refine zak 15 ((decide ((0 : Int) < ((n : Nat) : Int)) || decide (o = ByteArray.empty))) [] (fun _ hQ2 => ?_) ?_
    · skip
      by_cases hg3 : (0 : Int) < ((n : Nat) : Int)
      · skip
        refine zb rfl (za rfl rfl (zc rfl) (za rfl rfl (zaM rfl rfl (decide_eq_true hg3)) (za rfl rfl (zc rfl) (zi rfl rfl rfl rfl rfl (by decide) (zi rfl rfl rfl rfl rfl (by decide) (za rfl rfl (zr rfl rfl) (zg rfl ?_)))))))
        exact PD.sub ((15, dB (decide ((0 : Int) < ((n : Nat) : Int)) || decide (o = ByteArray.empty))) :: [(0, dN v), (2, .v (.string ByteArray.empty)), (3, .s o), (4, dN n)]) ⟨sc rfl (Cv.eq (congrArg (fun b => D.v (.bool b)) (by first | (simp [hg3]; done) | (simp_all; done) | (simp_all; exact Iff.rfl)))), sk rfl, sk rfl, sk rfl, sk rfl, trivial⟩ hQ2
      · skip
        refine zb rfl (za rfl rfl (zc rfl) (za rfl rfl (zaM rfl rfl (decide_eq_false hg3)) (za rfl rfl (zc rfl) (zh rfl rfl rfl rfl rfl (zc rfl) (zh rfl rfl rfl rfl rfl (zaD rfl rfl rfl) (za rfl rfl (zt rfl rfl) (zg rfl ?_)))))))
        exact PD.sub ((15, dB (decide ((0 : Int) < ((n : Nat) : Int)) || decide (o = ByteArray.empty))) :: [(0, dN v), (2, .v (.string ByteArray.empty)), (3, .s o), (4, dN n)]) ⟨sc rfl (Cv.eq (congrArg (fun b => D.v (.bool b)) (by first | (simp [hg3]; done) | (simp_all; done) | (simp_all; exact Iff.rfl)))), sk rfl, sk rfl, sk rfl, sk rfl, trivial⟩ hQ2
    · skip
      refine ze ?_
      refine zl _ _ rfl rfl rfl rfl (fun hc4 => ?_) (fun hc4 => ?_)
      · simp only [Bool.and_eq_true, Bool.or_eq_true, Bool.not_eq_true', Bool.not_eq_false', Bool.and_eq_false_iff, Bool.or_eq_false_iff, decide_eq_true_eq, decide_eq_false_iff_not, Decidable.not_not, ne_eq] at hc4
        refine zy rfl (ze (zB _ rfl rfl (zf _ _ rfl rfl rfl (zb rfl (za rfl rfl (zc rfl) (za rfl rfl (zdF (c := ((n % 10 : Nat) : Int)) rfl rfl (by omega) (by rw [Int.tmod_eq_emod_of_nonneg (by omega)]; omega)) (za rfl rfl (z7 (c := ((48 + (n % 10) : Nat) : Int)) rfl rfl (zX (by omega) (by omega))) (za rfl rfl (zaO rfl (c := ((48 + (n % 10) : Nat) : Int)) (zdw (by omega))) (zj rfl rfl (zac [.tmp 19] rfl rfl (.cons (CellD.v rfl) .nil) rfl Tryz.runUnderlying128 Tryz.sizeOf5 Tryz.zeroValue5 rfl rfl rfl rfl) ?_)))))))))
        rintro _ _ ⟨g5, rfl, rfl⟩
        refine za rfl rfl ((p_bytes (j := 0) (xs := [((48 + (n % 10) : Nat) : Int)]) rfl rfl (by simp) zaL (by kernel_rfl) (by kernel_rfl)).cv (Cv.str (by rw [strOfNums_size]; show 1 ≤ maxLen; decide))) (za rfl rfl (zc rfl) (za rfl rfl (zbX rfl rfl (by unfold maxLen; (try simp only [ByteArray.size_append]); (try simp only [ByteArray.size_append, strOfNums_size]); have e1 : [((48 + (n % 10) : Nat) : Int)].length = 1 := rfl; omega)) (za rfl rfl (zd rfl) (zg rfl (ze (zb rfl (za rfl rfl (zc rfl) (za rfl rfl (zcI (c := ((n / 10 : Nat) : Int)) rfl rfl (by omega) (zX (by rw [Int.tdiv_eq_ediv_of_nonneg (by omega)]; omega) (by omega))) (za rfl rfl (zd rfl) (zg rfl (zG ?_)))))))))))
        exact zZ (n / 10, (⟨#[UInt8.ofNat (48 + n % 10)]⟩ : ByteArray) ++ o) ⟨sk rfl, sk rfl, sk rfl, sc rfl (Cv.eq (congrArg D.s (by rw [nums_one (by omega)]; rfl))), trivial⟩ HSub.none ⟨hI.next (by have h := hc4; rcases h with h | h; (exact .inl (by omega)); (exact .inr h)), by have ho : 0 < n ∨ o.size = 0 := (by have h := hc4; rcases h with h | h; (exact .inl (by omega)); (exact .inr (by rw [h]; rfl))); have h1 : (⟨#[UInt8.ofNat (48 + n % 10)]⟩ : ByteArray).size = 1 := rfl; (try simp only [ByteArray.size_append]); omega⟩ (by have ho : 0 < n ∨ o.size = 0 := (by have h := hc4; rcases h with h | h; (exact .inl (by omega)); (exact .inr (by rw [h]; rfl))); have h1 : (⟨#[UInt8.ofNat (48 + n % 10)]⟩ : ByteArray).size = 1 := rfl; show _ < _; simp only [ByteArray.size_append]; omega)
      · simp only [Bool.and_eq_true, Bool.or_eq_true, Bool.not_eq_true', Bool.not_eq_false', Bool.and_eq_false_iff, Bool.or_eq_false_iff, decide_eq_true_eq, decide_eq_false_iff_not, Decidable.not_not, ne_eq] at hc4
        refine zO rfl (zD (zz (zw (ze (zf _ _ rfl rfl rfl (zf _ _ rfl rfl rfl (zb rfl (za rfl rfl (zc rfl) (za rfl rfl (z1 rfl rfl rfl) (zg rfl (ze ?_)))))))))))
        refine zl _ _ rfl rfl rfl rfl (fun hc6 => ?_) (fun hc6 => ?_)
        · replace hc6 := of_decide_eq_true hc6
          exfalso; omega
        · replace hc6 := of_decide_eq_false hc6
          refine zy rfl (ze (zf _ _ rfl rfl rfl (zb rfl (za rfl rfl (zc rfl) (za rfl rfl (zd rfl) (zg rfl (ze (zu rfl ?_))))))))
          exact zk Tryz.results98 (.cons (zC (zo rfl) (Cv.eq (congrArg D.s (by have h := hc4; exact hI.done (by omega) h.2)))) .nil) rfl HSub.none ⟨rfl, rfl⟩

set_option maxHeartbeats 4000000 in
set_option maxRecDepth 100000 in
theorem rword_c (s : ByteArray)  :
    CD Tryz.prog 67 [] [.s s] (isR (.tup [dN (runL (inK [1, 2]) (bl8 s)), dN (wcL (bl8 s))])) := by
  refine zH Tryz.func67 rfl (N := 32) rfl rfl (fun C => ?_)
  refine JD.keep [0] [(0, .s s)] rfl ?_
  refine JD.bd 0 rfl (fun bd0 => ?_)
  have sz0 : s.size ≤ 9223372036854775807 := bd0
  refine zf _ _ rfl rfl rfl (zb rfl (za rfl rfl (zd rfl) (za rfl rfl (zd rfl) (zg rfl (ze (zf _ _ rfl rfl rfl (zb rfl (za rfl rfl (zd rfl) (za rfl rfl (zd rfl) (zg rfl (ze (zf _ _ rfl rfl rfl (zB _ rfl rfl (zS (fun (g : Nat × Nat) => [(0, .s s), (2, dI 0), (3, dI 0), (4, dN g.1), (5, dN g.2)]) (fun (g : Nat × Nat) => []) (fun (g : Nat × Nat) => (runL (inK [1, 2]) (bl8 s) = g.1 + runL (inK [1, 2]) (bts s g.1)) ∧ (wcL (bl8 s) = g.2 + wcL (bts s g.1)) ∧ (g.1 ≤ s.size) ∧ (g.2 ≤ g.1)) (fun (g : Nat × Nat) => s.size - g.1) _ (0, 0) rfl rfl ⟨sk rfl, sk rfl, sk rfl, sk rfl, sk rfl, trivial⟩ HSub.rfl' ⟨run_start, wc_start, Nat.zero_le _, Nat.le_refl _⟩ ?_))))))))))))))
  rintro ⟨n, k⟩ ⟨hf, hk, hn, hkn⟩
  replace hf : runL (inK [1, 2]) (bl8 s) = n + runL (inK [1, 2]) (bts s n) := hf
  replace hk : wcL (bl8 s) = k + wcL (bts s n) := hk
  replace hn : n ≤ s.size := hn
  replace hkn : k ≤ n := hkn
  refine JD.keep [0, 2, 3, 4, 5] [(0, .s s), (2, dI 0), (3, dI 0), (4, dN n), (5, dN k)] rfl (JD.norm [] rfl (zf _ _ rfl rfl rfl (zf _ _ rfl rfl rfl (zb rfl (za rfl rfl (zc rfl) (za rfl rfl (zc rfl) (za rfl rfl (zP rfl Tryz.runUnderlying9) (za rfl rfl (z1 rfl rfl rfl) (zg rfl (ze ?_))))))))))
  refine zl _ _ rfl rfl rfl rfl (fun hc1 => ?_) (fun hc1 => ?_)
  · replace hc1 := of_decide_eq_true hc1
    have hlt : n < s.size := by omega
    refine zy rfl (ze (zB _ rfl rfl (zf _ _ rfl rfl rfl (zb rfl (za rfl rfl (zc rfl) (za rfl rfl (zc rfl) (za rfl rfl (zV (a := n) (c := s.size) rfl rfl rfl (by first | rfl | (show _ = _; omega)) (by first | rfl | (show _ = _; omega)) Tryz.runUnderlying9 (by omega) (by omega)) (zj rfl rfl (zx [] _ [] rfl rfl (.cons ArgC.id .nil) zp Tryz.call16 (rfirst_c (s.extract n s.size) (by first | omega | (simp only [ByteArray.size_extract]; omega))) (.inl rfl)) ?_))))))))
    rintro _ _ ⟨_, ⟨rfl, rfl⟩, rfl⟩
    refine OpsD.norm [] rfl (zj rfl rfl (zx [] _ [] rfl rfl (.cons ArgC.id .nil) zp Tryz.call15 (refKind_c ((decR (s.extract n s.size) 0 : Nat) : Int)) (.inl rfl)) ?_)
    rintro _ _ ⟨_, ⟨rfl, rfl⟩, rfl⟩
    refine OpsD.norm [] rfl (za rfl rfl (zd rfl) (zg rfl (ze (zf _ _ rfl rfl rfl (zf _ _ rfl rfl rfl (JD.keep [0, 2, 3, 4, 5, 6, 7, 8, 9, 10, 11, 12, 13, 14, 15] [(0, .s s), (2, dI 0), (3, dI 0), (4, dN n), (5, dN k), (6, dI (zR ((decR (s.extract n s.size) 0 : Nat) : Int))), (7, dN n), (8, .s s), (9, dN s.size), (10, dB (decide (((n : Nat) : Int) < ((s.size : Nat) : Int)))), (11, .s s), (12, dN n), (13, .s (s.extract n s.size)), (14, .v (.int .i32 ((decR (s.extract n s.size) 0 : Nat) : Int))), (15, dI (zR ((decR (s.extract n s.size) 0 : Nat) : Int)))] rfl ?_))))))
    refine zak 21 ((decide (zR ((decR (s.extract n s.size) 0 : Nat) : Int) ≠ (1 : Int)) && decide (zR ((decR (s.extract n s.size) 0 : Nat) : Int) ≠ (2 : Int)))) [] (fun _ hQ2 => ?_) ?_
    · skip
      by_cases hg3 : zR ((decR (s.extract n s.size) 0 : Nat) : Int) ≠ (1 : Int)
      · skip
        refine zb rfl (za rfl rfl (zc rfl) (za rfl rfl (zcd rfl rfl (decide_eq_true hg3)) (za rfl rfl (zc rfl) (zh rfl rfl rfl rfl rfl (zc rfl) (zh rfl rfl rfl rfl rfl (zcd rfl rfl rfl) (za rfl rfl (zr rfl rfl) (zg rfl ?_)))))))
        exact PD.sub ((21, dB (decide (zR ((decR (s.extract n s.size) 0 : Nat) : Int) ≠ (1 : Int)) && decide (zR ((decR (s.extract n s.size) 0 : Nat) : Int) ≠ (2 : Int)))) :: [(0, .s s), (2, dI 0), (3, dI 0), (4, dN n), (5, dN k), (6, dI (zR ((decR (s.extract n s.size) 0 : Nat) : Int))), (7, dN n), (8, .s s), (9, dN s.size), (10, dB (decide (((n : Nat) : Int) < ((s.size : Nat) : Int)))), (11, .s s), (12, dN n), (13, .s (s.extract n s.size)), (14, .v (.int .i32 ((decR (s.extract n s.size) 0 : Nat) : Int))), (15, dI (zR ((decR (s.extract n s.size) 0 : Nat) : Int)))]) ⟨sc rfl (Cv.eq (congrArg (fun b => D.v (.bool b)) (by first | (simp [hc1, hg3]; done) | (simp_all; done)))), sk rfl, sk rfl, sk rfl, sk rfl, sk rfl, sk rfl, sk rfl, sk rfl, sk rfl, sk rfl, sk rfl, sk rfl, sk rfl, sk rfl, sk rfl, trivial⟩ hQ2
      · skip
        refine zb rfl (za rfl rfl (zc rfl) (za rfl rfl (zcd rfl rfl (decide_eq_false hg3)) (za rfl rfl (zc rfl) (zi rfl rfl rfl rfl rfl (by decide) (zi rfl rfl rfl rfl rfl (by decide) (za rfl rfl (zt rfl rfl) (zg rfl ?_)))))))
        exact PD.sub ((21, dB (decide (zR ((decR (s.extract n s.size) 0 : Nat) : Int) ≠ (1 : Int)) && decide (zR ((decR (s.extract n s.size) 0 : Nat) : Int) ≠ (2 : Int)))) :: [(0, .s s), (2, dI 0), (3, dI 0), (4, dN n), (5, dN k), (6, dI (zR ((decR (s.extract n s.size) 0 : Nat) : Int))), (7, dN n), (8, .s s), (9, dN s.size), (10, dB (decide (((n : Nat) : Int) < ((s.size : Nat) : Int)))), (11, .s s), (12, dN n), (13, .s (s.extract n s.size)), (14, .v (.int .i32 ((decR (s.extract n s.size) 0 : Nat) : Int))), (15, dI (zR ((decR (s.extract n s.size) 0 : Nat) : Int)))]) ⟨sc rfl (Cv.eq (congrArg (fun b => D.v (.bool b)) (by first | (simp [hc1, hg3]; done) | (simp_all; done)))), sk rfl, sk rfl, sk rfl, sk rfl, sk rfl, sk rfl, sk rfl, sk rfl, sk rfl, sk rfl, sk rfl, sk rfl, sk rfl, sk rfl, sk rfl, trivial⟩ hQ2
    · skip
      refine ze ?_
      refine zl _ _ rfl rfl rfl rfl (fun hc4 => ?_) (fun hc4 => ?_)
      · simp only [Bool.and_eq_true, Bool.or_eq_true, Bool.not_eq_true', Bool.not_eq_false', Bool.and_eq_false_iff, Bool.or_eq_false_iff, decide_eq_true_eq, decide_eq_false_iff_not, Decidable.not_not, ne_eq] at hc4
        have hk0 := hc4
        rw [show (decR (s.extract n s.size) 0) = decR s n by rw [decR_extract, Nat.add_zero]] at hk0
        have hst := notLD hk0
        refine zO rfl (zD (pd_block_exit_far rfl (zz (zw (ze (JD.keep [2, 3, 4, 5] [(2, dI 0), (3, dI 0), (4, dN n), (5, dN k)] rfl (zf _ _ rfl rfl rfl (zb rfl (za rfl rfl (zc rfl) (za rfl rfl (zc rfl) (za rfl rfl (zd rfl) (za rfl rfl (zd rfl) (zg rfl (ze (zu rfl ?_)))))))))))))))
        exact zk Tryz.results67 (.cons (zC (zo rfl) (Cv.eq (congrArg dN (by first | exact run_stop hf hst | exact wc_stop hk hst)))) (.cons (zC (zo rfl) (Cv.eq (congrArg dN (by first | exact run_stop hf hst | exact wc_stop hk hst)))) .nil)) rfl HSub.none ⟨rfl, rfl⟩
      · simp only [Bool.and_eq_true, Bool.or_eq_true, Bool.not_eq_true', Bool.not_eq_false', Bool.and_eq_false_iff, Bool.or_eq_false_iff, decide_eq_true_eq, decide_eq_false_iff_not, Decidable.not_not, ne_eq] at hc4
        have hk0 := hc4
        rw [show (decR (s.extract n s.size) 0) = decR s n by rw [decR_extract, Nat.add_zero]] at hk0
        have hgo : isLD ((decR s n : Nat) : Int) = true := zcv.2 (by omega)
        have hdw := zan s n hlt
        have hdp := zY s n
        have hde : decW (s.extract n s.size) 0 = decW s n := by rw [decW_extract, Nat.add_zero]
        refine zy rfl (ze (zf _ _ rfl rfl rfl (zb rfl (za rfl rfl (zc rfl) (za rfl rfl (zc rfl) (za rfl rfl (zc rfl) (za rfl rfl (zV (a := n) (c := s.size) rfl rfl rfl (by first | rfl | (show _ = _; omega)) (by first | rfl | (show _ = _; omega)) Tryz.runUnderlying9 (by omega) (by omega)) (zj rfl rfl (zx [] _ [] rfl rfl (.cons ArgC.id .nil) zp Tryz.call97 (rwide_c (s.extract n s.size) (by first | omega | (simp only [ByteArray.size_extract]; omega))) (.inl rfl)) ?_))))))))
        rintro _ _ ⟨_, ⟨rfl, rfl⟩, rfl⟩
        refine OpsD.norm [] rfl (za rfl rfl (z7 (c := ((n + (decW (s.extract n s.size) 0) : Nat) : Int)) rfl rfl (zX (by omega) (by omega))) (za rfl rfl (zd rfl) (zg rfl (ze (zb rfl (za rfl rfl (zc rfl) (za rfl rfl (z7 (c := ((k + 1 : Nat) : Int)) rfl rfl (zX (by omega) (by omega))) (za rfl rfl (zd rfl) (zg rfl (zG ?_))))))))))
        exact zZ (n + (decW (s.extract n s.size) 0), k + 1) ⟨sk rfl, sk rfl, sk rfl, sk rfl, sk rfl, trivial⟩ HSub.rfl' ⟨by rw [hde]; exact run_next hf hlt hgo, by rw [hde]; exact wc_next hk hlt hgo, by omega, by omega⟩ (by omega)
  · replace hc1 := of_decide_eq_false hc1
    have hge : s.size ≤ n := by omega
    refine zO rfl (zD (zz (zw (ze (zf _ _ rfl rfl rfl (zb rfl (za rfl rfl (zc rfl) (za rfl rfl (zc rfl) (za rfl rfl (zd rfl) (za rfl rfl (zd rfl) (zg rfl (ze (JD.keep [2, 3] [(2, dN n), (3, dN k)] rfl (zu rfl ?_))))))))))))))
    exact zk Tryz.results67 (.cons (zC (zo rfl) (Cv.eq (congrArg dN (by first | exact (Nat.le_antisymm hn hge).trans (run_end hf hge hn) | exact wc_end hk hge)))) (.cons (zC (zo rfl) (Cv.eq (congrArg dN (by first | exact (Nat.le_antisymm hn hge).trans (run_end hf hge hn) | exact wc_end hk hge)))) .nil)) rfl HSub.none ⟨rfl, rfl⟩
end Lp
