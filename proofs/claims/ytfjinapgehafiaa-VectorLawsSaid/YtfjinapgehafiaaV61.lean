/- Walks, printed by a program of mine. -/
import Derived.Test.YtfjinapgehafiaaV61A
set_option linter.unusedSimpArgs false
set_option linter.unusedVariables false
namespace Lp
open Go Go.RowKit Go.Proofs

namespace HdYtfjinapgehafiaaV61
theorem zdD {a : Int} (h : 0 ≤ a ∧ a ≤ 18446744073709551615) : ∀ w, (convert 3 85 (.int .i64 a)).run Try.prog w = .ok (.int .u64 a) w := fun w => by
  have e : IntKind.u64.wrap a = a := by simp [IntKind.wrap, IntKind.bits, IntKind.signed]; omega
  simp [convert, run_underlying (show Try.prog.underlying 3 = some _ by kernel_rfl), run_underlying (show Try.prog.underlying 85 = some _ by kernel_rfl), Conv.intToInt, e]
theorem cv_85_3 {a : Int} (h : -9223372036854775808 ≤ a ∧ a ≤ 9223372036854775807) : ∀ w, (convert 85 3 (.int .u64 a)).run Try.prog w = .ok (.int .i64 a) w := fun w => by
  have e : IntKind.i64.wrap a = a := by exact w64 (by omega)
  simp [convert, run_underlying (show Try.prog.underlying 85 = some _ by kernel_rfl), run_underlying (show Try.prog.underlying 3 = some _ by kernel_rfl), Conv.intToInt, e]
end HdYtfjinapgehafiaaV61
open HdYtfjinapgehafiaaV61

set_option maxHeartbeats 4000000 in
set_option maxRecDepth 100000 in
theorem symM_s (v : Value) (l : List RowD) (a m b : Nat) (o : Int) (h1 : a < m) (h2 : m < b) (h3 : b ≤ l.length) (hl : l.length ≤ 1000000) (hA : Srt (zH 0) (seg l a m)) (hB : Srt (zH 0) (seg l m b)) (ih : ∀ (l' : List RowD) (a' m' b' : Nat), b' - a' < b - a → a' < m' → m' < b' → b' ≤ l'.length → l'.length ≤ 1000000 → Srt (zH 0) (seg l' a' m') → Srt (zH 0) (seg l' m' b') → CD Try.prog 72 [.sl v 2 30 (l'.map RowD.d)] [.ov v, dN a', dN m', dN b', .fn 32 [] []] (fun r H' => r = .tup [] ∧ H' = [.sl v 2 30 ((fixI (zH 0) a' b' l').map RowD.d)])) :
    CD Try.prog 72 [.sl v 2 30 (l.map RowD.d)] [.ov v, dN a, dN m, dN b, .fn 32 [] []] (fun r H' => r = .tup [] ∧ H' = [.sl v 2 30 ((fixI (zH 0) a b l).map RowD.d)]) := by
  refine zL Try.func72 rfl (N := 220) rfl rfl (fun C => ?_)
  refine JD.keep [0, 1, 2, 3, 4] [(0, .ov v), (1, dN a), (2, dN m), (3, dN b), (4, .fn 32 [] [])] rfl (zh _ _ rfl rfl rfl (zh _ _ rfl rfl rfl (zc rfl (za rfl rfl (zb rfl) (za rfl rfl (zb rfl) (za rfl rfl (zaR (c := ((m - a : Nat) : Int)) rfl rfl (zT (by omega) (by omega))) (za rfl rfl (zY rfl rfl rfl) (zg rfl (zf ?_)))))))))
  refine zu _ _ rfl rfl rfl rfl (fun hc1 => ?_) (fun hc1 => ?_)
  · replace hc1 := of_decide_eq_true hc1
    refine zh _ _ rfl rfl rfl (zc rfl (za rfl rfl (zb rfl) (za rfl rfl (ze rfl) (zg rfl (zf (zh _ _ rfl rfl rfl (zc rfl (za rfl rfl (zb rfl) (za rfl rfl (ze rfl) (zg rfl (zf (zh _ _ rfl rfl rfl (zy _ rfl rfl ?_)))))))))))))
    obtain ⟨x1, hx1⟩ := zV l a (by (try simp only [ls]); omega)
    refine z7 (fun (g : Nat × Nat) => [(0, .ov v), (1, dN a), (2, dN m), (3, dN b), (4, .fn 32 [] []), (10, dN g.1), (11, dN g.2)]) (fun (g : Nat × Nat) => [.sl v 2 30 (l.map RowD.d)]) (fun (g : Nat × Nat) => (m ≤ g.1 ∧ g.1 ≤ g.2 ∧ g.2 ≤ b) ∧ (Hid (g.1 = m ∨ ∃ y, l[g.1 - 1]? = some y ∧ zH 0 y x1 < 0)) ∧ (Hid (g.2 = b ∨ ∃ y, l[g.2]? = some y ∧ ¬ zH 0 y x1 < 0))) (fun (g : Nat × Nat) => g.2 - g.1) _ (m, b) rfl rfl ⟨sk rfl, sk rfl, sk rfl, sk rfl, sk rfl, sk rfl, sk rfl, trivial⟩ HSub.rfl' ⟨by show m ≤ m ∧ m ≤ b ∧ b ≤ b; omega, ⟨.inl rfl⟩, ⟨.inl rfl⟩⟩ ?_
    rintro ⟨i, j⟩ ⟨hij, hlo, hhi⟩
    replace hij : m ≤ i ∧ i ≤ j ∧ j ≤ b := hij
    replace hlo : Hid (i = m ∨ ∃ y, l[i - 1]? = some y ∧ zH 0 y x1 < 0) := hlo
    replace hhi : Hid (j = b ∨ ∃ y, l[j]? = some y ∧ ¬ zH 0 y x1 < 0) := hhi
    refine JD.keep [0, 1, 2, 3, 4, 10, 11] [(0, .ov v), (1, dN a), (2, dN m), (3, dN b), (4, .fn 32 [] []), (10, dN i), (11, dN j)] rfl (JD.norm [.sl v 2 30 (l.map RowD.d)] rfl (zh _ _ rfl rfl rfl (zh _ _ rfl rfl rfl (zc rfl (za rfl rfl (zb rfl) (za rfl rfl (zb rfl) (za rfl rfl (zaa rfl rfl rfl) (zg rfl (zf ?_)))))))))
    refine zu _ _ rfl rfl rfl rfl (fun hc2 => ?_) (fun hc2 => ?_)
    · replace hc2 := of_decide_eq_true hc2
      refine zz rfl (zf (zy _ rfl rfl (zh _ _ rfl rfl rfl (zc rfl (za rfl rfl (zb rfl) (za rfl rfl (zb rfl) (za rfl rfl (z8 (c := ((i + j : Nat) : Int)) rfl rfl (zT (by omega) (by omega))) (za rfl rfl (zaO rfl (c := ((i + j : Nat) : Int)) (zdD (by omega))) ?_))))))))
      obtain ⟨q3, hq3⟩ : ∃ q, q = (i + j) / 2 := ⟨_, rfl⟩
      refine za rfl rfl ((zcr (a := i + j) (n := 1) (m := 2) rfl rfl (by decide) (by decide)).cv (Cv.eq (by rw [← hq3]))) (za rfl rfl (zaO rfl (c := ((q3 : Nat) : Int)) (cv_85_3 (by omega))) (za rfl rfl (ze rfl) (zg rfl (zf (zh _ _ rfl rfl rfl (JD.keep [0, 1, 2, 3, 4, 10, 11, 12, 31, 32, 33, 34, 35, 36, 37, 38, 39] [(0, .ov v), (1, dN a), (2, dN m), (3, dN b), (4, .fn 32 [] []), (10, dN i), (11, dN j), (12, dN q3), (31, dN i), (32, dN j), (33, dB (decide (((i : Nat) : Int) < ((j : Nat) : Int)))), (34, dN i), (35, dN j), (36, dN (i + j)), (37, .v (.int .u64 ((i + j : Nat) : Int))), (38, .v (.int .u64 ((q3 : Nat) : Int))), (39, dN q3)] rfl (JD.norm [.sl v 2 30 (l.map RowD.d)] rfl ?_)))))))
      obtain ⟨x2, hx2⟩ := zV l q3 (by (try simp only [ls]); omega)
      refine zai 9 [(40, .fn 32 [] [], none), (41, .ov v, none), (42, dN q3, none), (43, .v (.pointer (some ⟨bl v, q3 * 2 + 0, none⟩)), none), (44, RowD.d x2, none), (45, .ov v, none), (46, dN a, none), (47, .v (.pointer (some ⟨bl v, a * 2 + 0, none⟩)), none), (48, RowD.d x1, none)] [.sl v 2 30 (l.map RowD.d)] (Hn := [.sl v 2 30 (l.map RowD.d)]) zaz rfl rfl rfl rfl HSub.rfl' rfl ⟨sa_p rfl rfl rfl (zb rfl), sa_p rfl rfl rfl (zb rfl), sa_p rfl rfl rfl (zb rfl), sa_p rfl rfl rfl (zC (k := q3) (j := 0) rfl rfl rfl Try.runUnderlying22 Try.sizeOf30 (by first | rfl | omega) (zw hx2)), sa_p rfl rfl rfl (zam (d := RowD.d x2) rfl (i := 0) rfl (zw hx2) Try.isAgg30 Try.sizeOf30 rfl rfl), sa_p rfl rfl rfl (zb rfl), sa_p rfl rfl rfl (zb rfl), sa_p rfl rfl rfl (zC (k := a) (j := 0) rfl rfl rfl Try.runUnderlying22 Try.sizeOf30 (by first | rfl | omega) (zw hx1)), sa_p rfl rfl rfl (zam (d := RowD.d x1) rfl (i := 0) rfl (zw hx1) Try.isAgg30 Try.sizeOf30 rfl rfl), trivial⟩ ?_
      refine OpsD.keep [0, 1, 2, 3, 4, 10, 11, 12, 31, 32, 33, 34, 35, 36, 37, 38, 39, 40, 41, 42, 43, 44, 45, 46, 47, 48] [(0, .ov v), (1, dN a), (2, dN m), (3, dN b), (4, .fn 32 [] []), (10, dN i), (11, dN j), (12, dN q3), (31, dN i), (32, dN j), (33, dB (decide (((i : Nat) : Int) < ((j : Nat) : Int)))), (34, dN i), (35, dN j), (36, dN (i + j)), (37, .v (.int .u64 ((i + j : Nat) : Int))), (38, .v (.int .u64 ((q3 : Nat) : Int))), (39, dN q3), (40, .fn 32 [] []), (41, .ov v), (42, dN q3), (43, .v (.pointer (some ⟨bl v, q3 * 2 + 0, none⟩))), (44, RowD.d x2), (45, .ov v), (46, dN a), (47, .v (.pointer (some ⟨bl v, a * 2 + 0, none⟩))), (48, RowD.d x1)] rfl (zl rfl rfl (zc7 [] _ [] rfl rfl rfl (.cons ArgC.id (.cons ArgC.id .nil)) zo Try.call32 (cmpf_c x2 x1) (.inl rfl)) ?_)
      rintro _ _ ⟨_, ⟨rfl, rfl⟩, rfl⟩
      refine OpsD.norm [.sl v 2 30 (l.map RowD.d)] rfl (za rfl rfl (zaa rfl rfl rfl) (zg rfl (zf ?_)))
      refine zu _ _ rfl rfl rfl rfl (fun hc4 => ?_) (fun hc4 => ?_)
      · replace hc4 := of_decide_eq_true hc4
        refine zc rfl (za rfl rfl (zb rfl) (za rfl rfl (z8 (c := ((q3 + 1 : Nat) : Int)) rfl rfl (zT (by omega) (by omega))) (za rfl rfl (ze rfl) (zg rfl (zD ?_)))))
        exact zS (q3 + 1, j) ⟨sk rfl, sk rfl, sk rfl, sk rfl, sk rfl, sk rfl, sk rfl, trivial⟩ HSub.rfl' ⟨by show m ≤ q3 + 1 ∧ q3 + 1 ≤ j ∧ j ≤ b; omega, ⟨.inr ⟨_, hx2, hc4⟩⟩, hhi⟩ (by show j - (q3 + 1) < j - i; omega)
      · replace hc4 := of_decide_eq_false hc4
        refine zc rfl (za rfl rfl (zb rfl) (za rfl rfl (ze rfl) (zg rfl (zD ?_))))
        exact zS (i, q3) ⟨sk rfl, sk rfl, sk rfl, sk rfl, sk rfl, sk rfl, sk rfl, trivial⟩ HSub.rfl' ⟨by show m ≤ i ∧ i ≤ q3 ∧ q3 ≤ b; omega, hlo, ⟨.inr ⟨_, hx2, hc4⟩⟩⟩ (by show q3 - i < j - i; omega)
    · replace hc2 := of_decide_eq_false hc2
      refine z3 rfl (zK (zI (zE (zf (zh _ _ rfl rfl rfl (zh _ _ rfl rfl rfl (zc rfl (za rfl rfl (zb rfl) (za rfl rfl (ze rfl) (zg rfl (zf (zy _ rfl rfl (z7 (fun (g : Nat × Nat × List RowD) => [(0, .ov v), (1, dN a), (2, dN m), (3, dN b), (4, .fn 32 [] []), (10, dN i), (13, dN g.1)]) (fun (g : Nat × Nat × List RowD) => [.sl v 2 30 (g.2.2.map RowD.d)]) (fun (g : Nat × Nat × List RowD) => (g.1 + g.2.1 + 1 = i) ∧ ((g.2.2).length = l.length) ∧ (mvUp g.2.1 g.1 g.2.2 = mvUp (i - 1 - a) a l)) (fun (g : Nat × Nat × List RowD) => i - g.1) _ (a, i - 1 - a, l) rfl rfl ⟨sk rfl, sk rfl, sk rfl, sk rfl, sk rfl, sk rfl, sk rfl, trivial⟩ HSub.rfl' ⟨by show a + (i - 1 - a) + 1 = i; omega, rfl, rfl⟩ ?_)))))))))))))
      rintro ⟨k, n, L⟩ ⟨hk, hL, hr⟩
      replace hk : k + n + 1 = i := hk
      replace hL : (L).length = l.length := hL
      replace hr : mvUp n k L = mvUp (i - 1 - a) a l := hr
      refine JD.keep [0, 1, 2, 3, 4, 10, 13] [(0, .ov v), (1, dN a), (2, dN m), (3, dN b), (4, .fn 32 [] []), (10, dN i), (13, dN k)] rfl (JD.norm [.sl v 2 30 (L.map RowD.d)] rfl (zh _ _ rfl rfl rfl (zh _ _ rfl rfl rfl (zc rfl (za rfl rfl (zb rfl) (za rfl rfl (zb rfl) (za rfl rfl (zaR (c := ((i - 1 : Nat) : Int)) rfl rfl (zT (by omega) (by omega))) (za rfl rfl (zaa rfl rfl rfl) (zg rfl (zf ?_))))))))))
      refine zu _ _ rfl rfl rfl rfl (fun hc5 => ?_) (fun hc5 => ?_)
      · replace hc5 := of_decide_eq_true hc5
        refine zz rfl (zf (zh _ _ rfl rfl rfl (zy _ rfl rfl (JD.keep [0, 1, 2, 3, 4, 10, 13, 55, 56, 57, 58] [(0, .ov v), (1, dN a), (2, dN m), (3, dN b), (4, .fn 32 [] []), (10, dN i), (13, dN k), (55, dN k), (56, dN i), (57, dN (i - 1)), (58, dB (decide (((k : Nat) : Int) < ((i - 1 : Nat) : Int))))] rfl (JD.norm [.sl v 2 30 (L.map RowD.d)] rfl ?_)))))
        obtain ⟨x3, hx3⟩ := zV L (k + 1) (by (try simp only [ls]); omega)
        obtain ⟨x4, hx4⟩ := zV L k (by (try simp only [ls]); omega)
        refine zbC 16 [(61, .q (.ov v)), (62, .q (dN k)), (63, .q (.ov v)), (64, .q (dN k)), (65, .q (dN (k + 1))), (66, .q (.ov v)), (67, .q (dN k)), (68, .q (dN (k + 1))), (69, .r (.v (.pointer (some ⟨bl v, (k + 1) * 2 + 0, none⟩)))), (70, .r (RowD.d x3)), (71, .q (.ov v)), (72, .q (dN k)), (73, .r (.v (.pointer (some ⟨bl v, k * 2 + 0, none⟩)))), (74, .r (RowD.d x4)), (75, .r (.v (.pointer (some ⟨bl v, k * 2 + 0, none⟩)))), (235, .s (fun γ => [.sl v 2 30 ((L.set k x3).map RowD.d)]))] [] (Hn := fun γ => [.sl v 2 30 ((L.set k x3).map RowD.d)]) zaz rfl rfl (by kernel_rfl) (by kernel_rfl) (by kernel_rfl) HSub.none (fun _ => rfl) (fun γ => ⟨so_p rfl rfl rfl (zb rfl), so_p rfl rfl rfl (zb rfl), so_p rfl rfl rfl (zb rfl), so_p rfl rfl rfl (zb rfl), so_p rfl rfl rfl (z8 (c := ((k + 1 : Nat) : Int)) rfl rfl (zT (by omega) (by omega))), so_p rfl rfl rfl (zb rfl), so_p rfl rfl rfl (zb rfl), so_p rfl rfl rfl (z8 (c := ((k + 1 : Nat) : Int)) rfl rfl (zT (by omega) (by omega))), so_r rfl rfl rfl rfl (zC (k := k + 1) (j := 0) rfl rfl rfl Try.runUnderlying22 Try.sizeOf30 (by first | rfl | omega) (zw hx3)), so_r rfl rfl rfl rfl (zam (d := RowD.d x3) rfl (i := 0) rfl (zw hx3) Try.isAgg30 Try.sizeOf30 rfl rfl), so_p rfl rfl rfl (zb rfl), so_p rfl rfl rfl (zb rfl), so_r rfl rfl rfl rfl (zC (k := k) (j := 0) rfl rfl rfl Try.runUnderlying22 Try.sizeOf30 (by first | rfl | omega) (zw hx4)), so_r rfl rfl rfl rfl (zam (d := RowD.d x4) rfl (i := 0) rfl (zw hx4) Try.isAgg30 Try.sizeOf30 rfl rfl), so_r rfl rfl rfl rfl (zC (k := k) (j := 0) rfl rfl rfl Try.runUnderlying22 Try.sizeOf30 (by first | rfl | omega) (zw hx4)), zec rfl rfl rfl rfl rfl ((zbl (f := RowD.d) (k := k) (z := 2) (o := 0) (i := 0) (a' := x3) rfl rfl hx4 rfl (CellD.agg) Try.sizeOf30 rfl rfl rfl).mono (by rintro _ _ ⟨_, rfl⟩; rfl)) HSub.none, trivial⟩) (fun γ => ?_)
        refine OpsD.keep [0, 1, 2, 3, 4, 10, 13, 55, 56, 57, 58, 61, 62, 63, 64, 65, 66, 67, 68, 69, 70, 71, 72, 73, 74, 75] [(0, .ov v), (1, dN a), (2, dN m), (3, dN b), (4, .fn 32 [] []), (10, dN i), (13, dN k), (55, dN k), (56, dN i), (57, dN (i - 1)), (58, dB (decide (((k : Nat) : Int) < ((i - 1 : Nat) : Int)))), (61, .ov v), (62, dN k), (63, .ov v), (64, dN k), (65, dN (k + 1)), (66, .ov v), (67, dN k), (68, dN (k + 1)), (69, .v (.pointer (some ⟨bl v, (k + 1) * 2 + 0, none⟩))), (70, RowD.d x3), (71, .ov v), (72, dN k), (73, .v (.pointer (some ⟨bl v, k * 2 + 0, none⟩))), (74, RowD.d x4), (75, .v (.pointer (some ⟨bl v, k * 2 + 0, none⟩)))] rfl ?_
        obtain ⟨x5, hx5⟩ := zV (L.set k x3) (k + 1) (by (try simp only [ls]); omega)
        refine za rfl rfl (zC (k := k + 1) (j := 0) rfl rfl rfl Try.runUnderlying22 Try.sizeOf30 (by first | rfl | omega) (zw hx5)) (zl rfl rfl (zbl (f := RowD.d) (k := k + 1) (z := 2) (o := 0) (i := 0) (a' := x4) rfl rfl hx5 rfl (CellD.agg) Try.sizeOf30 rfl rfl rfl) ?_)
        rintro _ _ ⟨rfl, rfl⟩
        refine OpsD.norm [.sl v 2 30 (((L.set k x3).set (k + 1) x4).map RowD.d)] rfl (zg rfl (zD (zf (zc rfl (za rfl rfl (zb rfl) (za rfl rfl (z8 (c := ((k + 1 : Nat) : Int)) rfl rfl (zT (by omega) (by omega))) (za rfl rfl (ze rfl) (zg rfl ?_))))))))
        exact zS (k + 1, n - 1, ((L.set k x3).set (k + 1) x4)) ⟨sk rfl, sk rfl, sk rfl, sk rfl, sk rfl, sk rfl, sk rfl, trivial⟩ HSub.rfl' ⟨by show k + 1 + (n - 1) + 1 = i; omega, by simp only [ls]; exact hL, by show mvUp (n - 1) (k + 1) _ = _; rw [← hr]; obtain ⟨p, rfl⟩ : ∃ p, n = p + 1 := ⟨n - 1, by omega⟩; exact (mvUp_next hx4 hx3).symm⟩ (by omega)
      · replace hc5 := of_decide_eq_false hc5
        refine z3 rfl (zK (zI (zE (zf (zB rfl (zp (PD.norm [.sl v 2 30 ((fixI (zH 0) a b l).map RowD.d)] (by rw [← merge_up (i := i) (zap 0) h3 hx1 (by omega) (by omega) (by rw [show a + 1 = m by omega]; exact hB) (by rw [show a + 1 = m by omega]; exact hlo.out) (by rw [show i = j by omega]; exact hhi.out), ← hr, show n = 0 by omega]; rfl) ?_)))))))
        exact zx Try.results72 .nil rfl (HSub.fst 1 rfl) ⟨rfl, rfl⟩
  · replace hc1 := of_decide_eq_false hc1
    refine zz rfl (zf (zh _ _ rfl rfl rfl (zh _ _ rfl rfl rfl (zc rfl (za rfl rfl (zb rfl) (za rfl rfl (zb rfl) (za rfl rfl (zaR (c := ((b - m : Nat) : Int)) rfl rfl (zT (by omega) (by omega))) (za rfl rfl (zY rfl rfl rfl) (zg rfl (zf ?_))))))))))
    refine zu _ _ rfl rfl rfl rfl (fun hc6 => ?_) (fun hc6 => ?_)
    · replace hc6 := of_decide_eq_true hc6
      refine zh _ _ rfl rfl rfl (zc rfl (za rfl rfl (zb rfl) (za rfl rfl (ze rfl) (zg rfl (zf (JD.keep [0, 1, 2, 3, 4, 14] [(0, .ov v), (1, dN a), (2, dN m), (3, dN b), (4, .fn 32 [] []), (14, dN a)] rfl (zh _ _ rfl rfl rfl (zc rfl (za rfl rfl (zb rfl) (za rfl rfl (ze rfl) (zg rfl (zf (zh _ _ rfl rfl rfl (zy _ rfl rfl ?_))))))))))))))
      obtain ⟨x6, hx6⟩ := zV l m (by (try simp only [ls]); omega)
      refine z7 (fun (g : Nat × Nat) => [(0, .ov v), (1, dN a), (2, dN m), (3, dN b), (4, .fn 32 [] []), (14, dN g.1), (15, dN g.2)]) (fun (g : Nat × Nat) => [.sl v 2 30 (l.map RowD.d)]) (fun (g : Nat × Nat) => (a ≤ g.1 ∧ g.1 ≤ g.2 ∧ g.2 ≤ m) ∧ (Hid (g.1 = a ∨ ∃ y, l[g.1 - 1]? = some y ∧ ¬ zH 0 x6 y < 0)) ∧ (Hid (g.2 = m ∨ ∃ y, l[g.2]? = some y ∧ zH 0 x6 y < 0))) (fun (g : Nat × Nat) => g.2 - g.1) _ (a, m) rfl rfl ⟨sk rfl, sk rfl, sk rfl, sk rfl, sk rfl, sk rfl, sk rfl, trivial⟩ HSub.rfl' ⟨by show a ≤ a ∧ a ≤ m ∧ m ≤ m; omega, ⟨.inl rfl⟩, ⟨.inl rfl⟩⟩ ?_
      rintro ⟨i, j⟩ ⟨hij, hlo, hhi⟩
      replace hij : a ≤ i ∧ i ≤ j ∧ j ≤ m := hij
      replace hlo : Hid (i = a ∨ ∃ y, l[i - 1]? = some y ∧ ¬ zH 0 x6 y < 0) := hlo
      replace hhi : Hid (j = m ∨ ∃ y, l[j]? = some y ∧ zH 0 x6 y < 0) := hhi
      refine JD.keep [0, 1, 2, 3, 4, 14, 15] [(0, .ov v), (1, dN a), (2, dN m), (3, dN b), (4, .fn 32 [] []), (14, dN i), (15, dN j)] rfl (JD.norm [.sl v 2 30 (l.map RowD.d)] rfl (zh _ _ rfl rfl rfl (zh _ _ rfl rfl rfl (zc rfl (za rfl rfl (zb rfl) (za rfl rfl (zb rfl) (za rfl rfl (zaa rfl rfl rfl) (zg rfl (zf ?_)))))))))
      refine zu _ _ rfl rfl rfl rfl (fun hc7 => ?_) (fun hc7 => ?_)
      · replace hc7 := of_decide_eq_true hc7
        refine zz rfl (zf (zy _ rfl rfl (zh _ _ rfl rfl rfl (zc rfl (za rfl rfl (zb rfl) (za rfl rfl (zb rfl) (za rfl rfl (z8 (c := ((i + j : Nat) : Int)) rfl rfl (zT (by omega) (by omega))) (za rfl rfl (zaO rfl (c := ((i + j : Nat) : Int)) (zdD (by omega))) ?_))))))))
        obtain ⟨q8, hq8⟩ : ∃ q, q = (i + j) / 2 := ⟨_, rfl⟩
        refine za rfl rfl ((zcr (a := i + j) (n := 1) (m := 2) rfl rfl (by decide) (by decide)).cv (Cv.eq (by rw [← hq8]))) (za rfl rfl (zaO rfl (c := ((q8 : Nat) : Int)) (cv_85_3 (by omega))) (za rfl rfl (ze rfl) (zg rfl (zf (zh _ _ rfl rfl rfl (JD.keep [0, 1, 2, 3, 4, 14, 15, 16, 83, 84, 85, 86, 87, 88, 89, 90, 91] [(0, .ov v), (1, dN a), (2, dN m), (3, dN b), (4, .fn 32 [] []), (14, dN i), (15, dN j), (16, dN q8), (83, dN i), (84, dN j), (85, dB (decide (((i : Nat) : Int) < ((j : Nat) : Int)))), (86, dN i), (87, dN j), (88, dN (i + j)), (89, .v (.int .u64 ((i + j : Nat) : Int))), (90, .v (.int .u64 ((q8 : Nat) : Int))), (91, dN q8)] rfl (JD.norm [.sl v 2 30 (l.map RowD.d)] rfl ?_)))))))
        obtain ⟨x7, hx7⟩ := zV l q8 (by (try simp only [ls]); omega)
        refine zai 9 [(92, .fn 32 [] [], none), (93, .ov v, none), (94, dN m, none), (95, .v (.pointer (some ⟨bl v, m * 2 + 0, none⟩)), none), (96, RowD.d x6, none), (97, .ov v, none), (98, dN q8, none), (99, .v (.pointer (some ⟨bl v, q8 * 2 + 0, none⟩)), none), (100, RowD.d x7, none)] [.sl v 2 30 (l.map RowD.d)] (Hn := [.sl v 2 30 (l.map RowD.d)]) zaz rfl rfl rfl rfl HSub.rfl' rfl ⟨sa_p rfl rfl rfl (zb rfl), sa_p rfl rfl rfl (zb rfl), sa_p rfl rfl rfl (zb rfl), sa_p rfl rfl rfl (zC (k := m) (j := 0) rfl rfl rfl Try.runUnderlying22 Try.sizeOf30 (by first | rfl | omega) (zw hx6)), sa_p rfl rfl rfl (zam (d := RowD.d x6) rfl (i := 0) rfl (zw hx6) Try.isAgg30 Try.sizeOf30 rfl rfl), sa_p rfl rfl rfl (zb rfl), sa_p rfl rfl rfl (zb rfl), sa_p rfl rfl rfl (zC (k := q8) (j := 0) rfl rfl rfl Try.runUnderlying22 Try.sizeOf30 (by first | rfl | omega) (zw hx7)), sa_p rfl rfl rfl (zam (d := RowD.d x7) rfl (i := 0) rfl (zw hx7) Try.isAgg30 Try.sizeOf30 rfl rfl), trivial⟩ ?_
        refine OpsD.keep [0, 1, 2, 3, 4, 14, 15, 16, 83, 84, 85, 86, 87, 88, 89, 90, 91, 92, 93, 94, 95, 96, 97, 98, 99, 100] [(0, .ov v), (1, dN a), (2, dN m), (3, dN b), (4, .fn 32 [] []), (14, dN i), (15, dN j), (16, dN q8), (83, dN i), (84, dN j), (85, dB (decide (((i : Nat) : Int) < ((j : Nat) : Int)))), (86, dN i), (87, dN j), (88, dN (i + j)), (89, .v (.int .u64 ((i + j : Nat) : Int))), (90, .v (.int .u64 ((q8 : Nat) : Int))), (91, dN q8), (92, .fn 32 [] []), (93, .ov v), (94, dN m), (95, .v (.pointer (some ⟨bl v, m * 2 + 0, none⟩))), (96, RowD.d x6), (97, .ov v), (98, dN q8), (99, .v (.pointer (some ⟨bl v, q8 * 2 + 0, none⟩))), (100, RowD.d x7)] rfl (zl rfl rfl (zc7 [] _ [] rfl rfl rfl (.cons ArgC.id (.cons ArgC.id .nil)) zo Try.call32 (cmpf_c x6 x7) (.inl rfl)) ?_)
        rintro _ _ ⟨_, ⟨rfl, rfl⟩, rfl⟩
        refine OpsD.norm [.sl v 2 30 (l.map RowD.d)] rfl (za rfl rfl (zaa rfl rfl rfl) (za rfl rfl (zag rfl) (zg rfl (zf ?_))))
        refine zu _ _ rfl rfl rfl rfl (fun hc9 => ?_) (fun hc9 => ?_)
        · replace hc9 := of_decide_eq_false (p := zH 0 x6 x7 < (0 : Int)) (by simpa using hc9)
          refine zc rfl (za rfl rfl (zb rfl) (za rfl rfl (z8 (c := ((q8 + 1 : Nat) : Int)) rfl rfl (zT (by omega) (by omega))) (za rfl rfl (ze rfl) (zg rfl (zD ?_)))))
          exact zS (q8 + 1, j) ⟨sk rfl, sk rfl, sk rfl, sk rfl, sk rfl, sk rfl, sk rfl, trivial⟩ HSub.rfl' ⟨by show a ≤ q8 + 1 ∧ q8 + 1 ≤ j ∧ j ≤ m; omega, ⟨.inr ⟨_, hx7, hc9⟩⟩, hhi⟩ (by show j - (q8 + 1) < j - i; omega)
        · replace hc9 := of_decide_eq_true (p := zH 0 x6 x7 < (0 : Int)) (by simpa using hc9)
          refine zc rfl (za rfl rfl (zb rfl) (za rfl rfl (ze rfl) (zg rfl (zD ?_))))
          exact zS (i, q8) ⟨sk rfl, sk rfl, sk rfl, sk rfl, sk rfl, sk rfl, sk rfl, trivial⟩ HSub.rfl' ⟨by show a ≤ i ∧ i ≤ q8 ∧ q8 ≤ m; omega, hlo, ⟨.inr ⟨_, hx7, hc9⟩⟩⟩ (by show q8 - i < j - i; omega)
      · replace hc7 := of_decide_eq_false hc7
        refine z3 rfl (zK (zI (zE (zf (zh _ _ rfl rfl rfl (zh _ _ rfl rfl rfl (zc rfl (za rfl rfl (zb rfl) (za rfl rfl (ze rfl) (zg rfl (zf (zy _ rfl rfl (z7 (fun (g : Nat × Nat × List RowD) => [(0, .ov v), (1, dN a), (2, dN m), (3, dN b), (4, .fn 32 [] []), (14, dN i), (17, dN g.1)]) (fun (g : Nat × Nat × List RowD) => [.sl v 2 30 (g.2.2.map RowD.d)]) (fun (g : Nat × Nat × List RowD) => (g.1 = i + g.2.1 ∧ g.1 ≤ m) ∧ ((g.2.2).length = l.length) ∧ (mvDn g.2.1 g.1 g.2.2 = mvDn (m - i) m l)) (fun (g : Nat × Nat × List RowD) => g.1) _ (m, m - i, l) rfl rfl ⟨sk rfl, sk rfl, sk rfl, sk rfl, sk rfl, sk rfl, sk rfl, trivial⟩ HSub.rfl' ⟨by show m = i + (m - i) ∧ m ≤ m; omega, rfl, rfl⟩ ?_)))))))))))))
        rintro ⟨k, n, L⟩ ⟨hk, hL, hr⟩
        replace hk : k = i + n ∧ k ≤ m := hk
        replace hL : (L).length = l.length := hL
        replace hr : mvDn n k L = mvDn (m - i) m l := hr
        refine JD.keep [0, 1, 2, 3, 4, 14, 17] [(0, .ov v), (1, dN a), (2, dN m), (3, dN b), (4, .fn 32 [] []), (14, dN i), (17, dN k)] rfl (JD.norm [.sl v 2 30 (L.map RowD.d)] rfl (zh _ _ rfl rfl rfl (zh _ _ rfl rfl rfl (zc rfl (za rfl rfl (zb rfl) (za rfl rfl (zb rfl) (za rfl rfl (zaM rfl rfl rfl) (zg rfl (zf ?_)))))))))
        refine zu _ _ rfl rfl rfl rfl (fun hc10 => ?_) (fun hc10 => ?_)
        · replace hc10 := of_decide_eq_true hc10
          refine zz rfl (zf (zh _ _ rfl rfl rfl (zy _ rfl rfl (JD.keep [0, 1, 2, 3, 4, 14, 17, 108, 109, 110] [(0, .ov v), (1, dN a), (2, dN m), (3, dN b), (4, .fn 32 [] []), (14, dN i), (17, dN k), (108, dN k), (109, dN i), (110, dB (decide (((i : Nat) : Int) < ((k : Nat) : Int))))] rfl (JD.norm [.sl v 2 30 (L.map RowD.d)] rfl ?_)))))
          obtain ⟨x8, hx8⟩ := zV L (k - 1) (by (try simp only [ls]); omega)
          obtain ⟨x4, hx4⟩ := zV L k (by (try simp only [ls]); omega)
          refine zbC 16 [(113, .q (.ov v)), (114, .q (dN k)), (115, .q (.ov v)), (116, .q (dN k)), (117, .q (dN (k - 1))), (118, .q (.ov v)), (119, .q (dN k)), (120, .q (dN (k - 1))), (121, .r (.v (.pointer (some ⟨bl v, (k - 1) * 2 + 0, none⟩)))), (122, .r (RowD.d x8)), (123, .q (.ov v)), (124, .q (dN k)), (125, .r (.v (.pointer (some ⟨bl v, k * 2 + 0, none⟩)))), (126, .r (RowD.d x4)), (127, .r (.v (.pointer (some ⟨bl v, k * 2 + 0, none⟩)))), (235, .s (fun γ => [.sl v 2 30 ((L.set k x8).map RowD.d)]))] [] (Hn := fun γ => [.sl v 2 30 ((L.set k x8).map RowD.d)]) zaz rfl rfl (by kernel_rfl) (by kernel_rfl) (by kernel_rfl) HSub.none (fun _ => rfl) (fun γ => ⟨so_p rfl rfl rfl (zb rfl), so_p rfl rfl rfl (zb rfl), so_p rfl rfl rfl (zb rfl), so_p rfl rfl rfl (zb rfl), so_p rfl rfl rfl (zaR (c := ((k - 1 : Nat) : Int)) rfl rfl (zT (by omega) (by omega))), so_p rfl rfl rfl (zb rfl), so_p rfl rfl rfl (zb rfl), so_p rfl rfl rfl (zaR (c := ((k - 1 : Nat) : Int)) rfl rfl (zT (by omega) (by omega))), so_r rfl rfl rfl rfl (zC (k := k - 1) (j := 0) rfl rfl rfl Try.runUnderlying22 Try.sizeOf30 (by first | rfl | omega) (zw hx8)), so_r rfl rfl rfl rfl (zam (d := RowD.d x8) rfl (i := 0) rfl (zw hx8) Try.isAgg30 Try.sizeOf30 rfl rfl), so_p rfl rfl rfl (zb rfl), so_p rfl rfl rfl (zb rfl), so_r rfl rfl rfl rfl (zC (k := k) (j := 0) rfl rfl rfl Try.runUnderlying22 Try.sizeOf30 (by first | rfl | omega) (zw hx4)), so_r rfl rfl rfl rfl (zam (d := RowD.d x4) rfl (i := 0) rfl (zw hx4) Try.isAgg30 Try.sizeOf30 rfl rfl), so_r rfl rfl rfl rfl (zC (k := k) (j := 0) rfl rfl rfl Try.runUnderlying22 Try.sizeOf30 (by first | rfl | omega) (zw hx4)), zec rfl rfl rfl rfl rfl ((zbl (f := RowD.d) (k := k) (z := 2) (o := 0) (i := 0) (a' := x8) rfl rfl hx4 rfl (CellD.agg) Try.sizeOf30 rfl rfl rfl).mono (by rintro _ _ ⟨_, rfl⟩; rfl)) HSub.none, trivial⟩) (fun γ => ?_)
          refine OpsD.keep [0, 1, 2, 3, 4, 14, 17, 108, 109, 110, 113, 114, 115, 116, 117, 118, 119, 120, 121, 122, 123, 124, 125, 126, 127] [(0, .ov v), (1, dN a), (2, dN m), (3, dN b), (4, .fn 32 [] []), (14, dN i), (17, dN k), (108, dN k), (109, dN i), (110, dB (decide (((i : Nat) : Int) < ((k : Nat) : Int)))), (113, .ov v), (114, dN k), (115, .ov v), (116, dN k), (117, dN (k - 1)), (118, .ov v), (119, dN k), (120, dN (k - 1)), (121, .v (.pointer (some ⟨bl v, (k - 1) * 2 + 0, none⟩))), (122, RowD.d x8), (123, .ov v), (124, dN k), (125, .v (.pointer (some ⟨bl v, k * 2 + 0, none⟩))), (126, RowD.d x4), (127, .v (.pointer (some ⟨bl v, k * 2 + 0, none⟩)))] rfl ?_
          obtain ⟨x9, hx9⟩ := zV (L.set k x8) (k - 1) (by (try simp only [ls]); omega)
          refine za rfl rfl (zC (k := k - 1) (j := 0) rfl rfl rfl Try.runUnderlying22 Try.sizeOf30 (by first | rfl | omega) (zw hx9)) (zl rfl rfl (zbl (f := RowD.d) (k := k - 1) (z := 2) (o := 0) (i := 0) (a' := x4) rfl rfl hx9 rfl (CellD.agg) Try.sizeOf30 rfl rfl rfl) ?_)
          rintro _ _ ⟨rfl, rfl⟩
          refine OpsD.norm [.sl v 2 30 (((L.set k x8).set (k - 1) x4).map RowD.d)] rfl (zg rfl (zD (zf (zc rfl (za rfl rfl (zb rfl) (za rfl rfl (zaR (c := ((k - 1 : Nat) : Int)) rfl rfl (zT (by omega) (by omega))) (za rfl rfl (ze rfl) (zg rfl ?_))))))))
          exact zS (k - 1, n - 1, ((L.set k x8).set (k - 1) x4)) ⟨sk rfl, sk rfl, sk rfl, sk rfl, sk rfl, sk rfl, sk rfl, trivial⟩ HSub.rfl' ⟨by show k - 1 = i + (n - 1) ∧ k - 1 ≤ m; omega, by simp only [ls]; exact hL, by show mvDn (n - 1) (k - 1) _ = _; rw [← hr]; obtain ⟨p, rfl⟩ : ∃ p, n = p + 1 := ⟨n - 1, by omega⟩; exact (mvDn_next hx4 hx8).symm⟩ (by omega)
        · replace hc10 := of_decide_eq_false hc10
          refine z3 rfl (zK (zI (zE (zf (zB rfl (zp (PD.norm [.sl v 2 30 ((fixI (zH 0) a b l).map RowD.d)] (by rw [show b = m + 1 by omega, ← merge_dn (i := i) (zap 0) hx6 (by omega) (by omega) hA hlo.out (by rw [show i = j by omega]; exact hhi.out), ← hr, show n = 0 by omega]; rfl) ?_)))))))
          exact zx Try.results72 .nil rfl (HSub.fst 1 rfl) ⟨rfl, rfl⟩
    · replace hc6 := of_decide_eq_false hc6
      refine zz rfl (zf (zh _ _ rfl rfl rfl (zc rfl (za rfl rfl (zb rfl) (za rfl rfl (zb rfl) (za rfl rfl (z8 (c := ((a + b : Nat) : Int)) rfl rfl (zT (by omega) (by omega))) (za rfl rfl (zaO rfl (c := ((a + b : Nat) : Int)) (zdD (by omega))) ?_)))))))
      obtain ⟨q11, hq11⟩ : ∃ q, q = (a + b) / 2 := ⟨_, rfl⟩
      refine za rfl rfl ((zcr (a := a + b) (n := 1) (m := 2) rfl rfl (by decide) (by decide)).cv (Cv.eq (by rw [← hq11]))) (za rfl rfl (zaO rfl (c := ((q11 : Nat) : Int)) (cv_85_3 (by omega))) (za rfl rfl (ze rfl) (zg rfl (zf (JD.keep [0, 1, 2, 3, 4, 18] [(0, .ov v), (1, dN a), (2, dN m), (3, dN b), (4, .fn 32 [] []), (18, dN q11)] rfl (zh _ _ rfl rfl rfl (zc rfl (za rfl rfl (zb rfl) (za rfl rfl (zb rfl) (za rfl rfl (z8 (c := ((q11 + m : Nat) : Int)) rfl rfl (zT (by omega) (by omega))) (za rfl rfl (ze rfl) (zg rfl (zf (zh _ _ rfl rfl rfl (zc rfl (za rfl rfl (ze rfl) (za rfl rfl (ze rfl) (zg rfl (zf (zh _ _ rfl rfl rfl (zh _ _ rfl rfl rfl (zc rfl (za rfl rfl (zb rfl) (za rfl rfl (zb rfl) (za rfl rfl (zaM rfl rfl rfl) (zg rfl (zf ?_)))))))))))))))))))))))))))
      refine zdN (fun (g : Nat × Nat) => [(0, .ov v), (1, dN a), (2, dN m), (3, dN b), (4, .fn 32 [] []), (18, dN q11), (19, dN (q11 + m)), (20, dN g.1), (21, dN g.2)]) (fun (g : Nat × Nat) => [.sl v 2 30 (l.map RowD.d)]) (fun (g : Nat × Nat) => ((a ≤ g.1 ∧ q11 + m ≤ g.1 + b) ∧ g.1 ≤ g.2 ∧ g.2 ≤ m ∧ g.2 ≤ q11) ∧ (Hid (g.1 = a ∨ g.1 + b = q11 + m ∨ ∃ x y, l[g.1 - 1]? = some x ∧ l[q11 + m - g.1]? = some y ∧ ¬ zH 0 y x < 0)) ∧ (Hid (g.2 = m ∨ g.2 = q11 ∨ ∃ x y, l[g.2]? = some x ∧ l[q11 + m - g.2 - 1]? = some y ∧ zH 0 y x < 0))) (fun _ hQ12 => ?_) ?_
      · skip
        refine zu _ _ rfl rfl rfl rfl (fun hc13 => ?_) (fun hc13 => ?_)
        · replace hc13 := of_decide_eq_true hc13
          refine zh _ _ rfl rfl rfl (zc rfl (za rfl rfl (zb rfl) (za rfl rfl (zb rfl) (za rfl rfl (zaR (c := (((q11 + m) - b : Nat) : Int)) rfl rfl (zT (by omega) (by omega))) (za rfl rfl (ze rfl) (zg rfl (zf (JD.keep [0, 1, 2, 3, 4, 18, 19, 20, 21] [(0, .ov v), (1, dN a), (2, dN m), (3, dN b), (4, .fn 32 [] []), (18, dN q11), (19, dN (q11 + m)), (20, dN ((q11 + m) - b)), (21, dI 0)] rfl (zc rfl (za rfl rfl (zb rfl) (za rfl rfl (ze rfl) (zg rfl ?_))))))))))))
          exact PD.sub [(0, .ov v), (1, dN a), (2, dN m), (3, dN b), (4, .fn 32 [] []), (18, dN q11), (19, dN (q11 + m)), (20, dN ((q11 + m) - b)), (21, dN q11)] ⟨sk rfl, sk rfl, sk rfl, sk rfl, sk rfl, sk rfl, sk rfl, sk rfl, sk rfl, trivial⟩ (hQ12 ((q11 + m) - b, q11) ⟨by show (a ≤ ((q11 + m) - b) ∧ q11 + m ≤ ((q11 + m) - b) + b) ∧ ((q11 + m) - b) ≤ q11 ∧ q11 ≤ m ∧ q11 ≤ q11; omega, by have h : ((q11 + m) - b) = a ∨ ((q11 + m) - b) + b = q11 + m := (by omega); exact h.elim (fun h => ⟨.inl h⟩) (fun h => ⟨.inr (.inl h)⟩), by have h : q11 = m ∨ q11 = q11 := (by omega); exact h.elim (fun h => ⟨.inl h⟩) (fun h => ⟨.inr (.inl h)⟩)⟩)
        · replace hc13 := of_decide_eq_false hc13
          refine zh _ _ rfl rfl rfl (zc rfl (za rfl rfl (zb rfl) (za rfl rfl (ze rfl) (zg rfl (zf (zc rfl (za rfl rfl (zb rfl) (za rfl rfl (ze rfl) (zg rfl ?_)))))))))
          exact PD.sub [(0, .ov v), (1, dN a), (2, dN m), (3, dN b), (4, .fn 32 [] []), (18, dN q11), (19, dN (q11 + m)), (20, dN a), (21, dN m)] ⟨sk rfl, sk rfl, sk rfl, sk rfl, sk rfl, sk rfl, sk rfl, sk rfl, sk rfl, trivial⟩ (hQ12 (a, m) ⟨by show (a ≤ a ∧ q11 + m ≤ a + b) ∧ a ≤ m ∧ m ≤ m ∧ m ≤ q11; omega, by have h : a = a ∨ a + b = q11 + m := (by omega); exact h.elim (fun h => ⟨.inl h⟩) (fun h => ⟨.inr (.inl h)⟩), by have h : m = m ∨ m = q11 := (by omega); exact h.elim (fun h => ⟨.inl h⟩) (fun h => ⟨.inr (.inl h)⟩)⟩)
      · skip
        rintro ⟨s, r⟩ ⟨hbd, hlo, hhi⟩
        replace hbd : (a ≤ s ∧ q11 + m ≤ s + b) ∧ s ≤ r ∧ r ≤ m ∧ r ≤ q11 := hbd
        replace hlo : Hid (s = a ∨ s + b = q11 + m ∨ ∃ x y, l[s - 1]? = some x ∧ l[q11 + m - s]? = some y ∧ ¬ zH 0 y x < 0) := hlo
        replace hhi : Hid (r = m ∨ r = q11 ∨ ∃ x y, l[r]? = some x ∧ l[q11 + m - r - 1]? = some y ∧ zH 0 y x < 0) := hhi
        refine PD.keep [0, 1, 2, 3, 4, 18, 19, 20, 21] [(0, .ov v), (1, dN a), (2, dN m), (3, dN b), (4, .fn 32 [] []), (18, dN q11), (19, dN (q11 + m)), (20, dN s), (21, dN r)] rfl (PD.norm [.sl v 2 30 (l.map RowD.d)] rfl (zf (zh _ _ rfl rfl rfl (zc rfl (za rfl rfl (zb rfl) (za rfl rfl (zaR (c := (((q11 + m) - 1 : Nat) : Int)) rfl rfl (zT (by omega) (by omega))) (za rfl rfl (ze rfl) (zg rfl (zf (zh _ _ rfl rfl rfl (zy _ rfl rfl ?_)))))))))))
        refine z7 (fun (g : Nat × Nat) => [(0, .ov v), (1, dN a), (2, dN m), (3, dN b), (4, .fn 32 [] []), (18, dN q11), (19, dN (q11 + m)), (22, dN ((q11 + m) - 1)), (20, dN g.1), (21, dN g.2)]) (fun (g : Nat × Nat) => [.sl v 2 30 (l.map RowD.d)]) (fun (g : Nat × Nat) => ((a ≤ g.1 ∧ q11 + m ≤ g.1 + b) ∧ g.1 ≤ g.2 ∧ g.2 ≤ m ∧ g.2 ≤ q11) ∧ (Hid (g.1 = a ∨ g.1 + b = q11 + m ∨ ∃ x y, l[g.1 - 1]? = some x ∧ l[q11 + m - g.1]? = some y ∧ ¬ zH 0 y x < 0)) ∧ (Hid (g.2 = m ∨ g.2 = q11 ∨ ∃ x y, l[g.2]? = some x ∧ l[q11 + m - g.2 - 1]? = some y ∧ zH 0 y x < 0))) (fun (g : Nat × Nat) => g.2 - g.1) _ (s, r) rfl rfl ⟨sk rfl, sk rfl, sk rfl, sk rfl, sk rfl, sk rfl, sk rfl, sk rfl, sk rfl, sk rfl, trivial⟩ HSub.rfl' ⟨hbd, hlo, hhi⟩ ?_
        rintro ⟨s, r⟩ ⟨hbd, hlo, hhi⟩
        replace hbd : (a ≤ s ∧ q11 + m ≤ s + b) ∧ s ≤ r ∧ r ≤ m ∧ r ≤ q11 := hbd
        replace hlo : Hid (s = a ∨ s + b = q11 + m ∨ ∃ x y, l[s - 1]? = some x ∧ l[q11 + m - s]? = some y ∧ ¬ zH 0 y x < 0) := hlo
        replace hhi : Hid (r = m ∨ r = q11 ∨ ∃ x y, l[r]? = some x ∧ l[q11 + m - r - 1]? = some y ∧ zH 0 y x < 0) := hhi
        refine JD.keep [0, 1, 2, 3, 4, 18, 19, 22, 20, 21] [(0, .ov v), (1, dN a), (2, dN m), (3, dN b), (4, .fn 32 [] []), (18, dN q11), (19, dN (q11 + m)), (22, dN ((q11 + m) - 1)), (20, dN s), (21, dN r)] rfl (JD.norm [.sl v 2 30 (l.map RowD.d)] rfl (zh _ _ rfl rfl rfl (zh _ _ rfl rfl rfl (zc rfl (za rfl rfl (zb rfl) (za rfl rfl (zb rfl) (za rfl rfl (zaa rfl rfl rfl) (zg rfl (zf ?_)))))))))
        refine zu _ _ rfl rfl rfl rfl (fun hc14 => ?_) (fun hc14 => ?_)
        · replace hc14 := of_decide_eq_true hc14
          refine zz rfl (zf (zy _ rfl rfl (zh _ _ rfl rfl rfl (zc rfl (za rfl rfl (zb rfl) (za rfl rfl (zb rfl) (za rfl rfl (z8 (c := ((s + r : Nat) : Int)) rfl rfl (zT (by omega) (by omega))) (za rfl rfl (zaO rfl (c := ((s + r : Nat) : Int)) (zdD (by omega))) ?_))))))))
          obtain ⟨q15, hq15⟩ : ∃ q, q = (s + r) / 2 := ⟨_, rfl⟩
          refine za rfl rfl ((zcr (a := s + r) (n := 1) (m := 2) rfl rfl (by decide) (by decide)).cv (Cv.eq (by rw [← hq15]))) (za rfl rfl (zaO rfl (c := ((q15 : Nat) : Int)) (cv_85_3 (by omega))) (za rfl rfl (ze rfl) (zg rfl (zf (zh _ _ rfl rfl rfl (JD.keep [0, 1, 2, 3, 4, 18, 19, 20, 21, 22, 23, 149, 150, 151, 152, 153, 154, 155, 156, 157] [(0, .ov v), (1, dN a), (2, dN m), (3, dN b), (4, .fn 32 [] []), (18, dN q11), (19, dN (q11 + m)), (20, dN s), (21, dN r), (22, dN ((q11 + m) - 1)), (23, dN q15), (149, dN s), (150, dN r), (151, dB (decide (((s : Nat) : Int) < ((r : Nat) : Int)))), (152, dN s), (153, dN r), (154, dN (s + r)), (155, .v (.int .u64 ((s + r : Nat) : Int))), (156, .v (.int .u64 ((q15 : Nat) : Int))), (157, dN q15)] rfl (JD.norm [.sl v 2 30 (l.map RowD.d)] rfl ?_)))))))
          obtain ⟨x10, hx10⟩ := zV l (((q11 + m) - 1) - q15) (by (try simp only [ls]); omega)
          obtain ⟨x11, hx11⟩ := zV l q15 (by (try simp only [ls]); omega)
          refine zai 11 [(158, .fn 32 [] [], none), (159, .ov v, none), (160, dN ((q11 + m) - 1), none), (161, dN q15, none), (162, dN (((q11 + m) - 1) - q15), none), (163, .v (.pointer (some ⟨bl v, (((q11 + m) - 1) - q15) * 2 + 0, none⟩)), none), (164, RowD.d x10, none), (165, .ov v, none), (166, dN q15, none), (167, .v (.pointer (some ⟨bl v, q15 * 2 + 0, none⟩)), none), (168, RowD.d x11, none)] [.sl v 2 30 (l.map RowD.d)] (Hn := [.sl v 2 30 (l.map RowD.d)]) zaz rfl rfl rfl rfl HSub.rfl' rfl ⟨sa_p rfl rfl rfl (zb rfl), sa_p rfl rfl rfl (zb rfl), sa_p rfl rfl rfl (zb rfl), sa_p rfl rfl rfl (zb rfl), sa_p rfl rfl rfl (zaR (c := ((((q11 + m) - 1) - q15 : Nat) : Int)) rfl rfl (zT (by omega) (by omega))), sa_p rfl rfl rfl (zC (k := ((q11 + m) - 1) - q15) (j := 0) rfl rfl rfl Try.runUnderlying22 Try.sizeOf30 (by first | rfl | omega) (zw hx10)), sa_p rfl rfl rfl (zam (d := RowD.d x10) rfl (i := 0) rfl (zw hx10) Try.isAgg30 Try.sizeOf30 rfl rfl), sa_p rfl rfl rfl (zb rfl), sa_p rfl rfl rfl (zb rfl), sa_p rfl rfl rfl (zC (k := q15) (j := 0) rfl rfl rfl Try.runUnderlying22 Try.sizeOf30 (by first | rfl | omega) (zw hx11)), sa_p rfl rfl rfl (zam (d := RowD.d x11) rfl (i := 0) rfl (zw hx11) Try.isAgg30 Try.sizeOf30 rfl rfl), trivial⟩ ?_
          refine OpsD.keep [0, 1, 2, 3, 4, 18, 19, 20, 21, 22, 23, 149, 150, 151, 152, 153, 154, 155, 156, 157, 158, 159, 160, 161, 162, 163, 164, 165, 166, 167, 168] [(0, .ov v), (1, dN a), (2, dN m), (3, dN b), (4, .fn 32 [] []), (18, dN q11), (19, dN (q11 + m)), (20, dN s), (21, dN r), (22, dN ((q11 + m) - 1)), (23, dN q15), (149, dN s), (150, dN r), (151, dB (decide (((s : Nat) : Int) < ((r : Nat) : Int)))), (152, dN s), (153, dN r), (154, dN (s + r)), (155, .v (.int .u64 ((s + r : Nat) : Int))), (156, .v (.int .u64 ((q15 : Nat) : Int))), (157, dN q15), (158, .fn 32 [] []), (159, .ov v), (160, dN ((q11 + m) - 1)), (161, dN q15), (162, dN (((q11 + m) - 1) - q15)), (163, .v (.pointer (some ⟨bl v, (((q11 + m) - 1) - q15) * 2 + 0, none⟩))), (164, RowD.d x10), (165, .ov v), (166, dN q15), (167, .v (.pointer (some ⟨bl v, q15 * 2 + 0, none⟩))), (168, RowD.d x11)] rfl ?_
          refine zl rfl rfl (zc7 [] _ [] rfl rfl rfl (.cons ArgC.id (.cons ArgC.id .nil)) zo Try.call32 (cmpf_c x10 x11) (.inl rfl)) ?_
          rintro _ _ ⟨_, ⟨rfl, rfl⟩, rfl⟩
          refine OpsD.norm [.sl v 2 30 (l.map RowD.d)] rfl (za rfl rfl (zaa rfl rfl rfl) (za rfl rfl (zag rfl) (zg rfl (zf ?_))))
          refine zu _ _ rfl rfl rfl rfl (fun hc16 => ?_) (fun hc16 => ?_)
          · replace hc16 := of_decide_eq_false (p := zH 0 x10 x11 < (0 : Int)) (by simpa using hc16)
            refine zc rfl (za rfl rfl (zb rfl) (za rfl rfl (z8 (c := ((q15 + 1 : Nat) : Int)) rfl rfl (zT (by omega) (by omega))) (za rfl rfl (ze rfl) (zg rfl (zD ?_)))))
            exact zS (q15 + 1, r) ⟨sk rfl, sk rfl, sk rfl, sk rfl, sk rfl, sk rfl, sk rfl, sk rfl, sk rfl, sk rfl, trivial⟩ HSub.rfl' ⟨by show (a ≤ (q15 + 1) ∧ q11 + m ≤ (q15 + 1) + b) ∧ (q15 + 1) ≤ r ∧ r ≤ m ∧ r ≤ q11; omega, ⟨.inr (.inr ⟨_, _, hx11, by rw [show q11 + m - (q15 + 1) = q11 + m - 1 - q15 by omega]; exact hx10, hc16⟩)⟩, hhi⟩ (by show r - (q15 + 1) < r - s; omega)
          · replace hc16 := of_decide_eq_true (p := zH 0 x10 x11 < (0 : Int)) (by simpa using hc16)
            refine zc rfl (za rfl rfl (zb rfl) (za rfl rfl (ze rfl) (zg rfl (zD ?_))))
            exact zS (s, q15) ⟨sk rfl, sk rfl, sk rfl, sk rfl, sk rfl, sk rfl, sk rfl, sk rfl, sk rfl, sk rfl, trivial⟩ HSub.rfl' ⟨by show (a ≤ s ∧ q11 + m ≤ s + b) ∧ s ≤ q15 ∧ q15 ≤ m ∧ q15 ≤ q11; omega, hlo, ⟨.inr (.inr ⟨_, _, hx11, by rw [show q11 + m - q15 - 1 = q11 + m - 1 - q15 by omega]; exact hx10, hc16⟩)⟩⟩ (by show q15 - s < r - s; omega)
        · replace hc14 := of_decide_eq_false hc14
          refine z3 rfl (zK (zI (zE (zf (zh _ _ rfl rfl rfl (zc rfl (za rfl rfl (zb rfl) (za rfl rfl (zb rfl) (za rfl rfl (zaR (c := (((q11 + m) - s : Nat) : Int)) rfl rfl (zT (by omega) (by omega))) (za rfl rfl (ze rfl) (zg rfl (zf (JD.keep [0, 1, 2, 3, 4, 18, 20, 24] [(0, .ov v), (1, dN a), (2, dN m), (3, dN b), (4, .fn 32 [] []), (18, dN q11), (20, dN s), (24, dN ((q11 + m) - s))] rfl (zh _ _ rfl rfl rfl (zh _ _ rfl rfl rfl (JD.keep [0, 1, 2, 3, 4, 18, 20, 24] [(0, .ov v), (1, dN a), (2, dN m), (3, dN b), (4, .fn 32 [] []), (18, dN q11), (20, dN s), (24, dN ((q11 + m) - s))] rfl ?_))))))))))))))))
          refine zaj 185 ((decide (((s : Nat) : Int) < ((m : Nat) : Int)) && decide (((m : Nat) : Int) < (((q11 + m) - s : Nat) : Int)))) [.sl v 2 30 (l.map RowD.d)] (fun _ hQ17 => ?_) ?_
          · skip
            by_cases hg18 : ((s : Nat) : Int) < ((m : Nat) : Int)
            · skip
              refine zc rfl (za rfl rfl (zb rfl) (za rfl rfl (zb rfl) (za rfl rfl (zaa rfl rfl (decide_eq_true hg18)) (za rfl rfl (zb rfl) (zi rfl rfl rfl rfl rfl (zb rfl) (zi rfl rfl rfl rfl rfl (zb rfl) (zi rfl rfl rfl rfl rfl (zaa rfl rfl rfl) (za rfl rfl (zr rfl rfl) (zg rfl ?_)))))))))
              exact PD.sub ((185, dB (decide (((s : Nat) : Int) < ((m : Nat) : Int)) && decide (((m : Nat) : Int) < (((q11 + m) - s : Nat) : Int)))) :: [(0, .ov v), (1, dN a), (2, dN m), (3, dN b), (4, .fn 32 [] []), (18, dN q11), (20, dN s), (24, dN ((q11 + m) - s))]) ⟨sc rfl (Cv.eq (congrArg (fun b => D.v (.bool b)) (by first | (simp [hc14, hg18]; done) | (simp_all; done)))), sk rfl, sk rfl, sk rfl, sk rfl, sk rfl, sk rfl, sk rfl, sk rfl, trivial⟩ hQ17
            · skip
              refine zc rfl (za rfl rfl (zb rfl) (za rfl rfl (zb rfl) (za rfl rfl (zaa rfl rfl (decide_eq_false hg18)) (za rfl rfl (zb rfl) (zj rfl rfl rfl rfl rfl (by decide) (zj rfl rfl rfl rfl rfl (by decide) (zj rfl rfl rfl rfl rfl (by decide) (za rfl rfl (zm rfl rfl) (zg rfl ?_)))))))))
              exact PD.sub ((185, dB (decide (((s : Nat) : Int) < ((m : Nat) : Int)) && decide (((m : Nat) : Int) < (((q11 + m) - s : Nat) : Int)))) :: [(0, .ov v), (1, dN a), (2, dN m), (3, dN b), (4, .fn 32 [] []), (18, dN q11), (20, dN s), (24, dN ((q11 + m) - s))]) ⟨sc rfl (Cv.eq (congrArg (fun b => D.v (.bool b)) (by first | (simp [hc14, hg18]; done) | (simp_all; done)))), sk rfl, sk rfl, sk rfl, sk rfl, sk rfl, sk rfl, sk rfl, sk rfl, trivial⟩ hQ17
          · skip
            refine zf ?_
            have hsr : r = s := by omega
            have hfo : Found (zH 0) l a m b s (q11 + m - s) q11 := Found.of (zap 0) hA hB h3 (by omega) (by omega) (by omega) (by omega) (by omega) (hlo.out.elim (fun h => .inl h) (fun h => h.elim (fun h => .inr (.inl (by omega))) (fun ⟨x, y, e1, e2, e3⟩ => .inr (.inr ⟨x, y, e1, e2, e3⟩)))) (by rw [hsr] at hhi; exact hhi.out.elim (fun h => .inl h) (fun h => h.elim (fun h => .inr (.inl (by omega))) (fun ⟨x, y, e1, e2, e3⟩ => .inr (.inr ⟨x, y, e1, e2, e3⟩))))
            obtain ⟨g1, g2, g3, g4, g5⟩ := hfo.segs h3 hA hB
            refine zdN (fun (g : Unit) => [(0, .ov v), (1, dN a), (3, dN b), (4, .fn 32 [] []), (18, dN q11), (20, dN s), (24, dN ((q11 + m) - s))]) (fun (g : Unit) => [.sl v 2 30 ((rotL s m (q11 + m - s) l).map RowD.d)]) (fun (g : Unit) => True) (fun _ hQ19 => ?_) ?_
            · skip
              refine zu _ _ rfl rfl rfl rfl (fun hc20 => ?_) (fun hc20 => ?_)
              · simp only [Bool.and_eq_true, Bool.or_eq_true, Bool.not_eq_true', Bool.not_eq_false', Bool.and_eq_false_iff, Bool.or_eq_false_iff, decide_eq_true_eq, decide_eq_false_iff_not, Decidable.not_not, ne_eq] at hc20
                refine zc rfl (za rfl rfl (zb rfl) (za rfl rfl (zb rfl) (za rfl rfl (zb rfl) (za rfl rfl (zb rfl) (za rfl rfl (zb rfl) (zl rfl rfl (zt [.sl v 2 30 (l.map RowD.d)] [] [] rfl rfl (.cons ArgC.id (.cons ArgC.id (.cons ArgC.id (.cons ArgC.id (.cons ArgC.id .nil))))) zo Try.call80 (rotR_c v l s m ((q11 + m) - s) 0 (by omega) (by omega) (by omega) (by omega)) (.inl rfl)) ?_))))))
                rintro _ _ ⟨_, ⟨rfl, rfl⟩, rfl⟩
                refine OpsD.norm [.sl v 2 30 ((rotL s m ((q11 + m) - s) l).map RowD.d)] rfl (zg rfl ?_)
                exact PD.sub [(0, .ov v), (1, dN a), (3, dN b), (4, .fn 32 [] []), (18, dN q11), (20, dN s), (24, dN ((q11 + m) - s))] ⟨sk rfl, sk rfl, sk rfl, sk rfl, sk rfl, sk rfl, sk rfl, trivial⟩ (hQ19 () trivial)
              · simp only [Bool.and_eq_true, Bool.or_eq_true, Bool.not_eq_true', Bool.not_eq_false', Bool.and_eq_false_iff, Bool.or_eq_false_iff, decide_eq_true_eq, decide_eq_false_iff_not, Decidable.not_not, ne_eq] at hc20
                refine zz rfl (PD.norm [.sl v 2 30 ((rotL s m (q11 + m - s) l).map RowD.d)] (by rw [rot_none (by omega) (by omega) (by omega) (by omega)]) ?_)
                exact PD.sub [(0, .ov v), (1, dN a), (3, dN b), (4, .fn 32 [] []), (18, dN q11), (20, dN s), (24, dN ((q11 + m) - s))] ⟨sk rfl, sk rfl, sk rfl, sk rfl, sk rfl, sk rfl, sk rfl, trivial⟩ (hQ19 () trivial)
            · skip
              rintro _ _
              refine PD.keep [0, 1, 3, 4, 18, 20, 24] [(0, .ov v), (1, dN a), (3, dN b), (4, .fn 32 [] []), (18, dN q11), (20, dN s), (24, dN ((q11 + m) - s))] rfl (PD.norm [.sl v 2 30 ((rotL s m (q11 + m - s) l).map RowD.d)] rfl (zf (zh _ _ rfl rfl rfl (zh _ _ rfl rfl rfl (JD.keep [0, 1, 3, 4, 18, 20, 24] [(0, .ov v), (1, dN a), (3, dN b), (4, .fn 32 [] []), (18, dN q11), (20, dN s), (24, dN ((q11 + m) - s))] rfl ?_)))))
              refine zaj 199 ((decide (((a : Nat) : Int) < ((s : Nat) : Int)) && decide (((s : Nat) : Int) < ((q11 : Nat) : Int)))) [.sl v 2 30 ((rotL s m (q11 + m - s) l).map RowD.d)] (fun _ hQ21 => ?_) ?_
              · skip
                by_cases hg22 : ((a : Nat) : Int) < ((s : Nat) : Int)
                · skip
                  refine zc rfl (za rfl rfl (zb rfl) (za rfl rfl (zb rfl) (za rfl rfl (zaa rfl rfl (decide_eq_true hg22)) (za rfl rfl (zb rfl) (zi rfl rfl rfl rfl rfl (zb rfl) (zi rfl rfl rfl rfl rfl (zb rfl) (zi rfl rfl rfl rfl rfl (zaa rfl rfl rfl) (za rfl rfl (zr rfl rfl) (zg rfl ?_)))))))))
                  exact PD.sub ((199, dB (decide (((a : Nat) : Int) < ((s : Nat) : Int)) && decide (((s : Nat) : Int) < ((q11 : Nat) : Int)))) :: [(0, .ov v), (1, dN a), (3, dN b), (4, .fn 32 [] []), (18, dN q11), (20, dN s), (24, dN ((q11 + m) - s))]) ⟨sc rfl (Cv.eq (congrArg (fun b => D.v (.bool b)) (by first | (simp [hc14, hg22]; done) | (simp_all; done)))), sk rfl, sk rfl, sk rfl, sk rfl, sk rfl, sk rfl, sk rfl, trivial⟩ hQ21
                · skip
                  refine zc rfl (za rfl rfl (zb rfl) (za rfl rfl (zb rfl) (za rfl rfl (zaa rfl rfl (decide_eq_false hg22)) (za rfl rfl (zb rfl) (zj rfl rfl rfl rfl rfl (by decide) (zj rfl rfl rfl rfl rfl (by decide) (zj rfl rfl rfl rfl rfl (by decide) (za rfl rfl (zm rfl rfl) (zg rfl ?_)))))))))
                  exact PD.sub ((199, dB (decide (((a : Nat) : Int) < ((s : Nat) : Int)) && decide (((s : Nat) : Int) < ((q11 : Nat) : Int)))) :: [(0, .ov v), (1, dN a), (3, dN b), (4, .fn 32 [] []), (18, dN q11), (20, dN s), (24, dN ((q11 + m) - s))]) ⟨sc rfl (Cv.eq (congrArg (fun b => D.v (.bool b)) (by first | (simp [hc14, hg22]; done) | (simp_all; done)))), sk rfl, sk rfl, sk rfl, sk rfl, sk rfl, sk rfl, sk rfl, trivial⟩ hQ21
              · skip
                refine zf ?_
                refine zdN (fun (g : Unit) => [(0, .ov v), (3, dN b), (4, .fn 32 [] []), (18, dN q11), (24, dN ((q11 + m) - s))]) (fun (g : Unit) => [.sl v 2 30 ((fixI (zH 0) a q11 (rotL s m (q11 + m - s) l)).map RowD.d)]) (fun (g : Unit) => True) (fun _ hQ23 => ?_) ?_
                · skip
                  refine zu _ _ rfl rfl rfl rfl (fun hc24 => ?_) (fun hc24 => ?_)
                  · simp only [Bool.and_eq_true, Bool.or_eq_true, Bool.not_eq_true', Bool.not_eq_false', Bool.and_eq_false_iff, Bool.or_eq_false_iff, decide_eq_true_eq, decide_eq_false_iff_not, Decidable.not_not, ne_eq] at hc24
                    refine zc rfl (za rfl rfl (zb rfl) (za rfl rfl (zb rfl) (za rfl rfl (zb rfl) (za rfl rfl (zb rfl) (za rfl rfl (zb rfl) (zl rfl rfl (zt [.sl v 2 30 ((rotL s m (q11 + m - s) l).map RowD.d)] [] [] rfl rfl (.cons ArgC.id (.cons ArgC.id (.cons ArgC.id (.cons ArgC.id (.cons ArgC.id .nil))))) zo Try.call72 (ih (rotL s m (q11 + m - s) l) a s q11 (by omega) (by omega) (by omega) (by omega) (by omega) g1 g2) (.inl rfl)) ?_))))))
                    rintro _ _ ⟨_, ⟨rfl, rfl⟩, rfl⟩
                    refine OpsD.norm [.sl v 2 30 ((fixI (zH 0) a q11 (rotL s m (q11 + m - s) l)).map RowD.d)] rfl (zg rfl ?_)
                    exact PD.sub [(0, .ov v), (3, dN b), (4, .fn 32 [] []), (18, dN q11), (24, dN ((q11 + m) - s))] ⟨sk rfl, sk rfl, sk rfl, sk rfl, sk rfl, trivial⟩ (hQ23 () trivial)
                  · simp only [Bool.and_eq_true, Bool.or_eq_true, Bool.not_eq_true', Bool.not_eq_false', Bool.and_eq_false_iff, Bool.or_eq_false_iff, decide_eq_true_eq, decide_eq_false_iff_not, Decidable.not_not, ne_eq] at hc24
                    refine zz rfl (PD.norm [.sl v 2 30 ((fixI (zH 0) a q11 (rotL s m (q11 + m - s) l)).map RowD.d)] (by rw [fixI_id (zap 0) (by omega) (by omega) (half_srt g1 g2 (by omega) (by omega) (by omega) (by omega))]) ?_)
                    exact PD.sub [(0, .ov v), (3, dN b), (4, .fn 32 [] []), (18, dN q11), (24, dN ((q11 + m) - s))] ⟨sk rfl, sk rfl, sk rfl, sk rfl, sk rfl, trivial⟩ (hQ23 () trivial)
                · skip
                  rintro _ _
                  refine PD.keep [0, 3, 4, 18, 24] [(0, .ov v), (3, dN b), (4, .fn 32 [] []), (18, dN q11), (24, dN ((q11 + m) - s))] rfl (PD.norm [.sl v 2 30 ((fixI (zH 0) a q11 (rotL s m (q11 + m - s) l)).map RowD.d)] rfl (zf (zh _ _ rfl rfl rfl (JD.keep [0, 3, 4, 18, 24] [(0, .ov v), (3, dN b), (4, .fn 32 [] []), (18, dN q11), (24, dN ((q11 + m) - s))] rfl ?_))))
                  refine zaj 213 ((decide (((q11 : Nat) : Int) < (((q11 + m) - s : Nat) : Int)) && decide ((((q11 + m) - s : Nat) : Int) < ((b : Nat) : Int)))) [.sl v 2 30 ((fixI (zH 0) a q11 (rotL s m (q11 + m - s) l)).map RowD.d)] (fun _ hQ25 => ?_) ?_
                  · skip
                    by_cases hg26 : ((q11 : Nat) : Int) < (((q11 + m) - s : Nat) : Int)
                    · skip
                      refine zc rfl (za rfl rfl (zb rfl) (za rfl rfl (zb rfl) (za rfl rfl (zaa rfl rfl (decide_eq_true hg26)) (za rfl rfl (zb rfl) (zi rfl rfl rfl rfl rfl (zb rfl) (zi rfl rfl rfl rfl rfl (zb rfl) (zi rfl rfl rfl rfl rfl (zaa rfl rfl rfl) (za rfl rfl (zr rfl rfl) (zg rfl ?_)))))))))
                      exact PD.sub ((213, dB (decide (((q11 : Nat) : Int) < (((q11 + m) - s : Nat) : Int)) && decide ((((q11 + m) - s : Nat) : Int) < ((b : Nat) : Int)))) :: [(0, .ov v), (3, dN b), (4, .fn 32 [] []), (18, dN q11), (24, dN ((q11 + m) - s))]) ⟨sc rfl (Cv.eq (congrArg (fun b => D.v (.bool b)) (by first | (simp [hc14, hg26]; done) | (simp_all; done)))), sk rfl, sk rfl, sk rfl, sk rfl, sk rfl, trivial⟩ hQ25
                    · skip
                      refine zc rfl (za rfl rfl (zb rfl) (za rfl rfl (zb rfl) (za rfl rfl (zaa rfl rfl (decide_eq_false hg26)) (za rfl rfl (zb rfl) (zj rfl rfl rfl rfl rfl (by decide) (zj rfl rfl rfl rfl rfl (by decide) (zj rfl rfl rfl rfl rfl (by decide) (za rfl rfl (zm rfl rfl) (zg rfl ?_)))))))))
                      exact PD.sub ((213, dB (decide (((q11 : Nat) : Int) < (((q11 + m) - s : Nat) : Int)) && decide ((((q11 + m) - s : Nat) : Int) < ((b : Nat) : Int)))) :: [(0, .ov v), (3, dN b), (4, .fn 32 [] []), (18, dN q11), (24, dN ((q11 + m) - s))]) ⟨sc rfl (Cv.eq (congrArg (fun b => D.v (.bool b)) (by first | (simp [hc14, hg26]; done) | (simp_all; done)))), sk rfl, sk rfl, sk rfl, sk rfl, sk rfl, trivial⟩ hQ25
                  · skip
                    refine zf ?_
                    have k3 := seg_fixI_right (c := zH 0) (L := (rotL s m (q11 + m - s) l)) (a := a) (b := q11) (d := q11) (e := (q11 + m - s)) (by omega) (by omega) (Nat.le_refl _)
                    have k4 := seg_fixI_right (c := zH 0) (L := (rotL s m (q11 + m - s) l)) (a := a) (b := q11) (d := (q11 + m - s)) (e := b) (by omega) (by omega) (by omega)
                    have k5 := fixI_len (c := zH 0) (L := (rotL s m (q11 + m - s) l)) (a := a) (b := q11) (by omega) (by omega)
                    rw [← k3] at g3
                    rw [← k4] at g4
                    refine zdN (fun (g : Unit) => []) (fun (g : Unit) => [.sl v 2 30 ((fixI (zH 0) q11 b (fixI (zH 0) a q11 (rotL s m (q11 + m - s) l))).map RowD.d)]) (fun (g : Unit) => True) (fun _ hQ27 => ?_) ?_
                    · skip
                      refine zu _ _ rfl rfl rfl rfl (fun hc28 => ?_) (fun hc28 => ?_)
                      · simp only [Bool.and_eq_true, Bool.or_eq_true, Bool.not_eq_true', Bool.not_eq_false', Bool.and_eq_false_iff, Bool.or_eq_false_iff, decide_eq_true_eq, decide_eq_false_iff_not, Decidable.not_not, ne_eq] at hc28
                        refine zc rfl (za rfl rfl (zb rfl) (za rfl rfl (zb rfl) (za rfl rfl (zb rfl) (za rfl rfl (zb rfl) (za rfl rfl (zb rfl) (zl rfl rfl (zt [.sl v 2 30 ((fixI (zH 0) a q11 (rotL s m (q11 + m - s) l)).map RowD.d)] [] [] rfl rfl (.cons ArgC.id (.cons ArgC.id (.cons ArgC.id (.cons ArgC.id (.cons ArgC.id .nil))))) zo Try.call72 (ih (fixI (zH 0) a q11 (rotL s m (q11 + m - s) l)) q11 ((q11 + m) - s) b (by omega) (by omega) (by omega) (by omega) (by omega) g3 g4) (.inl rfl)) ?_))))))
                        rintro _ _ ⟨_, ⟨rfl, rfl⟩, rfl⟩
                        refine OpsD.norm [.sl v 2 30 ((fixI (zH 0) q11 b (fixI (zH 0) a q11 (rotL s m (q11 + m - s) l))).map RowD.d)] rfl (zg rfl ?_)
                        exact PD.sub [] trivial (hQ27 () trivial)
                      · simp only [Bool.and_eq_true, Bool.or_eq_true, Bool.not_eq_true', Bool.not_eq_false', Bool.and_eq_false_iff, Bool.or_eq_false_iff, decide_eq_true_eq, decide_eq_false_iff_not, Decidable.not_not, ne_eq] at hc28
                        refine zz rfl (PD.norm [.sl v 2 30 ((fixI (zH 0) q11 b (fixI (zH 0) a q11 (rotL s m (q11 + m - s) l))).map RowD.d)] (by rw [fixI_id (zap 0) (by omega) (by omega) (half_srt g3 g4 (by omega) (by omega) (by omega) (by omega))]) ?_)
                        exact PD.sub [] trivial (hQ27 () trivial)
                    · skip
                      rintro _ _
                      refine PD.keep [] [] rfl (PD.norm [.sl v 2 30 ((fixI (zH 0) q11 b (fixI (zH 0) a q11 (rotL s m (q11 + m - s) l))).map RowD.d)] rfl (PD.norm [.sl v 2 30 ((fixI (zH 0) a b l).map RowD.d)] (by rw [hfo.merge (zap 0) h3 hA hB]) ?_))
                      exact zb1 Try.results72 .nil rfl (HSub.fst 1 rfl) ⟨rfl, rfl⟩

theorem symM_c (v : Value) (o : Int) : ∀ (n : Nat) (l : List RowD) (a m b : Nat), b - a = n → a < m → m < b → b ≤ l.length → l.length ≤ 1000000 → Srt (zH 0) (seg l a m) → Srt (zH 0) (seg l m b) →
    CD Try.prog 72 [.sl v 2 30 (l.map RowD.d)] [.ov v, dN a, dN m, dN b, .fn 32 [] []] (fun r H' => r = .tup [] ∧ H' = [.sl v 2 30 ((fixI (zH 0) a b l).map RowD.d)]) := by
  intro n
  induction n using Nat.strongRecOn with
  | _ n ih =>
    intro l a m b hn h1 h2 h3 hl hA hB
    exact symM_s v l a m b o h1 h2 h3 hl hA hB (fun l' a' m' b' h k1 k2 k3 kl kA kB => ih (b' - a') (by omega) l' a' m' b' rfl k1 k2 k3 kl kA kB)

set_option maxHeartbeats 4000000 in
set_option maxRecDepth 100000 in
theorem stabR_c (v : Value) (l : List RowD) (o : Int) (hl : l.length ≤ 1000000) :
    CD Try.prog 61 [.sl v 2 30 (l.map RowD.d)] [.ov v, dN l.length, .fn 32 [] []] (fun r H' => r = .tup [] ∧ H' = [.sl v 2 30 ((zN (zH 0) l).map RowD.d)]) := by
  refine zL Try.func61 rfl (N := 63) rfl rfl (fun C => ?_)
  refine JD.keep [0, 1, 2] [(0, .ov v), (1, dN l.length), (2, .fn 32 [] [])] rfl (zh _ _ rfl rfl rfl (zc rfl (za rfl rfl (ze rfl) (zg rfl (zf (zh _ _ rfl rfl rfl (zc rfl (za rfl rfl (zb rfl) (za rfl rfl (ze rfl) (za rfl rfl (ze rfl) (zg rfl (zf (zh _ _ rfl rfl rfl (zy _ rfl rfl (z7 (fun (g : Nat × List RowD) => [(0, .ov v), (1, dN l.length), (2, .fn 32 [] []), (6, dI 20), (7, dN g.1), (8, dN (g.1 + 20))]) (fun (g : Nat × List RowD) => [.sl v 2 30 (g.2.map RowD.d)]) (fun (g : Nat × List RowD) => (g.1 ≤ l.length) ∧ (Ahead (zH 0) 20 g.1 g.2) ∧ (Like (zH 0) l g.2) ∧ ((g.2).length = l.length)) (fun (g : Nat × List RowD) => l.length - g.1) _ (0, l) rfl rfl ⟨sk rfl, sk rfl, sk rfl, sk rfl, sk rfl, sk rfl, trivial⟩ HSub.rfl' ⟨Nat.zero_le _, Ahead.zero _ _, Like.rfl' _, rfl⟩ ?_)))))))))))))))
  rintro ⟨a, L⟩ ⟨ha, hah, hlk, hlen⟩
  replace ha : a ≤ l.length := ha
  replace hah : Ahead (zH 0) 20 a L := hah
  replace hlk : Like (zH 0) l L := hlk
  replace hlen : (L).length = l.length := hlen
  refine JD.keep [0, 1, 2, 6, 7, 8] [(0, .ov v), (1, dN l.length), (2, .fn 32 [] []), (6, dI 20), (7, dN a), (8, dN (a + 20))] rfl (JD.norm [.sl v 2 30 (L.map RowD.d)] rfl (zh _ _ rfl rfl rfl (zh _ _ rfl rfl rfl (zc rfl (za rfl rfl (zb rfl) (za rfl rfl (zb rfl) (za rfl rfl (zaS rfl rfl rfl) (zg rfl (zf ?_)))))))))
  refine zu _ _ rfl rfl rfl rfl (fun hc1 => ?_) (fun hc1 => ?_)
  · replace hc1 := of_decide_eq_true hc1
    refine zz rfl (zf (zy _ rfl rfl (zh _ _ rfl rfl rfl (zc rfl (za rfl rfl (zb rfl) (za rfl rfl (zb rfl) (za rfl rfl (zb rfl) (za rfl rfl (zb rfl) (zl rfl rfl (zt [.sl v 2 30 (L.map RowD.d)] [] [] rfl rfl (.cons ArgC.id (.cons ArgC.id (.cons ArgC.id (.cons ArgC.id .nil)))) zo Try.call71 (insortR_c v L a (a + 20) 0 (by omega) (by omega) (by omega)) (.inl rfl)) ?_)))))))))
    rintro _ _ ⟨_, ⟨rfl, rfl⟩, rfl⟩
    refine OpsD.norm [.sl v 2 30 ((fixI (zH 0) a (a + 20) L).map RowD.d)] rfl (zg rfl (zf (zh _ _ rfl rfl rfl (zc rfl (za rfl rfl (zb rfl) (za rfl rfl (ze rfl) (zg rfl (zf (zc rfl (za rfl rfl (zb rfl) (za rfl rfl (zb rfl) (za rfl rfl (z8 (c := (((a + 20) + 20 : Nat) : Int)) rfl rfl (zT (by omega) (by omega))) (za rfl rfl (ze rfl) (zg rfl (zD ?_)))))))))))))))
    exact zS (a + 20, (fixI (zH 0) a (a + 20) L)) ⟨sk rfl, sk rfl, sk rfl, sk rfl, sk rfl, sk rfl, trivial⟩ HSub.rfl' ⟨by show a + 20 ≤ l.length; omega, hah.next (zap 0) (by omega), hlk.fix (zap 0) (by omega) (by omega), (hlk.fix (zap 0) (by omega) (by omega)).len⟩ (by omega)
  · replace hc1 := of_decide_eq_false hc1
    refine z3 rfl (zK (zI (zE (zf (zh _ _ rfl rfl rfl (zc rfl (za rfl rfl (zb rfl) (za rfl rfl (zb rfl) (za rfl rfl (zb rfl) (za rfl rfl (zb rfl) (zl rfl rfl (zt [.sl v 2 30 (L.map RowD.d)] [] [] rfl rfl (.cons ArgC.id (.cons ArgC.id (.cons ArgC.id (.cons ArgC.id .nil)))) zo Try.call71 (insortR_c v L a l.length 0 (by omega) (by omega) (by omega)) (.inl rfl)) ?_)))))))))))
    rintro _ _ ⟨_, ⟨rfl, rfl⟩, rfl⟩
    refine OpsD.norm [.sl v 2 30 ((fixI (zH 0) a l.length L).map RowD.d)] rfl (zg rfl (zf (zy _ rfl rfl ?_)))
    have hall := hah.last (zap 0) (by omega) (by omega)
    rw [hlk.len] at hall
    refine z7 (fun (g : Nat × List RowD) => [(0, .ov v), (1, dN l.length), (2, .fn 32 [] []), (6, dN g.1)]) (fun (g : Nat × List RowD) => [.sl v 2 30 (g.2.map RowD.d)]) (fun (g : Nat × List RowD) => (20 ≤ g.1 ∧ g.1 ≤ 2000000) ∧ (AllB (zH 0) g.1 g.2) ∧ (Like (zH 0) l g.2) ∧ ((g.2).length = l.length)) (fun (g : Nat × List RowD) => l.length - g.1) _ (20, (fixI (zH 0) a l.length L)) rfl rfl ⟨sk rfl, sk rfl, sk rfl, sk rfl, trivial⟩ HSub.rfl' ⟨by show 20 ≤ 20 ∧ 20 ≤ 2000000; omega, hall, hlk.fix (zap 0) (by omega) (by omega), (hlk.fix (zap 0) (by omega) (by omega)).len⟩ ?_
    rintro ⟨bs, L⟩ ⟨hbs, hall, hlk, hlen⟩
    replace hbs : 20 ≤ bs ∧ bs ≤ 2000000 := hbs
    replace hall : AllB (zH 0) bs L := hall
    replace hlk : Like (zH 0) l L := hlk
    replace hlen : (L).length = l.length := hlen
    refine JD.keep [0, 1, 2, 6] [(0, .ov v), (1, dN l.length), (2, .fn 32 [] []), (6, dN bs)] rfl (JD.norm [.sl v 2 30 (L.map RowD.d)] rfl (zh _ _ rfl rfl rfl (zh _ _ rfl rfl rfl (zc rfl (za rfl rfl (zb rfl) (za rfl rfl (zb rfl) (za rfl rfl (zaa rfl rfl rfl) (zg rfl (zf ?_)))))))))
    refine zu _ _ rfl rfl rfl rfl (fun hc2 => ?_) (fun hc2 => ?_)
    · replace hc2 := of_decide_eq_true hc2
      refine zz rfl (zf (zy _ rfl rfl (zh _ _ rfl rfl rfl (zc rfl (za rfl rfl (zb rfl) (za rfl rfl (zea (c := ((2 * bs : Nat) : Int)) rfl rfl (zT (by omega) (by omega))) (za rfl rfl (ze rfl) (za rfl rfl (ze rfl) (zg rfl (zf (zh _ _ rfl rfl rfl (zy _ rfl rfl ?_))))))))))))
      refine z7 (fun (g : Nat × List RowD) => [(0, .ov v), (1, dN l.length), (2, .fn 32 [] []), (6, dN bs), (28, dN bs), (29, dN l.length), (30, dB (decide (((bs : Nat) : Int) < ((l.length : Nat) : Int)))), (31, dN bs), (32, dN (2 * bs)), (7, dN g.1), (8, dN (g.1 + 2 * bs))]) (fun (g : Nat × List RowD) => [.sl v 2 30 (g.2.map RowD.d)]) (fun (g : Nat × List RowD) => (g.1 ≤ l.length) ∧ (Half (zH 0) bs g.1 g.2) ∧ (Like (zH 0) l g.2) ∧ ((g.2).length = l.length)) (fun (g : Nat × List RowD) => l.length - g.1) _ (0, L) rfl rfl ⟨sk rfl, sk rfl, sk rfl, sk rfl, sk rfl, sk rfl, sk rfl, sk rfl, sk rfl, sk rfl, sc rfl (Cv.eq (congrArg (fun n => D.v (.int .i64 n)) (by omega))), trivial⟩ HSub.rfl' ⟨Nat.zero_le _, Half.zero hall, hlk, hlen⟩ ?_
      rintro ⟨a, M⟩ ⟨ha, hha, hlk2, hlen2⟩
      replace ha : a ≤ l.length := ha
      replace hha : Half (zH 0) bs a M := hha
      replace hlk2 : Like (zH 0) l M := hlk2
      replace hlen2 : (M).length = l.length := hlen2
      refine JD.keep [0, 1, 2, 6, 28, 29, 30, 31, 32, 7, 8] [(0, .ov v), (1, dN l.length), (2, .fn 32 [] []), (6, dN bs), (28, dN bs), (29, dN l.length), (30, dB (decide (((bs : Nat) : Int) < ((l.length : Nat) : Int)))), (31, dN bs), (32, dN (2 * bs)), (7, dN a), (8, dN (a + 2 * bs))] rfl (JD.norm [.sl v 2 30 (M.map RowD.d)] rfl (zh _ _ rfl rfl rfl (zh _ _ rfl rfl rfl (zc rfl (za rfl rfl (zb rfl) (za rfl rfl (zb rfl) (za rfl rfl (zaS rfl rfl rfl) (zg rfl (zf ?_)))))))))
      refine zu _ _ rfl rfl rfl rfl (fun hc3 => ?_) (fun hc3 => ?_)
      · replace hc3 := of_decide_eq_true hc3
        refine zz rfl (zf (zy _ rfl rfl (zh _ _ rfl rfl rfl (zc rfl (za rfl rfl (zb rfl) (za rfl rfl (zb rfl) (za rfl rfl (zb rfl) (za rfl rfl (zb rfl) (za rfl rfl (z8 (c := ((a + bs : Nat) : Int)) rfl rfl (zT (by omega) (by omega))) (za rfl rfl (zb rfl) (za rfl rfl (zb rfl) (zl rfl rfl (zt [.sl v 2 30 (M.map RowD.d)] [] [] rfl rfl (.cons ArgC.id (.cons ArgC.id (.cons ArgC.id (.cons ArgC.id (.cons ArgC.id .nil))))) zo Try.call72 (symM_c v o _ M a (a + bs) (a + 2 * bs) rfl (by omega) (by omega) (by omega) (by omega) hha.one.1 hha.one.2) (.inl rfl)) ?_))))))))))))
        rintro _ _ ⟨_, ⟨rfl, rfl⟩, rfl⟩
        refine OpsD.norm [.sl v 2 30 ((fixI (zH 0) a (a + 2 * bs) M).map RowD.d)] rfl (zg rfl (zf (zh _ _ rfl rfl rfl (zc rfl (za rfl rfl (zb rfl) (za rfl rfl (ze rfl) (zg rfl (zf (zc rfl (za rfl rfl (zb rfl) (za rfl rfl (zb rfl) (za rfl rfl (zea (c := ((2 * bs : Nat) : Int)) rfl rfl (zT (by omega) (by omega))) (za rfl rfl (z8 (c := (((a + 2 * bs) + (2 * bs) : Nat) : Int)) rfl rfl (zT (by omega) (by omega))) (za rfl rfl (ze rfl) (zg rfl (zD ?_))))))))))))))))
        exact zS (a + 2 * bs, (fixI (zH 0) a (a + 2 * bs) M)) ⟨sk rfl, sk rfl, sk rfl, sk rfl, sk rfl, sk rfl, sk rfl, sk rfl, sk rfl, sk rfl, sk rfl, trivial⟩ HSub.rfl' ⟨by show a + 2 * bs ≤ l.length; omega, hha.next (zap 0) (by omega), hlk2.fix (zap 0) (by omega) (by omega), (hlk2.fix (zap 0) (by omega) (by omega)).len⟩ (by omega)
      · replace hc3 := of_decide_eq_false hc3
        refine z3 rfl (zK (zI (zE (zf (zh _ _ rfl rfl rfl (zh _ _ rfl rfl rfl (zc rfl (za rfl rfl (zb rfl) (za rfl rfl (zb rfl) (za rfl rfl (z8 (c := ((a + bs : Nat) : Int)) rfl rfl (zT (by omega) (by omega))) (za rfl rfl (ze rfl) (zg rfl (zf (zh _ _ rfl rfl rfl (zc rfl (za rfl rfl (zb rfl) (za rfl rfl (zb rfl) (za rfl rfl (zaa rfl rfl rfl) (zg rfl (zf ?_))))))))))))))))))))
        refine zdN (fun (g : List RowD) => [(0, .ov v), (1, dN l.length), (2, .fn 32 [] []), (6, dN bs), (7, dN a), (8, dN (a + 2 * bs)), (9, dN (a + bs)), (28, dN bs), (29, dN l.length), (30, dB (decide (((bs : Nat) : Int) < ((l.length : Nat) : Int)))), (31, dN bs), (32, dN (2 * bs)), (33, dN (a + 2 * bs)), (34, dN l.length), (35, dB (decide (((a + 2 * bs : Nat) : Int) ≤ ((l.length : Nat) : Int)))), (49, dN a), (50, dN bs), (51, dN (a + bs)), (52, dN (a + bs)), (53, dN l.length), (54, dB (decide (((a + bs : Nat) : Int) < ((l.length : Nat) : Int))))]) (fun (g : List RowD) => [.sl v 2 30 (g.map RowD.d)]) (fun (g : List RowD) => (AllB (zH 0) (2 * bs) g) ∧ (Like (zH 0) l g) ∧ ((g).length = l.length)) (fun _ hQ4 => ?_) ?_
        · skip
          refine zu _ _ rfl rfl rfl rfl (fun hc5 => ?_) (fun hc5 => ?_)
          · replace hc5 := of_decide_eq_true hc5
            refine zc rfl (za rfl rfl (zb rfl) (za rfl rfl (zb rfl) (za rfl rfl (zb rfl) (za rfl rfl (zb rfl) (za rfl rfl (zb rfl) (zl rfl rfl (zt [.sl v 2 30 (M.map RowD.d)] [] [] rfl rfl (.cons ArgC.id (.cons ArgC.id (.cons ArgC.id (.cons ArgC.id (.cons ArgC.id .nil))))) zo Try.call72 (symM_c v o _ M a (a + bs) l.length rfl (by omega) (by omega) (by omega) (by omega) hha.one.1 (by have k := hha.one.2; rwa [zcR (by omega), hlk2.len] at k)) (.inl rfl)) ?_))))))
            rintro _ _ ⟨_, ⟨rfl, rfl⟩, rfl⟩
            refine OpsD.norm [.sl v 2 30 ((fixI (zH 0) a l.length M).map RowD.d)] rfl (zg rfl ?_)
            exact PD.sub [(0, .ov v), (1, dN l.length), (2, .fn 32 [] []), (6, dN bs), (7, dN a), (8, dN (a + 2 * bs)), (9, dN (a + bs)), (28, dN bs), (29, dN l.length), (30, dB (decide (((bs : Nat) : Int) < ((l.length : Nat) : Int)))), (31, dN bs), (32, dN (2 * bs)), (33, dN (a + 2 * bs)), (34, dN l.length), (35, dB (decide (((a + 2 * bs : Nat) : Int) ≤ ((l.length : Nat) : Int)))), (49, dN a), (50, dN bs), (51, dN (a + bs)), (52, dN (a + bs)), (53, dN l.length), (54, dB (decide (((a + bs : Nat) : Int) < ((l.length : Nat) : Int))))] ⟨sk rfl, sk rfl, sk rfl, sk rfl, sk rfl, sk rfl, sk rfl, sk rfl, sk rfl, sk rfl, sk rfl, sk rfl, sk rfl, sk rfl, sk rfl, sk rfl, sk rfl, sk rfl, sk rfl, sk rfl, sk rfl, trivial⟩ (hQ4 (fixI (zH 0) a l.length M) ⟨by have k := hha.last2 (zap 0) (by omega) (by omega); rwa [hlk2.len] at k, hlk2.fix (zap 0) (by omega) (by omega), (hlk2.fix (zap 0) (by omega) (by omega)).len⟩)
          · replace hc5 := of_decide_eq_false hc5
            refine zz rfl ?_
            exact PD.sub [(0, .ov v), (1, dN l.length), (2, .fn 32 [] []), (6, dN bs), (7, dN a), (8, dN (a + 2 * bs)), (9, dN (a + bs)), (28, dN bs), (29, dN l.length), (30, dB (decide (((bs : Nat) : Int) < ((l.length : Nat) : Int)))), (31, dN bs), (32, dN (2 * bs)), (33, dN (a + 2 * bs)), (34, dN l.length), (35, dB (decide (((a + 2 * bs : Nat) : Int) ≤ ((l.length : Nat) : Int)))), (49, dN a), (50, dN bs), (51, dN (a + bs)), (52, dN (a + bs)), (53, dN l.length), (54, dB (decide (((a + bs : Nat) : Int) < ((l.length : Nat) : Int))))] ⟨sk rfl, sk rfl, sk rfl, sk rfl, sk rfl, sk rfl, sk rfl, sk rfl, sk rfl, sk rfl, sk rfl, sk rfl, sk rfl, sk rfl, sk rfl, sk rfl, sk rfl, sk rfl, sk rfl, sk rfl, sk rfl, trivial⟩ (hQ4 M ⟨hha.last (by omega), hlk2, hlen2⟩)
        · skip
          rintro L2 ⟨hb2, hlk3, hlen3⟩
          refine PD.keep [0, 1, 2, 6, 7, 8, 9, 28, 29, 30, 31, 32, 33, 34, 35, 49, 50, 51, 52, 53, 54] [(0, .ov v), (1, dN l.length), (2, .fn 32 [] []), (6, dN bs), (7, dN a), (8, dN (a + 2 * bs)), (9, dN (a + bs)), (28, dN bs), (29, dN l.length), (30, dB (decide (((bs : Nat) : Int) < ((l.length : Nat) : Int)))), (31, dN bs), (32, dN (2 * bs)), (33, dN (a + 2 * bs)), (34, dN l.length), (35, dB (decide (((a + 2 * bs : Nat) : Int) ≤ ((l.length : Nat) : Int)))), (49, dN a), (50, dN bs), (51, dN (a + bs)), (52, dN (a + bs)), (53, dN l.length), (54, dB (decide (((a + bs : Nat) : Int) < ((l.length : Nat) : Int))))] rfl (PD.norm [.sl v 2 30 (L2.map RowD.d)] rfl (zf (zc rfl (za rfl rfl (zb rfl) (za rfl rfl (zea (c := ((bs * 2 : Nat) : Int)) rfl rfl (zT (by omega) (by omega))) (za rfl rfl (ze rfl) (zg rfl (zD ?_))))))))
          exact zS (bs * 2, L2) ⟨sk rfl, sk rfl, sk rfl, sk rfl, trivial⟩ HSub.rfl' ⟨by show 20 ≤ bs * 2 ∧ bs * 2 ≤ 2000000; omega, by rw [Nat.mul_comm]; exact hb2, hlk3, hlk3.len⟩ (by omega)
    · replace hc2 := of_decide_eq_false hc2
      refine z3 rfl (zK (zI (zE (PD.norm [.sl v 2 30 ((zN (zH 0) l).map RowD.d)] (by rw [hlk.sorted (zap 0) (hall.sorted (by omega))]) ?_))))
      exact zb1 Try.results61 .nil rfl (HSub.fst 1 rfl) ⟨rfl, rfl⟩

set_option maxHeartbeats 4000000 in
set_option maxRecDepth 100000 in
theorem sortstR_c (v : Value) (l : List RowD) (o : Int) (hl : l.length ≤ 1000000) :
    CD Try.prog 46 [.sl v 2 30 (l.map RowD.d)] [.ov v, .fn 32 [] []] (fun r H' => r = .tup [] ∧ H' = [.sl v 2 30 ((zN (zH 0) l).map RowD.d)]) := by
  refine zL Try.func46 rfl (N := 9) rfl rfl (fun C => ?_)
  refine JD.keep [0, 1] [(0, .ov v), (1, .fn 32 [] [])] rfl (zc rfl (za rfl rfl (zb rfl) (za rfl rfl (zb rfl) (za rfl rfl (z6 (n := l.length) (j := 0) rfl rfl Try.runUnderlying22 (List.length_map _)) (za rfl rfl (zb rfl) (zl rfl rfl (zt [.sl v 2 30 (l.map RowD.d)] [] [] rfl rfl (.cons ArgC.id (.cons ArgC.id (.cons ArgC.id .nil))) zo Try.call61 (stabR_c v l 0 (by omega)) (.inl rfl)) ?_))))))
  rintro _ _ ⟨_, ⟨rfl, rfl⟩, rfl⟩
  refine OpsD.norm [.sl v 2 30 ((zN (zH 0) l).map RowD.d)] rfl (zg rfl ?_)
  exact zb1 Try.results46 .nil rfl (HSub.fst 1 rfl) ⟨rfl, rfl⟩
end Lp
