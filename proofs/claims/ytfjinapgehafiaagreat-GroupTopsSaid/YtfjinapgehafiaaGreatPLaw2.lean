/- Walks, printed by a program of mine. -/
import Derived.Test.YtfjinapgehafiaaGreatV61A
set_option linter.unusedSimpArgs false
set_option linter.unusedVariables false
set_option maxHeartbeats 4000000
set_option maxRecDepth 100000
namespace Lp
open Go Go.RowKit Go.Proofs

namespace HdYtfjinapgehafiaaGreatV61
theorem zcK {a : Int} (h : -9223372036854775808 ≤ a ∧ a ≤ 9223372036854775807) : ∀ w, (convert 165 3 (.int .u64 a)).run Tryz.prog w = .ok (.int .i64 a) w := fun w => by
  have e : IntKind.i64.wrap a = a := by exact w64 (by omega)
  simp [convert, run_underlying (show Tryz.prog.underlying 165 = some _ by kernel_rfl), run_underlying (show Tryz.prog.underlying 3 = some _ by kernel_rfl), Conv.intToInt, e]
theorem zby {a : Int} (h : 0 ≤ a ∧ a ≤ 18446744073709551615) : ∀ w, (convert 3 165 (.int .i64 a)).run Tryz.prog w = .ok (.int .u64 a) w := fun w => by
  have e : IntKind.u64.wrap a = a := by simp [IntKind.wrap, IntKind.bits, IntKind.signed]; omega
  simp [convert, run_underlying (show Tryz.prog.underlying 3 = some _ by kernel_rfl), run_underlying (show Tryz.prog.underlying 165 = some _ by kernel_rfl), Conv.intToInt, e]
end HdYtfjinapgehafiaaGreatV61
open HdYtfjinapgehafiaaGreatV61

theorem symM_s (v : Value) (l : List RowD) (a m b : Nat) (o : Int) (h1 : a < m) (h2 : m < b) (h3 : b ≤ l.length) (hl : l.length ≤ 1000000) (hA : Srt (zI 0) (seg l a m)) (hB : Srt (zI 0) (seg l m b)) (ih : ∀ (l' : List RowD) (a' m' b' : Nat), b' - a' < b - a → a' < m' → m' < b' → b' ≤ l'.length → l'.length ≤ 1000000 → Srt (zI 0) (seg l' a' m') → Srt (zI 0) (seg l' m' b') → CD Tryz.prog 162 [.sl v 2 53 (l'.map RowD.d)] [.ov v, dN a', dN m', dN b', .fn 42 [] []] (fun r H' => r = .tup [] ∧ H' = [.sl v 2 53 ((fixI (zI 0) a' b' l').map RowD.d)])) :
    CD Tryz.prog 162 [.sl v 2 53 (l.map RowD.d)] [.ov v, dN a, dN m, dN b, .fn 42 [] []] (fun r H' => r = .tup [] ∧ H' = [.sl v 2 53 ((fixI (zI 0) a b l).map RowD.d)]) := by
  refine zq Tryz.func162 rfl (N := 220) rfl rfl (fun C => ?_)
  refine jk [0, 1, 2, 3, 4] rfl (jS rfl (jT rfl (oR 2 rfl (oP rfl (zav (c := ((m - a : Nat) : Int)) rfl rfl (zB (by omega) (by omega))) (oP rfl (zR rfl rfl rfl) (oZ rfl ?_))))))
  refine jD rfl (fun hc1 => ?_) (fun hc1 => ?_)
  · skip
    refine jT rfl (oR 2 rfl (oZ rfl (jT rfl (oR 2 rfl (oZ rfl (jS rfl (jB rfl ?_)))))))
    obtain ⟨x1, hx1⟩ := zy l a (by (try simp only [ls]); omega)
    refine jl2 (fun (a_ : Nat) (b_ : Nat) => [(0, .ov v), (1, dN a), (2, dN m), (3, dN b), (4, .fn 42 [] []), (10, dN a_), (11, dN b_)]) (fun a_ b_ => [.sl v 2 53 (l.map RowD.d)]) (fun a_ b_ => (m ≤ a_ ∧ a_ ≤ b_ ∧ b_ ≤ b) ∧ (Hid (a_ = m ∨ ∃ y, l[a_ - 1]? = some y ∧ zI 0 y x1 < 0)) ∧ (Hid (b_ = b ∨ ∃ y, l[b_]? = some y ∧ ¬ zI 0 y x1 < 0))) (fun a_ b_ => b_ - a_) m b rfl (sa rfl) HSub.rfl' ⟨by show m ≤ m ∧ m ≤ b ∧ b ≤ b; omega, ⟨.inl rfl⟩, ⟨.inl rfl⟩⟩ ?_
    rintro i j ⟨hij, hlo, hhi⟩
    refine ja rfl (jn rfl (jS rfl (jT rfl (oR 2 rfl (oP rfl (zQ rfl rfl rfl) (oZ rfl ?_))))))
    refine jD rfl (fun hc2 => ?_) (fun hc2 => ?_)
    · skip
      refine zj rfl (zb (jB rfl (jT rfl (oR 2 rfl (oP rfl (zO (c := ((i + j : Nat) : Int)) rfl rfl (zB (by omega) (by omega))) (oP rfl (zbN rfl (c := ((i + j : Nat) : Int)) (zby (by omega))) ?_))))))
      obtain ⟨q3, hq3⟩ : ∃ q, q = (i + j) / 2 := ⟨_, rfl⟩
      refine oP rfl ((zdT (a := i + j) (n := 1) (m := 2) rfl rfl (by decide) (by decide)).cv (Cv.eq (by rw [← hq3]))) (oP rfl (zbN rfl (c := ((q3 : Nat) : Int)) (zcK (by omega))) (oR 1 rfl (oZ rfl (jS rfl (jk [0, 1, 2, 3, 4, 10, 11, 12, 31, 32, 33, 34, 35, 36, 37, 38, 39] rfl (jn rfl ?_))))))
      obtain ⟨x2, hx2⟩ := zy l q3 (by (try simp only [ls]); omega)
      refine zW 9 [(40, .fn 42 [] [], none), (41, .ov v, none), (42, dN q3, none), (43, .v (.pointer (some ⟨bl v, q3 * 2 + 0, none⟩)), none), (44, RowD.d x2, none), (45, .ov v, none), (46, dN a, none), (47, .v (.pointer (some ⟨bl v, a * 2 + 0, none⟩)), none), (48, RowD.d x1, none)] [.sl v 2 53 (l.map RowD.d)] (Hn := [.sl v 2 53 (l.map RowD.d)]) mixed rfl rfl rfl rfl HSub.rfl' rfl ⟨sa_p rfl rfl rfl (zc rfl), sa_p rfl rfl rfl (zc rfl), sa_p rfl rfl rfl (zc rfl), sa_p rfl rfl rfl (zi (k := q3) (j := 0) rfl rfl rfl Tryz.runUnderlying22 Tryz.sizeOf53 (by first | rfl | omega) (zg hx2)), sa_p rfl rfl rfl (zX (d := RowD.d x2) rfl (i := 0) rfl (zg hx2) Tryz.isAgg53 Tryz.sizeOf53 rfl rfl), sa_p rfl rfl rfl (zc rfl), sa_p rfl rfl rfl (zc rfl), sa_p rfl rfl rfl (zi (k := a) (j := 0) rfl rfl rfl Tryz.runUnderlying22 Tryz.sizeOf53 (by first | rfl | omega) (zg hx1)), sa_p rfl rfl rfl (zX (d := RowD.d x1) rfl (i := 0) rfl (zg hx1) Tryz.isAgg53 Tryz.sizeOf53 rfl rfl), trivial⟩ (ok [0, 1, 2, 3, 4, 10, 11, 12, 31, 32, 33, 34, 35, 36, 37, 38, 39, 40, 41, 42, 43, 44, 45, 46, 47, 48] rfl (oE rfl (zbk [] _ [] rfl rfl rfl (.cons ArgC.id (.cons ArgC.id .nil)) zz Tryz.call42 (cmpf_c x2 x1) (.inl rfl)) ?_))
      rintro _ _ ⟨_, ⟨rfl, rfl⟩, rfl⟩
      refine on rfl (oP rfl (zQ rfl rfl rfl) (oZ rfl ?_))
      refine jD rfl (fun hc4 => ?_) (fun hc4 => ?_)
      · skip
        refine za rfl (oR 1 rfl (oP rfl (zO (c := ((q3 + 1 : Nat) : Int)) rfl rfl (zB (by omega) (by omega))) (oR 1 rfl (ze rfl (zp ?_)))))
        exact pl2 (q3 + 1) j (sa rfl) HSub.rfl' ⟨by show m ≤ q3 + 1 ∧ q3 + 1 ≤ j ∧ j ≤ b; omega, ⟨.inr ⟨_, hx2, hc4⟩⟩, hhi⟩ (by show j - (q3 + 1) < j - i; omega)
      · skip
        refine za rfl (oR 2 rfl (ze rfl (zp ?_)))
        exact pl2 i q3 (sa rfl) HSub.rfl' ⟨by show m ≤ i ∧ i ≤ q3 ∧ q3 ≤ b; omega, hlo, ⟨.inr ⟨_, hx2, hc4⟩⟩⟩ (by show q3 - i < j - i; omega)
    · skip
      refine zL rfl (zo (zn (zk (zb (jS rfl (jT rfl (oR 2 rfl (oZ rfl (jB rfl (jl3 (fun (a_ : Nat) (b_ : Nat) (c_ : List RowD) => [(0, .ov v), (1, dN a), (2, dN m), (3, dN b), (4, .fn 42 [] []), (10, dN i), (13, dN a_)]) (fun a_ b_ c_ => [.sl v 2 53 (c_.map RowD.d)]) (fun a_ b_ c_ => (a_ + b_ + 1 = i) ∧ ((c_).length = l.length) ∧ (mvUp b_ a_ c_ = mvUp (i - 1 - a) a l)) (fun a_ b_ c_ => i - a_) a (i - 1 - a) l rfl (sa rfl) HSub.rfl' ⟨by show a + (i - 1 - a) + 1 = i; omega, rfl, rfl⟩ ?_))))))))))
      rintro k n L ⟨hk, hL, hr⟩
      refine ja rfl (jn rfl (jS rfl (jT rfl (oR 2 rfl (oP rfl (zav (c := ((i - 1 : Nat) : Int)) rfl rfl (zB (by omega) (by omega))) (oP rfl (zQ rfl rfl rfl) (oZ rfl ?_)))))))
      refine jD rfl (fun hc5 => ?_) (fun hc5 => ?_)
      · skip
        refine zj rfl (zb (jS rfl (jB rfl (jk [0, 1, 2, 3, 4, 10, 13, 55, 56, 57, 58] rfl (jn rfl ?_)))))
        obtain ⟨x3, hx3⟩ := zy L (k + 1) (by (try simp only [ls]); omega)
        obtain ⟨x4, hx4⟩ := zy L k (by (try simp only [ls]); omega)
        refine zbj 16 [(61, .q (.ov v)), (62, .q (dN k)), (63, .q (.ov v)), (64, .q (dN k)), (65, .q (dN (k + 1))), (66, .q (.ov v)), (67, .q (dN k)), (68, .q (dN (k + 1))), (69, .r (.v (.pointer (some ⟨bl v, (k + 1) * 2 + 0, none⟩)))), (70, .r (RowD.d x3)), (71, .q (.ov v)), (72, .q (dN k)), (73, .r (.v (.pointer (some ⟨bl v, k * 2 + 0, none⟩)))), (74, .r (RowD.d x4)), (75, .r (.v (.pointer (some ⟨bl v, k * 2 + 0, none⟩)))), (235, .s (fun γ => [.sl v 2 53 ((L.set k x3).map RowD.d)]))] [] (Hn := fun γ => [.sl v 2 53 ((L.set k x3).map RowD.d)]) mixed rfl rfl (by kernel_rfl) (by kernel_rfl) (by kernel_rfl) HSub.none (fun _ => rfl) (fun γ => ⟨so_p rfl rfl rfl (zc rfl), so_p rfl rfl rfl (zc rfl), so_p rfl rfl rfl (zc rfl), so_p rfl rfl rfl (zc rfl), so_p rfl rfl rfl (zO (c := ((k + 1 : Nat) : Int)) rfl rfl (zB (by omega) (by omega))), so_p rfl rfl rfl (zc rfl), so_p rfl rfl rfl (zc rfl), so_p rfl rfl rfl (zO (c := ((k + 1 : Nat) : Int)) rfl rfl (zB (by omega) (by omega))), so_r rfl rfl rfl rfl (zi (k := k + 1) (j := 0) rfl rfl rfl Tryz.runUnderlying22 Tryz.sizeOf53 (by first | rfl | omega) (zg hx3)), so_r rfl rfl rfl rfl (zX (d := RowD.d x3) rfl (i := 0) rfl (zg hx3) Tryz.isAgg53 Tryz.sizeOf53 rfl rfl), so_p rfl rfl rfl (zc rfl), so_p rfl rfl rfl (zc rfl), so_r rfl rfl rfl rfl (zi (k := k) (j := 0) rfl rfl rfl Tryz.runUnderlying22 Tryz.sizeOf53 (by first | rfl | omega) (zg hx4)), so_r rfl rfl rfl rfl (zX (d := RowD.d x4) rfl (i := 0) rfl (zg hx4) Tryz.isAgg53 Tryz.sizeOf53 rfl rfl), so_r rfl rfl rfl rfl (zi (k := k) (j := 0) rfl rfl rfl Tryz.runUnderlying22 Tryz.sizeOf53 (by first | rfl | omega) (zg hx4)), zdN rfl rfl rfl rfl rfl ((zaE (f := RowD.d) (k := k) (z := 2) (o := 0) (i := 0) (a' := x3) rfl rfl hx4 rfl (CellD.agg) Tryz.sizeOf53 rfl rfl rfl).mono (by rintro _ _ ⟨_, rfl⟩; rfl)) HSub.none, trivial⟩) (fun γ => ?_)
        refine ok [0, 1, 2, 3, 4, 10, 13, 55, 56, 57, 58, 61, 62, 63, 64, 65, 66, 67, 68, 69, 70, 71, 72, 73, 74, 75] rfl ?_
        obtain ⟨x5, hx5⟩ := zy (L.set k x3) (k + 1) (by (try simp only [ls]); omega)
        refine oP rfl (zi (k := k + 1) (j := 0) rfl rfl rfl Tryz.runUnderlying22 Tryz.sizeOf53 (by first | rfl | omega) (zg hx5)) (oE rfl (zaE (f := RowD.d) (k := k + 1) (z := 2) (o := 0) (i := 0) (a' := x4) rfl rfl hx5 rfl (CellD.agg) Tryz.sizeOf53 rfl rfl rfl) ?_)
        rintro _ _ ⟨rfl, rfl⟩
        refine on rfl (ze rfl (zp (zb (za rfl (oR 1 rfl (oP rfl (zO (c := ((k + 1 : Nat) : Int)) rfl rfl (zB (by omega) (by omega))) (oR 1 rfl (ze rfl ?_))))))))
        exact pl3 (k + 1) (n - 1) ((L.set k x3).set (k + 1) x4) (sa rfl) HSub.rfl' ⟨by show k + 1 + (n - 1) + 1 = i; omega, by simp only [ls]; exact hL, by show mvUp (n - 1) (k + 1) _ = _; rw [← hr]; obtain ⟨p, rfl⟩ : ∃ p, n = p + 1 := ⟨n - 1, by omega⟩; exact (mvUp_next hx4 hx3).symm⟩ (by omega)
      · skip
        refine zL rfl (zo (zn (zk (zb (zm rfl (zd (PD.norm [.sl v 2 53 ((fixI (zI 0) a b l).map RowD.d)] (by rw [← merge_up (i := i) (zaa 0) h3 hx1 (by omega) (by omega) (by rw [show a + 1 = m by omega]; exact hB) (by rw [show a + 1 = m by omega]; exact hlo.out) (by rw [show i = j by omega]; exact hhi.out), ← hr, show n = 0 by omega]; rfl) ?_)))))))
        exact zl Tryz.results162 .nil rfl (HSub.fst 1 rfl) ⟨rfl, rfl⟩
  · skip
    refine zj rfl (zb (jS rfl (jT rfl (oR 2 rfl (oP rfl (zav (c := ((b - m : Nat) : Int)) rfl rfl (zB (by omega) (by omega))) (oP rfl (zR rfl rfl rfl) (oZ rfl ?_)))))))
    refine jD rfl (fun hc6 => ?_) (fun hc6 => ?_)
    · skip
      refine jT rfl (oR 2 rfl (oZ rfl (jk [0, 1, 2, 3, 4, 14] rfl (jT rfl (oR 2 rfl (oZ rfl (jS rfl (jB rfl ?_))))))))
      obtain ⟨x6, hx6⟩ := zy l m (by (try simp only [ls]); omega)
      refine jl2 (fun (a_ : Nat) (b_ : Nat) => [(0, .ov v), (1, dN a), (2, dN m), (3, dN b), (4, .fn 42 [] []), (14, dN a_), (15, dN b_)]) (fun a_ b_ => [.sl v 2 53 (l.map RowD.d)]) (fun a_ b_ => (a ≤ a_ ∧ a_ ≤ b_ ∧ b_ ≤ m) ∧ (Hid (a_ = a ∨ ∃ y, l[a_ - 1]? = some y ∧ ¬ zI 0 x6 y < 0)) ∧ (Hid (b_ = m ∨ ∃ y, l[b_]? = some y ∧ zI 0 x6 y < 0))) (fun a_ b_ => b_ - a_) a m rfl (sa rfl) HSub.rfl' ⟨by show a ≤ a ∧ a ≤ m ∧ m ≤ m; omega, ⟨.inl rfl⟩, ⟨.inl rfl⟩⟩ ?_
      rintro i j ⟨hij, hlo, hhi⟩
      refine ja rfl (jn rfl (jS rfl (jT rfl (oR 2 rfl (oP rfl (zQ rfl rfl rfl) (oZ rfl ?_))))))
      refine jD rfl (fun hc7 => ?_) (fun hc7 => ?_)
      · skip
        refine zj rfl (zb (jB rfl (jT rfl (oR 2 rfl (oP rfl (zO (c := ((i + j : Nat) : Int)) rfl rfl (zB (by omega) (by omega))) (oP rfl (zbN rfl (c := ((i + j : Nat) : Int)) (zby (by omega))) ?_))))))
        obtain ⟨q8, hq8⟩ : ∃ q, q = (i + j) / 2 := ⟨_, rfl⟩
        refine oP rfl ((zdT (a := i + j) (n := 1) (m := 2) rfl rfl (by decide) (by decide)).cv (Cv.eq (by rw [← hq8]))) (oP rfl (zbN rfl (c := ((q8 : Nat) : Int)) (zcK (by omega))) (oR 1 rfl (oZ rfl (jS rfl (jk [0, 1, 2, 3, 4, 14, 15, 16, 83, 84, 85, 86, 87, 88, 89, 90, 91] rfl (jn rfl ?_))))))
        obtain ⟨x7, hx7⟩ := zy l q8 (by (try simp only [ls]); omega)
        refine zW 9 [(92, .fn 42 [] [], none), (93, .ov v, none), (94, dN m, none), (95, .v (.pointer (some ⟨bl v, m * 2 + 0, none⟩)), none), (96, RowD.d x6, none), (97, .ov v, none), (98, dN q8, none), (99, .v (.pointer (some ⟨bl v, q8 * 2 + 0, none⟩)), none), (100, RowD.d x7, none)] [.sl v 2 53 (l.map RowD.d)] (Hn := [.sl v 2 53 (l.map RowD.d)]) mixed rfl rfl rfl rfl HSub.rfl' rfl ⟨sa_p rfl rfl rfl (zc rfl), sa_p rfl rfl rfl (zc rfl), sa_p rfl rfl rfl (zc rfl), sa_p rfl rfl rfl (zi (k := m) (j := 0) rfl rfl rfl Tryz.runUnderlying22 Tryz.sizeOf53 (by first | rfl | omega) (zg hx6)), sa_p rfl rfl rfl (zX (d := RowD.d x6) rfl (i := 0) rfl (zg hx6) Tryz.isAgg53 Tryz.sizeOf53 rfl rfl), sa_p rfl rfl rfl (zc rfl), sa_p rfl rfl rfl (zc rfl), sa_p rfl rfl rfl (zi (k := q8) (j := 0) rfl rfl rfl Tryz.runUnderlying22 Tryz.sizeOf53 (by first | rfl | omega) (zg hx7)), sa_p rfl rfl rfl (zX (d := RowD.d x7) rfl (i := 0) rfl (zg hx7) Tryz.isAgg53 Tryz.sizeOf53 rfl rfl), trivial⟩ (ok [0, 1, 2, 3, 4, 14, 15, 16, 83, 84, 85, 86, 87, 88, 89, 90, 91, 92, 93, 94, 95, 96, 97, 98, 99, 100] rfl (oE rfl (zbk [] _ [] rfl rfl rfl (.cons ArgC.id (.cons ArgC.id .nil)) zz Tryz.call42 (cmpf_c x6 x7) (.inl rfl)) ?_))
        rintro _ _ ⟨_, ⟨rfl, rfl⟩, rfl⟩
        refine on rfl (oP rfl (zQ rfl rfl rfl) (oP rfl (zbc rfl) (oZ rfl ?_)))
        refine jC rfl (fun hc9 => ?_) (fun hc9 => ?_)
        · replace hc9 := of_decide_eq_false (p := zI 0 x6 x7 < (0 : Int)) (by simpa using hc9)
          refine za rfl (oR 1 rfl (oP rfl (zO (c := ((q8 + 1 : Nat) : Int)) rfl rfl (zB (by omega) (by omega))) (oR 1 rfl (ze rfl (zp ?_)))))
          exact pl2 (q8 + 1) j (sa rfl) HSub.rfl' ⟨by show a ≤ q8 + 1 ∧ q8 + 1 ≤ j ∧ j ≤ m; omega, ⟨.inr ⟨_, hx7, hc9⟩⟩, hhi⟩ (by show j - (q8 + 1) < j - i; omega)
        · replace hc9 := of_decide_eq_true (p := zI 0 x6 x7 < (0 : Int)) (by simpa using hc9)
          refine za rfl (oR 2 rfl (ze rfl (zp ?_)))
          exact pl2 i q8 (sa rfl) HSub.rfl' ⟨by show a ≤ i ∧ i ≤ q8 ∧ q8 ≤ m; omega, hlo, ⟨.inr ⟨_, hx7, hc9⟩⟩⟩ (by show q8 - i < j - i; omega)
      · skip
        refine zL rfl (zo (zn (zk (zb (jS rfl (jT rfl (oR 2 rfl (oZ rfl (jB rfl (jl3 (fun (a_ : Nat) (b_ : Nat) (c_ : List RowD) => [(0, .ov v), (1, dN a), (2, dN m), (3, dN b), (4, .fn 42 [] []), (14, dN i), (17, dN a_)]) (fun a_ b_ c_ => [.sl v 2 53 (c_.map RowD.d)]) (fun a_ b_ c_ => (a_ = i + b_ ∧ a_ ≤ m) ∧ ((c_).length = l.length) ∧ (mvDn b_ a_ c_ = mvDn (m - i) m l)) (fun a_ b_ c_ => a_) m (m - i) l rfl (sa rfl) HSub.rfl' ⟨by show m = i + (m - i) ∧ m ≤ m; omega, rfl, rfl⟩ ?_))))))))))
        rintro k n L ⟨hk, hL, hr⟩
        refine ja rfl (jn rfl (jS rfl (jT rfl (oR 2 rfl (oP rfl (zah rfl rfl rfl) (oZ rfl ?_))))))
        refine jD rfl (fun hc10 => ?_) (fun hc10 => ?_)
        · skip
          refine zj rfl (zb (jS rfl (jB rfl (jk [0, 1, 2, 3, 4, 14, 17, 108, 109, 110] rfl (jn rfl ?_)))))
          obtain ⟨x8, hx8⟩ := zy L (k - 1) (by (try simp only [ls]); omega)
          obtain ⟨x4, hx4⟩ := zy L k (by (try simp only [ls]); omega)
          refine zbj 16 [(113, .q (.ov v)), (114, .q (dN k)), (115, .q (.ov v)), (116, .q (dN k)), (117, .q (dN (k - 1))), (118, .q (.ov v)), (119, .q (dN k)), (120, .q (dN (k - 1))), (121, .r (.v (.pointer (some ⟨bl v, (k - 1) * 2 + 0, none⟩)))), (122, .r (RowD.d x8)), (123, .q (.ov v)), (124, .q (dN k)), (125, .r (.v (.pointer (some ⟨bl v, k * 2 + 0, none⟩)))), (126, .r (RowD.d x4)), (127, .r (.v (.pointer (some ⟨bl v, k * 2 + 0, none⟩)))), (235, .s (fun γ => [.sl v 2 53 ((L.set k x8).map RowD.d)]))] [] (Hn := fun γ => [.sl v 2 53 ((L.set k x8).map RowD.d)]) mixed rfl rfl (by kernel_rfl) (by kernel_rfl) (by kernel_rfl) HSub.none (fun _ => rfl) (fun γ => ⟨so_p rfl rfl rfl (zc rfl), so_p rfl rfl rfl (zc rfl), so_p rfl rfl rfl (zc rfl), so_p rfl rfl rfl (zc rfl), so_p rfl rfl rfl (zav (c := ((k - 1 : Nat) : Int)) rfl rfl (zB (by omega) (by omega))), so_p rfl rfl rfl (zc rfl), so_p rfl rfl rfl (zc rfl), so_p rfl rfl rfl (zav (c := ((k - 1 : Nat) : Int)) rfl rfl (zB (by omega) (by omega))), so_r rfl rfl rfl rfl (zi (k := k - 1) (j := 0) rfl rfl rfl Tryz.runUnderlying22 Tryz.sizeOf53 (by first | rfl | omega) (zg hx8)), so_r rfl rfl rfl rfl (zX (d := RowD.d x8) rfl (i := 0) rfl (zg hx8) Tryz.isAgg53 Tryz.sizeOf53 rfl rfl), so_p rfl rfl rfl (zc rfl), so_p rfl rfl rfl (zc rfl), so_r rfl rfl rfl rfl (zi (k := k) (j := 0) rfl rfl rfl Tryz.runUnderlying22 Tryz.sizeOf53 (by first | rfl | omega) (zg hx4)), so_r rfl rfl rfl rfl (zX (d := RowD.d x4) rfl (i := 0) rfl (zg hx4) Tryz.isAgg53 Tryz.sizeOf53 rfl rfl), so_r rfl rfl rfl rfl (zi (k := k) (j := 0) rfl rfl rfl Tryz.runUnderlying22 Tryz.sizeOf53 (by first | rfl | omega) (zg hx4)), zdN rfl rfl rfl rfl rfl ((zaE (f := RowD.d) (k := k) (z := 2) (o := 0) (i := 0) (a' := x8) rfl rfl hx4 rfl (CellD.agg) Tryz.sizeOf53 rfl rfl rfl).mono (by rintro _ _ ⟨_, rfl⟩; rfl)) HSub.none, trivial⟩) (fun γ => ?_)
          refine ok [0, 1, 2, 3, 4, 14, 17, 108, 109, 110, 113, 114, 115, 116, 117, 118, 119, 120, 121, 122, 123, 124, 125, 126, 127] rfl ?_
          obtain ⟨x9, hx9⟩ := zy (L.set k x8) (k - 1) (by (try simp only [ls]); omega)
          refine oP rfl (zi (k := k - 1) (j := 0) rfl rfl rfl Tryz.runUnderlying22 Tryz.sizeOf53 (by first | rfl | omega) (zg hx9)) (oE rfl (zaE (f := RowD.d) (k := k - 1) (z := 2) (o := 0) (i := 0) (a' := x4) rfl rfl hx9 rfl (CellD.agg) Tryz.sizeOf53 rfl rfl rfl) ?_)
          rintro _ _ ⟨rfl, rfl⟩
          refine on rfl (ze rfl (zp (zb (za rfl (oR 1 rfl (oP rfl (zav (c := ((k - 1 : Nat) : Int)) rfl rfl (zB (by omega) (by omega))) (oR 1 rfl (ze rfl ?_))))))))
          exact pl3 (k - 1) (n - 1) ((L.set k x8).set (k - 1) x4) (sa rfl) HSub.rfl' ⟨by show k - 1 = i + (n - 1) ∧ k - 1 ≤ m; omega, by simp only [ls]; exact hL, by show mvDn (n - 1) (k - 1) _ = _; rw [← hr]; obtain ⟨p, rfl⟩ : ∃ p, n = p + 1 := ⟨n - 1, by omega⟩; exact (mvDn_next hx4 hx8).symm⟩ (by omega)
        · skip
          refine zL rfl (zo (zn (zk (zb (zm rfl (zd (PD.norm [.sl v 2 53 ((fixI (zI 0) a b l).map RowD.d)] (by rw [show b = m + 1 by omega, ← merge_dn (i := i) (zaa 0) hx6 (by omega) (by omega) hA hlo.out (by rw [show i = j by omega]; exact hhi.out), ← hr, show n = 0 by omega]; rfl) ?_)))))))
          exact zl Tryz.results162 .nil rfl (HSub.fst 1 rfl) ⟨rfl, rfl⟩
    · skip
      refine zj rfl (zb (jT rfl (oR 2 rfl (oP rfl (zO (c := ((a + b : Nat) : Int)) rfl rfl (zB (by omega) (by omega))) (oP rfl (zbN rfl (c := ((a + b : Nat) : Int)) (zby (by omega))) ?_)))))
      obtain ⟨q11, hq11⟩ : ∃ q, q = (a + b) / 2 := ⟨_, rfl⟩
      refine oP rfl ((zdT (a := a + b) (n := 1) (m := 2) rfl rfl (by decide) (by decide)).cv (Cv.eq (by rw [← hq11]))) (oP rfl (zbN rfl (c := ((q11 : Nat) : Int)) (zcK (by omega))) (oR 1 rfl (oZ rfl (jk [0, 1, 2, 3, 4, 18] rfl (jT rfl (oR 2 rfl (oP rfl (zO (c := ((q11 + m : Nat) : Int)) rfl rfl (zB (by omega) (by omega))) (oR 1 rfl (oZ rfl (jT rfl (oR 2 rfl (oZ rfl (jS rfl (jT rfl (oR 2 rfl (oP rfl (zah rfl rfl rfl) (oZ rfl ?_)))))))))))))))))
      refine zdb (fun (g : Nat × Nat) => [(0, .ov v), (1, dN a), (2, dN m), (3, dN b), (4, .fn 42 [] []), (18, dN q11), (19, dN (q11 + m)), (20, dN g.1), (21, dN g.2)]) (fun (g : Nat × Nat) => [.sl v 2 53 (l.map RowD.d)]) (fun (g : Nat × Nat) => ((a ≤ g.1 ∧ q11 + m ≤ g.1 + b) ∧ g.1 ≤ g.2 ∧ g.2 ≤ m ∧ g.2 ≤ q11) ∧ (Hid (g.1 = a ∨ g.1 + b = q11 + m ∨ ∃ x y, l[g.1 - 1]? = some x ∧ l[q11 + m - g.1]? = some y ∧ ¬ zI 0 y x < 0)) ∧ (Hid (g.2 = m ∨ g.2 = q11 ∨ ∃ x y, l[g.2]? = some x ∧ l[q11 + m - g.2 - 1]? = some y ∧ zI 0 y x < 0))) (fun _ hQ12 => ?_) ?_
      · skip
        refine jD rfl (fun hc13 => ?_) (fun hc13 => ?_)
        · skip
          refine jT rfl (oR 2 rfl (oP rfl (zav (c := (((q11 + m) - b : Nat) : Int)) rfl rfl (zB (by omega) (by omega))) (oR 1 rfl (oZ rfl (jk [0, 1, 2, 3, 4, 18, 19, 20, 21] rfl (za rfl (oR 2 rfl (ze rfl ?_))))))))
          exact PD.sub [(0, .ov v), (1, dN a), (2, dN m), (3, dN b), (4, .fn 42 [] []), (18, dN q11), (19, dN (q11 + m)), (20, dN ((q11 + m) - b)), (21, dN q11)] (sa rfl) (hQ12 ((q11 + m) - b, q11) ⟨by show (a ≤ ((q11 + m) - b) ∧ q11 + m ≤ ((q11 + m) - b) + b) ∧ ((q11 + m) - b) ≤ q11 ∧ q11 ≤ m ∧ q11 ≤ q11; omega, by have h : ((q11 + m) - b) = a ∨ ((q11 + m) - b) + b = q11 + m := (by omega); exact h.elim (fun h => ⟨.inl h⟩) (fun h => ⟨.inr (.inl h)⟩), by have h : q11 = m ∨ q11 = q11 := (by omega); exact h.elim (fun h => ⟨.inl h⟩) (fun h => ⟨.inr (.inl h)⟩)⟩)
        · skip
          refine jT rfl (oR 2 rfl (oZ rfl (za rfl (oR 2 rfl (ze rfl ?_)))))
          exact PD.sub [(0, .ov v), (1, dN a), (2, dN m), (3, dN b), (4, .fn 42 [] []), (18, dN q11), (19, dN (q11 + m)), (20, dN a), (21, dN m)] (sa rfl) (hQ12 (a, m) ⟨by show (a ≤ a ∧ q11 + m ≤ a + b) ∧ a ≤ m ∧ m ≤ m ∧ m ≤ q11; omega, by have h : a = a ∨ a + b = q11 + m := (by omega); exact h.elim (fun h => ⟨.inl h⟩) (fun h => ⟨.inr (.inl h)⟩), by have h : m = m ∨ m = q11 := (by omega); exact h.elim (fun h => ⟨.inl h⟩) (fun h => ⟨.inr (.inl h)⟩)⟩)
      · skip
        rintro ⟨s, r⟩ ⟨hbd, hlo, hhi⟩
        replace hbd : (a ≤ s ∧ q11 + m ≤ s + b) ∧ s ≤ r ∧ r ≤ m ∧ r ≤ q11 := hbd
        replace hlo : Hid (s = a ∨ s + b = q11 + m ∨ ∃ x y, l[s - 1]? = some x ∧ l[q11 + m - s]? = some y ∧ ¬ zI 0 y x < 0) := hlo
        replace hhi : Hid (r = m ∨ r = q11 ∨ ∃ x y, l[r]? = some x ∧ l[q11 + m - r - 1]? = some y ∧ zI 0 y x < 0) := hhi
        refine pk [0, 1, 2, 3, 4, 18, 19, 20, 21] rfl (pn rfl (zb (jT rfl (oR 1 rfl (oP rfl (zav (c := (((q11 + m) - 1 : Nat) : Int)) rfl rfl (zB (by omega) (by omega))) (oR 1 rfl (oZ rfl (jS rfl (jB rfl (jl2 (fun (a_ : Nat) (b_ : Nat) => [(0, .ov v), (1, dN a), (2, dN m), (3, dN b), (4, .fn 42 [] []), (18, dN q11), (19, dN (q11 + m)), (22, dN ((q11 + m) - 1)), (20, dN a_), (21, dN b_)]) (fun a_ b_ => [.sl v 2 53 (l.map RowD.d)]) (fun a_ b_ => ((a ≤ a_ ∧ q11 + m ≤ a_ + b) ∧ a_ ≤ b_ ∧ b_ ≤ m ∧ b_ ≤ q11) ∧ (Hid (a_ = a ∨ a_ + b = q11 + m ∨ ∃ x y, l[a_ - 1]? = some x ∧ l[q11 + m - a_]? = some y ∧ ¬ zI 0 y x < 0)) ∧ (Hid (b_ = m ∨ b_ = q11 ∨ ∃ x y, l[b_]? = some x ∧ l[q11 + m - b_ - 1]? = some y ∧ zI 0 y x < 0))) (fun a_ b_ => b_ - a_) s r rfl (sa rfl) HSub.rfl' ⟨hbd, hlo, hhi⟩ ?_))))))))))
        rintro s r ⟨hbd, hlo, hhi⟩
        refine ja rfl (jn rfl (jS rfl (jT rfl (oR 2 rfl (oP rfl (zQ rfl rfl rfl) (oZ rfl ?_))))))
        refine jD rfl (fun hc14 => ?_) (fun hc14 => ?_)
        · skip
          refine zj rfl (zb (jB rfl (jT rfl (oR 2 rfl (oP rfl (zO (c := ((s + r : Nat) : Int)) rfl rfl (zB (by omega) (by omega))) (oP rfl (zbN rfl (c := ((s + r : Nat) : Int)) (zby (by omega))) ?_))))))
          obtain ⟨q15, hq15⟩ : ∃ q, q = (s + r) / 2 := ⟨_, rfl⟩
          refine oP rfl ((zdT (a := s + r) (n := 1) (m := 2) rfl rfl (by decide) (by decide)).cv (Cv.eq (by rw [← hq15]))) (oP rfl (zbN rfl (c := ((q15 : Nat) : Int)) (zcK (by omega))) (oR 1 rfl (oZ rfl (jS rfl (jk [0, 1, 2, 3, 4, 18, 19, 20, 21, 22, 23, 149, 150, 151, 152, 153, 154, 155, 156, 157] rfl (jn rfl ?_))))))
          obtain ⟨x10, hx10⟩ := zy l (((q11 + m) - 1) - q15) (by (try simp only [ls]); omega)
          obtain ⟨x11, hx11⟩ := zy l q15 (by (try simp only [ls]); omega)
          refine zW 11 [(158, .fn 42 [] [], none), (159, .ov v, none), (160, dN ((q11 + m) - 1), none), (161, dN q15, none), (162, dN (((q11 + m) - 1) - q15), none), (163, .v (.pointer (some ⟨bl v, (((q11 + m) - 1) - q15) * 2 + 0, none⟩)), none), (164, RowD.d x10, none), (165, .ov v, none), (166, dN q15, none), (167, .v (.pointer (some ⟨bl v, q15 * 2 + 0, none⟩)), none), (168, RowD.d x11, none)] [.sl v 2 53 (l.map RowD.d)] (Hn := [.sl v 2 53 (l.map RowD.d)]) mixed rfl rfl rfl rfl HSub.rfl' rfl ⟨sa_p rfl rfl rfl (zc rfl), sa_p rfl rfl rfl (zc rfl), sa_p rfl rfl rfl (zc rfl), sa_p rfl rfl rfl (zc rfl), sa_p rfl rfl rfl (zav (c := ((((q11 + m) - 1) - q15 : Nat) : Int)) rfl rfl (zB (by omega) (by omega))), sa_p rfl rfl rfl (zi (k := ((q11 + m) - 1) - q15) (j := 0) rfl rfl rfl Tryz.runUnderlying22 Tryz.sizeOf53 (by first | rfl | omega) (zg hx10)), sa_p rfl rfl rfl (zX (d := RowD.d x10) rfl (i := 0) rfl (zg hx10) Tryz.isAgg53 Tryz.sizeOf53 rfl rfl), sa_p rfl rfl rfl (zc rfl), sa_p rfl rfl rfl (zc rfl), sa_p rfl rfl rfl (zi (k := q15) (j := 0) rfl rfl rfl Tryz.runUnderlying22 Tryz.sizeOf53 (by first | rfl | omega) (zg hx11)), sa_p rfl rfl rfl (zX (d := RowD.d x11) rfl (i := 0) rfl (zg hx11) Tryz.isAgg53 Tryz.sizeOf53 rfl rfl), trivial⟩ ?_
          refine ok [0, 1, 2, 3, 4, 18, 19, 20, 21, 22, 23, 149, 150, 151, 152, 153, 154, 155, 156, 157, 158, 159, 160, 161, 162, 163, 164, 165, 166, 167, 168] rfl (oE rfl (zbk [] _ [] rfl rfl rfl (.cons ArgC.id (.cons ArgC.id .nil)) zz Tryz.call42 (cmpf_c x10 x11) (.inl rfl)) ?_)
          rintro _ _ ⟨_, ⟨rfl, rfl⟩, rfl⟩
          refine on rfl (oP rfl (zQ rfl rfl rfl) (oP rfl (zbc rfl) (oZ rfl ?_)))
          refine jC rfl (fun hc16 => ?_) (fun hc16 => ?_)
          · replace hc16 := of_decide_eq_false (p := zI 0 x10 x11 < (0 : Int)) (by simpa using hc16)
            refine za rfl (oR 1 rfl (oP rfl (zO (c := ((q15 + 1 : Nat) : Int)) rfl rfl (zB (by omega) (by omega))) (oR 1 rfl (ze rfl (zp ?_)))))
            exact pl2 (q15 + 1) r (sa rfl) HSub.rfl' ⟨by show (a ≤ (q15 + 1) ∧ q11 + m ≤ (q15 + 1) + b) ∧ (q15 + 1) ≤ r ∧ r ≤ m ∧ r ≤ q11; omega, ⟨.inr (.inr ⟨_, _, hx11, by rw [show q11 + m - (q15 + 1) = q11 + m - 1 - q15 by omega]; exact hx10, hc16⟩)⟩, hhi⟩ (by show r - (q15 + 1) < r - s; omega)
          · replace hc16 := of_decide_eq_true (p := zI 0 x10 x11 < (0 : Int)) (by simpa using hc16)
            refine za rfl (oR 2 rfl (ze rfl (zp ?_)))
            exact pl2 s q15 (sa rfl) HSub.rfl' ⟨by show (a ≤ s ∧ q11 + m ≤ s + b) ∧ s ≤ q15 ∧ q15 ≤ m ∧ q15 ≤ q11; omega, hlo, ⟨.inr (.inr ⟨_, _, hx11, by rw [show q11 + m - q15 - 1 = q11 + m - 1 - q15 by omega]; exact hx10, hc16⟩)⟩⟩ (by show q15 - s < r - s; omega)
        · skip
          refine zL rfl (zo (zn (zk (zb (jT rfl (oR 2 rfl (oP rfl (zav (c := (((q11 + m) - s : Nat) : Int)) rfl rfl (zB (by omega) (by omega))) (oR 1 rfl (oZ rfl (jk [0, 1, 2, 3, 4, 18, 20, 24] rfl (jS rfl (jS rfl (jk [0, 1, 2, 3, 4, 18, 20, 24] rfl ?_)))))))))))))
          refine zal 185 ((decide (((s : Nat) : Int) < ((m : Nat) : Int)) && decide (((m : Nat) : Int) < (((q11 + m) - s : Nat) : Int)))) [.sl v 2 53 (l.map RowD.d)] (fun _ hQ17 => ?_) ?_
          · skip
            by_cases hg18 : ((s : Nat) : Int) < ((m : Nat) : Int)
            · skip
              refine za rfl (oR 2 rfl (oP rfl (zQ rfl rfl (decide_eq_true hg18)) (oR 3 rfl (oG rfl (zQ rfl rfl rfl) (oR 1 rfl (ze rfl ?_))))))
              exact PD.sub ((185, dB (decide (((s : Nat) : Int) < ((m : Nat) : Int)) && decide (((m : Nat) : Int) < (((q11 + m) - s : Nat) : Int)))) :: [(0, .ov v), (1, dN a), (2, dN m), (3, dN b), (4, .fn 42 [] []), (18, dN q11), (20, dN s), (24, dN ((q11 + m) - s))]) ⟨sc rfl (Cv.eq (congrArg (fun b => D.v (.bool b)) (by first | (simp [hc14, hg18]; done) | (simp_all; done)))), sk rfl, sk rfl, sk rfl, sk rfl, sk rfl, sk rfl, sk rfl, sk rfl, trivial⟩ hQ17
            · skip
              refine za rfl (oR 2 rfl (oP rfl (zQ rfl rfl (decide_eq_false hg18)) (oR 5 rfl (ze rfl ?_))))
              exact PD.sub ((185, dB (decide (((s : Nat) : Int) < ((m : Nat) : Int)) && decide (((m : Nat) : Int) < (((q11 + m) - s : Nat) : Int)))) :: [(0, .ov v), (1, dN a), (2, dN m), (3, dN b), (4, .fn 42 [] []), (18, dN q11), (20, dN s), (24, dN ((q11 + m) - s))]) ⟨sc rfl (Cv.eq (congrArg (fun b => D.v (.bool b)) (by first | (simp [hc14, hg18]; done) | (simp_all; done)))), sk rfl, sk rfl, sk rfl, sk rfl, sk rfl, sk rfl, sk rfl, sk rfl, trivial⟩ hQ17
          · skip
            refine zb ?_
            have hsr : r = s := by omega
            have hfo : Found (zI 0) l a m b s (q11 + m - s) q11 := Found.of (zaa 0) hA hB h3 (by omega) (by omega) (by omega) (by omega) (by omega) (hlo.out.elim (fun h => .inl h) (fun h => h.elim (fun h => .inr (.inl (by omega))) (fun ⟨x, y, e1, e2, e3⟩ => .inr (.inr ⟨x, y, e1, e2, e3⟩)))) (by rw [hsr] at hhi; exact hhi.out.elim (fun h => .inl h) (fun h => h.elim (fun h => .inr (.inl (by omega))) (fun ⟨x, y, e1, e2, e3⟩ => .inr (.inr ⟨x, y, e1, e2, e3⟩))))
            obtain ⟨g1, g2, g3, g4, g5⟩ := hfo.segs h3 hA hB
            refine zdb (fun (g : Unit) => [(0, .ov v), (1, dN a), (3, dN b), (4, .fn 42 [] []), (18, dN q11), (20, dN s), (24, dN ((q11 + m) - s))]) (fun (g : Unit) => [.sl v 2 53 ((rotL s m (q11 + m - s) l).map RowD.d)]) (fun (g : Unit) => True) (fun _ hQ19 => ?_) ?_
            · skip
              refine jC rfl (fun hc20 => ?_) (fun hc20 => ?_)
              · simp only [bA, bB, bC, bD, bE, bF, bG, bH, bI, bJ] at hc20
                refine za rfl (oR 5 rfl (oE rfl (zN [.sl v 2 53 (l.map RowD.d)] [] [] rfl rfl (.cons ArgC.id (.cons ArgC.id (.cons ArgC.id (.cons ArgC.id (.cons ArgC.id .nil))))) zz Tryz.call192 (rotR_c v l s m ((q11 + m) - s) 0 (by omega) (by omega) (by omega) (by omega)) (.inl rfl)) ?_))
                rintro _ _ ⟨_, ⟨rfl, rfl⟩, rfl⟩
                refine on rfl (ze rfl ?_)
                exact PD.sub [(0, .ov v), (1, dN a), (3, dN b), (4, .fn 42 [] []), (18, dN q11), (20, dN s), (24, dN ((q11 + m) - s))] (sa rfl) (hQ19 () trivial)
              · simp only [bA, bB, bC, bD, bE, bF, bG, bH, bI, bJ] at hc20
                refine zj rfl (PD.norm [.sl v 2 53 ((rotL s m (q11 + m - s) l).map RowD.d)] (by rw [rot_none (by omega) (by omega) (by omega) (by omega)]) ?_)
                exact PD.sub [(0, .ov v), (1, dN a), (3, dN b), (4, .fn 42 [] []), (18, dN q11), (20, dN s), (24, dN ((q11 + m) - s))] (sa rfl) (hQ19 () trivial)
            · skip
              rintro _ _
              refine pk [0, 1, 3, 4, 18, 20, 24] rfl (pn rfl (zb (jS rfl (jS rfl (jk [0, 1, 3, 4, 18, 20, 24] rfl ?_)))))
              refine zal 199 ((decide (((a : Nat) : Int) < ((s : Nat) : Int)) && decide (((s : Nat) : Int) < ((q11 : Nat) : Int)))) [.sl v 2 53 ((rotL s m (q11 + m - s) l).map RowD.d)] (fun _ hQ21 => ?_) ?_
              · skip
                by_cases hg22 : ((a : Nat) : Int) < ((s : Nat) : Int)
                · skip
                  refine za rfl (oR 2 rfl (oP rfl (zQ rfl rfl (decide_eq_true hg22)) (oR 3 rfl (oG rfl (zQ rfl rfl rfl) (oR 1 rfl (ze rfl ?_))))))
                  exact PD.sub ((199, dB (decide (((a : Nat) : Int) < ((s : Nat) : Int)) && decide (((s : Nat) : Int) < ((q11 : Nat) : Int)))) :: [(0, .ov v), (1, dN a), (3, dN b), (4, .fn 42 [] []), (18, dN q11), (20, dN s), (24, dN ((q11 + m) - s))]) ⟨sc rfl (Cv.eq (congrArg (fun b => D.v (.bool b)) (by first | (simp [hc14, hg22]; done) | (simp_all; done)))), sk rfl, sk rfl, sk rfl, sk rfl, sk rfl, sk rfl, sk rfl, trivial⟩ hQ21
                · skip
                  refine za rfl (oR 2 rfl (oP rfl (zQ rfl rfl (decide_eq_false hg22)) (oR 5 rfl (ze rfl ?_))))
                  exact PD.sub ((199, dB (decide (((a : Nat) : Int) < ((s : Nat) : Int)) && decide (((s : Nat) : Int) < ((q11 : Nat) : Int)))) :: [(0, .ov v), (1, dN a), (3, dN b), (4, .fn 42 [] []), (18, dN q11), (20, dN s), (24, dN ((q11 + m) - s))]) ⟨sc rfl (Cv.eq (congrArg (fun b => D.v (.bool b)) (by first | (simp [hc14, hg22]; done) | (simp_all; done)))), sk rfl, sk rfl, sk rfl, sk rfl, sk rfl, sk rfl, sk rfl, trivial⟩ hQ21
              · skip
                refine zb ?_
                refine zdb (fun (g : Unit) => [(0, .ov v), (3, dN b), (4, .fn 42 [] []), (18, dN q11), (24, dN ((q11 + m) - s))]) (fun (g : Unit) => [.sl v 2 53 ((fixI (zI 0) a q11 (rotL s m (q11 + m - s) l)).map RowD.d)]) (fun (g : Unit) => True) (fun _ hQ23 => ?_) ?_
                · skip
                  refine jC rfl (fun hc24 => ?_) (fun hc24 => ?_)
                  · simp only [bA, bB, bC, bD, bE, bF, bG, bH, bI, bJ] at hc24
                    refine za rfl (oR 5 rfl (oE rfl (zN [.sl v 2 53 ((rotL s m (q11 + m - s) l).map RowD.d)] [] [] rfl rfl (.cons ArgC.id (.cons ArgC.id (.cons ArgC.id (.cons ArgC.id (.cons ArgC.id .nil))))) zz Tryz.call162 (ih (rotL s m (q11 + m - s) l) a s q11 (by omega) (by omega) (by omega) (by omega) (by omega) g1 g2) (.inl rfl)) ?_))
                    rintro _ _ ⟨_, ⟨rfl, rfl⟩, rfl⟩
                    refine on rfl (ze rfl ?_)
                    exact PD.sub [(0, .ov v), (3, dN b), (4, .fn 42 [] []), (18, dN q11), (24, dN ((q11 + m) - s))] (sa rfl) (hQ23 () trivial)
                  · simp only [bA, bB, bC, bD, bE, bF, bG, bH, bI, bJ] at hc24
                    refine zj rfl (PD.norm [.sl v 2 53 ((fixI (zI 0) a q11 (rotL s m (q11 + m - s) l)).map RowD.d)] (by rw [fixI_id (zaa 0) (by omega) (by omega) (half_srt g1 g2 (by omega) (by omega) (by omega) (by omega))]) ?_)
                    exact PD.sub [(0, .ov v), (3, dN b), (4, .fn 42 [] []), (18, dN q11), (24, dN ((q11 + m) - s))] (sa rfl) (hQ23 () trivial)
                · skip
                  rintro _ _
                  refine pk [0, 3, 4, 18, 24] rfl (pn rfl (zb (jS rfl (jk [0, 3, 4, 18, 24] rfl ?_))))
                  refine zal 213 ((decide (((q11 : Nat) : Int) < (((q11 + m) - s : Nat) : Int)) && decide ((((q11 + m) - s : Nat) : Int) < ((b : Nat) : Int)))) [.sl v 2 53 ((fixI (zI 0) a q11 (rotL s m (q11 + m - s) l)).map RowD.d)] (fun _ hQ25 => ?_) ?_
                  · skip
                    by_cases hg26 : ((q11 : Nat) : Int) < (((q11 + m) - s : Nat) : Int)
                    · skip
                      refine za rfl (oR 2 rfl (oP rfl (zQ rfl rfl (decide_eq_true hg26)) (oR 3 rfl (oG rfl (zQ rfl rfl rfl) (oR 1 rfl (ze rfl ?_))))))
                      exact PD.sub ((213, dB (decide (((q11 : Nat) : Int) < (((q11 + m) - s : Nat) : Int)) && decide ((((q11 + m) - s : Nat) : Int) < ((b : Nat) : Int)))) :: [(0, .ov v), (3, dN b), (4, .fn 42 [] []), (18, dN q11), (24, dN ((q11 + m) - s))]) ⟨sc rfl (Cv.eq (congrArg (fun b => D.v (.bool b)) (by first | (simp [hc14, hg26]; done) | (simp_all; done)))), sk rfl, sk rfl, sk rfl, sk rfl, sk rfl, trivial⟩ hQ25
                    · skip
                      refine za rfl (oR 2 rfl (oP rfl (zQ rfl rfl (decide_eq_false hg26)) (oR 5 rfl (ze rfl ?_))))
                      exact PD.sub ((213, dB (decide (((q11 : Nat) : Int) < (((q11 + m) - s : Nat) : Int)) && decide ((((q11 + m) - s : Nat) : Int) < ((b : Nat) : Int)))) :: [(0, .ov v), (3, dN b), (4, .fn 42 [] []), (18, dN q11), (24, dN ((q11 + m) - s))]) ⟨sc rfl (Cv.eq (congrArg (fun b => D.v (.bool b)) (by first | (simp [hc14, hg26]; done) | (simp_all; done)))), sk rfl, sk rfl, sk rfl, sk rfl, sk rfl, trivial⟩ hQ25
                  · skip
                    refine zb ?_
                    have k3 := seg_fixI_right (c := zI 0) (L := (rotL s m (q11 + m - s) l)) (a := a) (b := q11) (d := q11) (e := (q11 + m - s)) (by omega) (by omega) (Nat.le_refl _)
                    have k4 := seg_fixI_right (c := zI 0) (L := (rotL s m (q11 + m - s) l)) (a := a) (b := q11) (d := (q11 + m - s)) (e := b) (by omega) (by omega) (by omega)
                    have k5 := fixI_len (c := zI 0) (L := (rotL s m (q11 + m - s) l)) (a := a) (b := q11) (by omega) (by omega)
                    rw [← k3] at g3
                    rw [← k4] at g4
                    refine zdb (fun (g : Unit) => []) (fun (g : Unit) => [.sl v 2 53 ((fixI (zI 0) q11 b (fixI (zI 0) a q11 (rotL s m (q11 + m - s) l))).map RowD.d)]) (fun (g : Unit) => True) (fun _ hQ27 => ?_) ?_
                    · skip
                      refine jC rfl (fun hc28 => ?_) (fun hc28 => ?_)
                      · simp only [bA, bB, bC, bD, bE, bF, bG, bH, bI, bJ] at hc28
                        refine za rfl (oR 5 rfl (oE rfl (zN [.sl v 2 53 ((fixI (zI 0) a q11 (rotL s m (q11 + m - s) l)).map RowD.d)] [] [] rfl rfl (.cons ArgC.id (.cons ArgC.id (.cons ArgC.id (.cons ArgC.id (.cons ArgC.id .nil))))) zz Tryz.call162 (ih (fixI (zI 0) a q11 (rotL s m (q11 + m - s) l)) q11 ((q11 + m) - s) b (by omega) (by omega) (by omega) (by omega) (by omega) g3 g4) (.inl rfl)) ?_))
                        rintro _ _ ⟨_, ⟨rfl, rfl⟩, rfl⟩
                        refine on rfl (ze rfl ?_)
                        exact PD.sub [] trivial (hQ27 () trivial)
                      · simp only [bA, bB, bC, bD, bE, bF, bG, bH, bI, bJ] at hc28
                        refine zj rfl (PD.norm [.sl v 2 53 ((fixI (zI 0) q11 b (fixI (zI 0) a q11 (rotL s m (q11 + m - s) l))).map RowD.d)] (by rw [fixI_id (zaa 0) (by omega) (by omega) (half_srt g3 g4 (by omega) (by omega) (by omega) (by omega))]) ?_)
                        exact PD.sub [] trivial (hQ27 () trivial)
                    · skip
                      rintro _ _
                      refine pk [] rfl (pn rfl (PD.norm [.sl v 2 53 ((fixI (zI 0) a b l).map RowD.d)] (by rw [hfo.merge (zaa 0) h3 hA hB]) ?_))
                      exact zb1 Tryz.results162 .nil rfl (HSub.fst 1 rfl) ⟨rfl, rfl⟩

theorem symM_c (v : Value) (o : Int) : ∀ (n : Nat) (l : List RowD) (a m b : Nat), b - a = n → a < m → m < b → b ≤ l.length → l.length ≤ 1000000 → Srt (zI 0) (seg l a m) → Srt (zI 0) (seg l m b) →
    CD Tryz.prog 162 [.sl v 2 53 (l.map RowD.d)] [.ov v, dN a, dN m, dN b, .fn 42 [] []] (fun r H' => r = .tup [] ∧ H' = [.sl v 2 53 ((fixI (zI 0) a b l).map RowD.d)]) := by
  intro n
  induction n using Nat.strongRecOn with
  | _ n ih =>
    intro l a m b hn h1 h2 h3 hl hA hB
    exact symM_s v l a m b o h1 h2 h3 hl hA hB (fun l' a' m' b' h k1 k2 k3 kl kA kB => ih (b' - a') (by omega) l' a' m' b' rfl k1 k2 k3 kl kA kB)

theorem stabR_c (v : Value) (l : List RowD) (o : Int) (hl : l.length ≤ 1000000) :
    CD Tryz.prog 112 [.sl v 2 53 (l.map RowD.d)] [.ov v, dN l.length, .fn 42 [] []] (fun r H' => r = .tup [] ∧ H' = [.sl v 2 53 ((zt (zI 0) l).map RowD.d)]) := by
  refine zq Tryz.func112 rfl (N := 63) rfl rfl (fun C => ?_)
  refine jk [0, 1, 2] rfl (jT rfl (oR 1 rfl (oZ rfl (jT rfl (oR 3 rfl (oZ rfl (jS rfl (jB rfl (jl2 (fun (a_ : Nat) (b_ : List RowD) => [(0, .ov v), (1, dN l.length), (2, .fn 42 [] []), (6, dI 20), (7, dN a_), (8, dN (a_ + 20))]) (fun a_ b_ => [.sl v 2 53 (b_.map RowD.d)]) (fun a_ b_ => (a_ ≤ l.length) ∧ (Ahead (zI 0) 20 a_ b_) ∧ (Like (zI 0) l b_) ∧ ((b_).length = l.length)) (fun a_ b_ => l.length - a_) 0 l rfl (sa rfl) HSub.rfl' ⟨Nat.zero_le _, Ahead.zero _ _, Like.rfl' _, rfl⟩ ?_)))))))))
  rintro a L ⟨ha, hah, hlk, hlen⟩
  refine ja rfl (jn rfl (jS rfl (jT rfl (oR 2 rfl (oP rfl (zaA rfl rfl rfl) (oZ rfl ?_))))))
  refine jD rfl (fun hc1 => ?_) (fun hc1 => ?_)
  · skip
    refine zj rfl (zb (jB rfl (jT rfl (oR 4 rfl (oE rfl (zN [.sl v 2 53 (L.map RowD.d)] [] [] rfl rfl (.cons ArgC.id (.cons ArgC.id (.cons ArgC.id (.cons ArgC.id .nil)))) zz Tryz.call161 (insortR_c v L a (a + 20) 0 (by omega) (by omega) (by omega)) (.inl rfl)) ?_)))))
    rintro _ _ ⟨_, ⟨rfl, rfl⟩, rfl⟩
    refine on rfl (oZ rfl (jT rfl (oR 2 rfl (oZ rfl (za rfl (oR 2 rfl (oP rfl (zO (c := (((a + 20) + 20 : Nat) : Int)) rfl rfl (zB (by omega) (by omega))) (oR 1 rfl (ze rfl (zp ?_))))))))))
    exact pl2 (a + 20) (fixI (zI 0) a (a + 20) L) (sa rfl) HSub.rfl' ⟨by show a + 20 ≤ l.length; omega, hah.next (zaa 0) (by omega), hlk.fix (zaa 0) (by omega) (by omega), (hlk.fix (zaa 0) (by omega) (by omega)).len⟩ (by omega)
  · skip
    refine zL rfl (zo (zn (zk (zb (jT rfl (oR 4 rfl (oE rfl (zN [.sl v 2 53 (L.map RowD.d)] [] [] rfl rfl (.cons ArgC.id (.cons ArgC.id (.cons ArgC.id (.cons ArgC.id .nil)))) zz Tryz.call161 (insortR_c v L a l.length 0 (by omega) (by omega) (by omega)) (.inl rfl)) ?_)))))))
    rintro _ _ ⟨_, ⟨rfl, rfl⟩, rfl⟩
    refine on rfl (oZ rfl (jB rfl ?_))
    have hall := hah.last (zaa 0) (by omega) (by omega)
    rw [hlk.len] at hall
    refine jl2 (fun (a_ : Nat) (b_ : List RowD) => [(0, .ov v), (1, dN l.length), (2, .fn 42 [] []), (6, dN a_)]) (fun a_ b_ => [.sl v 2 53 (b_.map RowD.d)]) (fun a_ b_ => (20 ≤ a_ ∧ a_ ≤ 2000000) ∧ (AllB (zI 0) a_ b_) ∧ (Like (zI 0) l b_) ∧ ((b_).length = l.length)) (fun a_ b_ => l.length - a_) 20 (fixI (zI 0) a l.length L) rfl (sa rfl) HSub.rfl' ⟨by show 20 ≤ 20 ∧ 20 ≤ 2000000; omega, hall, hlk.fix (zaa 0) (by omega) (by omega), (hlk.fix (zaa 0) (by omega) (by omega)).len⟩ ?_
    rintro bs L ⟨hbs, hall, hlk, hlen⟩
    refine ja rfl (jn rfl (jS rfl (jT rfl (oR 2 rfl (oP rfl (zQ rfl rfl rfl) (oZ rfl ?_))))))
    refine jD rfl (fun hc2 => ?_) (fun hc2 => ?_)
    · skip
      refine zj rfl (zb (jB rfl (jT rfl (oR 1 rfl (oP rfl (p_mul (c := ((2 * bs : Nat) : Int)) rfl rfl (zB (by omega) (by omega))) (oR 2 rfl (oZ rfl (jS rfl (jB rfl (jl2 (fun (a_ : Nat) (b_ : List RowD) => [(0, .ov v), (1, dN l.length), (2, .fn 42 [] []), (6, dN bs), (28, dN bs), (29, dN l.length), (30, dB (decide (((bs : Nat) : Int) < ((l.length : Nat) : Int)))), (31, dN bs), (32, dN (2 * bs)), (7, dN a_), (8, dN (a_ + 2 * bs))]) (fun a_ b_ => [.sl v 2 53 (b_.map RowD.d)]) (fun a_ b_ => (a_ ≤ l.length) ∧ (Half (zI 0) bs a_ b_) ∧ (Like (zI 0) l b_) ∧ ((b_).length = l.length)) (fun a_ b_ => l.length - a_) 0 L rfl ⟨sk rfl, sk rfl, sk rfl, sk rfl, sk rfl, sk rfl, sk rfl, sk rfl, sk rfl, sk rfl, sc rfl (Cv.eq (congrArg (fun n => D.v (.int .i64 n)) (by omega))), trivial⟩ HSub.rfl' ⟨Nat.zero_le _, Half.zero hall, hlk, hlen⟩ ?_))))))))))
      rintro a M ⟨ha, hha, hlk2, hlen2⟩
      refine ja rfl (jn rfl (jS rfl (jT rfl (oR 2 rfl (oP rfl (zaA rfl rfl rfl) (oZ rfl ?_))))))
      refine jD rfl (fun hc3 => ?_) (fun hc3 => ?_)
      · skip
        refine zj rfl (zb (jB rfl (jT rfl (oR 4 rfl (oP rfl (zO (c := ((a + bs : Nat) : Int)) rfl rfl (zB (by omega) (by omega))) (oR 2 rfl (oE rfl (zN [.sl v 2 53 (M.map RowD.d)] [] [] rfl rfl (.cons ArgC.id (.cons ArgC.id (.cons ArgC.id (.cons ArgC.id (.cons ArgC.id .nil))))) zz Tryz.call162 (symM_c v o _ M a (a + bs) (a + 2 * bs) rfl (by omega) (by omega) (by omega) (by omega) hha.one.1 hha.one.2) (.inl rfl)) ?_)))))))
        rintro _ _ ⟨_, ⟨rfl, rfl⟩, rfl⟩
        refine on rfl (oZ rfl (jT rfl (oR 2 rfl (oZ rfl (za rfl (oR 2 rfl (oP rfl (p_mul (c := ((2 * bs : Nat) : Int)) rfl rfl (zB (by omega) (by omega))) (oP rfl (zO (c := (((a + 2 * bs) + (2 * bs) : Nat) : Int)) rfl rfl (zB (by omega) (by omega))) (oR 1 rfl (ze rfl (zp ?_)))))))))))
        exact pl2 (a + 2 * bs) (fixI (zI 0) a (a + 2 * bs) M) (sa rfl) HSub.rfl' ⟨by show a + 2 * bs ≤ l.length; omega, hha.next (zaa 0) (by omega), hlk2.fix (zaa 0) (by omega) (by omega), (hlk2.fix (zaa 0) (by omega) (by omega)).len⟩ (by omega)
      · skip
        refine zL rfl (zo (zn (zk (zb (jS rfl (jT rfl (oR 2 rfl (oP rfl (zO (c := ((a + bs : Nat) : Int)) rfl rfl (zB (by omega) (by omega))) (oR 1 rfl (oZ rfl (jT rfl (oR 2 rfl (oP rfl (zQ rfl rfl rfl) (oZ rfl ?_))))))))))))))
        refine zdb (fun (g : List RowD) => [(0, .ov v), (1, dN l.length), (2, .fn 42 [] []), (6, dN bs), (7, dN a), (8, dN (a + 2 * bs)), (9, dN (a + bs)), (28, dN bs), (29, dN l.length), (30, dB (decide (((bs : Nat) : Int) < ((l.length : Nat) : Int)))), (31, dN bs), (32, dN (2 * bs)), (33, dN (a + 2 * bs)), (34, dN l.length), (35, dB (decide (((a + 2 * bs : Nat) : Int) ≤ ((l.length : Nat) : Int)))), (49, dN a), (50, dN bs), (51, dN (a + bs)), (52, dN (a + bs)), (53, dN l.length), (54, dB (decide (((a + bs : Nat) : Int) < ((l.length : Nat) : Int))))]) (fun (g : List RowD) => [.sl v 2 53 (g.map RowD.d)]) (fun (g : List RowD) => (AllB (zI 0) (2 * bs) g) ∧ (Like (zI 0) l g) ∧ ((g).length = l.length)) (fun _ hQ4 => ?_) ?_
        · skip
          refine jD rfl (fun hc5 => ?_) (fun hc5 => ?_)
          · skip
            refine za rfl (oR 5 rfl (oE rfl (zN [.sl v 2 53 (M.map RowD.d)] [] [] rfl rfl (.cons ArgC.id (.cons ArgC.id (.cons ArgC.id (.cons ArgC.id (.cons ArgC.id .nil))))) zz Tryz.call162 (symM_c v o _ M a (a + bs) l.length rfl (by omega) (by omega) (by omega) (by omega) hha.one.1 (by have k := hha.one.2; rwa [zcz (by omega), hlk2.len] at k)) (.inl rfl)) ?_))
            rintro _ _ ⟨_, ⟨rfl, rfl⟩, rfl⟩
            refine on rfl (ze rfl ?_)
            exact PD.sub [(0, .ov v), (1, dN l.length), (2, .fn 42 [] []), (6, dN bs), (7, dN a), (8, dN (a + 2 * bs)), (9, dN (a + bs)), (28, dN bs), (29, dN l.length), (30, dB (decide (((bs : Nat) : Int) < ((l.length : Nat) : Int)))), (31, dN bs), (32, dN (2 * bs)), (33, dN (a + 2 * bs)), (34, dN l.length), (35, dB (decide (((a + 2 * bs : Nat) : Int) ≤ ((l.length : Nat) : Int)))), (49, dN a), (50, dN bs), (51, dN (a + bs)), (52, dN (a + bs)), (53, dN l.length), (54, dB (decide (((a + bs : Nat) : Int) < ((l.length : Nat) : Int))))] (sa rfl) (hQ4 (fixI (zI 0) a l.length M) ⟨by have k := hha.last2 (zaa 0) (by omega) (by omega); rwa [hlk2.len] at k, hlk2.fix (zaa 0) (by omega) (by omega), (hlk2.fix (zaa 0) (by omega) (by omega)).len⟩)
          · skip
            refine zj rfl ?_
            exact PD.sub [(0, .ov v), (1, dN l.length), (2, .fn 42 [] []), (6, dN bs), (7, dN a), (8, dN (a + 2 * bs)), (9, dN (a + bs)), (28, dN bs), (29, dN l.length), (30, dB (decide (((bs : Nat) : Int) < ((l.length : Nat) : Int)))), (31, dN bs), (32, dN (2 * bs)), (33, dN (a + 2 * bs)), (34, dN l.length), (35, dB (decide (((a + 2 * bs : Nat) : Int) ≤ ((l.length : Nat) : Int)))), (49, dN a), (50, dN bs), (51, dN (a + bs)), (52, dN (a + bs)), (53, dN l.length), (54, dB (decide (((a + bs : Nat) : Int) < ((l.length : Nat) : Int))))] (sa rfl) (hQ4 M ⟨hha.last (by omega), hlk2, hlen2⟩)
        · skip
          rintro L2 ⟨hb2, hlk3, hlen3⟩
          refine pk [0, 1, 2, 6, 7, 8, 9, 28, 29, 30, 31, 32, 33, 34, 35, 49, 50, 51, 52, 53, 54] rfl (pn rfl (zb (za rfl (oR 1 rfl (oP rfl (p_mul (c := ((bs * 2 : Nat) : Int)) rfl rfl (zB (by omega) (by omega))) (oR 1 rfl (ze rfl (zp ?_))))))))
          exact pl2 (bs * 2) L2 (sa rfl) HSub.rfl' ⟨by show 20 ≤ bs * 2 ∧ bs * 2 ≤ 2000000; omega, by rw [Nat.mul_comm]; exact hb2, hlk3, hlk3.len⟩ (by omega)
    · skip
      refine zL rfl (zo (zn (zk (PD.norm [.sl v 2 53 ((zt (zI 0) l).map RowD.d)] (by rw [hlk.sorted (zaa 0) (hall.sorted (by omega))]) ?_))))
      exact zb1 Tryz.results112 .nil rfl (HSub.fst 1 rfl) ⟨rfl, rfl⟩

theorem sortstR_c (v : Value) (l : List RowD) (o : Int) (hl : l.length ≤ 1000000) :
    CD Tryz.prog 41 [.sl v 2 53 (l.map RowD.d)] [.ov v, .fn 42 [] []] (fun r H' => r = .tup [] ∧ H' = [.sl v 2 53 ((zt (zI 0) l).map RowD.d)]) := by
  refine zq Tryz.func41 rfl (N := 9) rfl rfl (fun C => ?_)
  refine jk [0, 1] rfl (za rfl (oR 2 rfl (oP rfl (zU (n := l.length) (j := 0) rfl rfl Tryz.runUnderlying22 (List.length_map _)) (oR 1 rfl (oE rfl (zN [.sl v 2 53 (l.map RowD.d)] [] [] rfl rfl (.cons ArgC.id (.cons ArgC.id (.cons ArgC.id .nil))) zz Tryz.call112 (stabR_c v l 0 (by omega)) (.inl rfl)) ?_)))))
  rintro _ _ ⟨_, ⟨rfl, rfl⟩, rfl⟩
  refine on rfl (ze rfl ?_)
  exact zb1 Tryz.results41 .nil rfl (HSub.fst 1 rfl) ⟨rfl, rfl⟩
end Lp
/-
  Texts of labels, as plain data: zaS as bytes, quotation marks, joining.
-/
set_option linter.unusedVariables false
namespace Lp
open Go

/-- a rune as bytes -/
def encR (x : Nat) : List UInt8 :=
  if x ≤ 127 then [UInt8.ofNat (x % 256)]
  else if x ≤ 2047 then [UInt8.ofNat (192 + x / 64 % 256), UInt8.ofNat (128 + x % 256 % 64)]
  else if x < 55296 ∨ (57343 < x ∧ x ≤ 65535) then [UInt8.ofNat (224 + x / 4096 % 256), UInt8.ofNat (128 + x / 64 % 256 % 64), UInt8.ofNat (128 + x % 256 % 64)]
  else if 65535 < x ∧ x ≤ 1114111 then [UInt8.ofNat (240 + x / 262144 % 256), UInt8.ofNat (128 + x / 4096 % 256 % 64), UInt8.ofNat (128 + x / 64 % 256 % 64), UInt8.ofNat (128 + x % 256 % 64)]
  else [239, 191, 189]
theorem encR_len (x : Nat) : (encR x).length ≤ 4 := by unfold encR; (repeat' split) <;> simp
def hasP (a b : ByteArray) : Bool := decide (b.size ≤ a.size) && decide (a.extract 0 b.size = b)
def wide : ByteArray := ⟨#[239, 191, 189]⟩
def hexd : ByteArray := ⟨#[48, 49, 50, 51, 52, 53, 54, 55, 56, 57, 97, 98, 99, 100, 101, 102]⟩
def hexB (n : Nat) : UInt8 := hexd[n]?.getD 0
def zca (s : ByteArray) (p : Nat) : Nat := (s[p]?.getD 0).toNat
/-- what a rune becomes between quotation marks -/
def zbM (s : ByteArray) (p : Nat) : List UInt8 :=
  if decR s p = 34 ∨ decR s p = 92 then 92 :: encR (decR s p)
  else if decR s p = 10 then [92, 110]
  else if decR s p = 65533 ∧ hasP (s.extract p s.size) wide = false then [92, 120, hexB (zca s p / 16), hexB (zca s p % 16)]
  else encR (decR s p)
theorem piece_len (s : ByteArray) (p : Nat) : (zbM s p).length ≤ 5 := by
  have := encR_len (decR s p)
  unfold zbM
  (repeat' split) <;> simp <;> omega
def zaz (s : ByteArray) (p : Nat) : List UInt8 := if h : p < s.size then zbM s p ++ zaz s (p + decW s p) else []
termination_by s.size - p
decreasing_by have := zat s p; omega
theorem zbU {s : ByteArray} {p : Nat} (h : p < s.size) : zaz s p = zbM s p ++ zaz s (p + decW s p) := by
  conv => lhs; unfold zaz
  rw [dif_pos h]
theorem zbV {s : ByteArray} {p : Nat} (h : s.size ≤ p) : zaz s p = [] := by
  unfold zaz; rw [dif_neg (by omega)]
def zdv (s : ByteArray) : List UInt8 := 34 :: (zaz s 0 ++ [34])
def zcR (s : ByteArray) : ByteArray := ⟨(zdv s).toArray⟩
/-- texts, something between them -/
def zb7 (sep : ByteArray) : List ByteArray → List UInt8
  | [] => []
  | [x] => x.data.toList
  | x :: y :: r => x.data.toList ++ sep.data.toList ++ zb7 sep (y :: r)
def zc5 (sep : ByteArray) (l : List ByteArray) : ByteArray := ⟨(zb7 sep l).toArray⟩
def zbl (x : Lbl) : ByteArray := x.n ++ (⟨#[61]⟩ : ByteArray) ++ zcR x.v
def zau (l : List Lbl) : ByteArray := (⟨#[123]⟩ : ByteArray) ++ zc5 ⟨#[44]⟩ (l.map zbl) ++ (⟨#[125]⟩ : ByteArray)

theorem piece_1 {s : ByteArray} {p : Nat} (h : decR s p = 34 ∨ decR s p = 92) : zbM s p = [92] ++ encR (decR s p) := by unfold zbM; rw [if_pos h]; rfl
theorem piece_2 {s : ByteArray} {p : Nat} (h : ¬ (decR s p = 34 ∨ decR s p = 92)) (h2 : decR s p = 10) : zbM s p = [92, 110] := by unfold zbM; rw [if_neg h, if_pos h2]
theorem piece_3 {s : ByteArray} {p : Nat} (h : ¬ (decR s p = 34 ∨ decR s p = 92)) (h2 : ¬ decR s p = 10) (h3 : decR s p = 65533 ∧ hasP (s.extract p s.size) wide = false) : zbM s p = [92, 120, hexB (zca s p / 16), hexB (zca s p % 16)] := by unfold zbM; rw [if_neg h, if_neg h2, if_pos h3]
theorem piece_4 {s : ByteArray} {p : Nat} (h : ¬ (decR s p = 34 ∨ decR s p = 92)) (h2 : ¬ decR s p = 10) (h3 : ¬ (decR s p = 65533 ∧ hasP (s.extract p s.size) wide = false)) : zbM s p = encR (decR s p) := by unfold zbM; rw [if_neg h, if_neg h2, if_neg h3]
theorem byteAt_at {s : ByteArray} {p : Nat} {u : UInt8} (h : s[p]? = some u) : u.toNat = zca s p := by unfold zca; rw [h]; rfl
def zdA (l : List ByteArray) : Nat := (l.map ByteArray.size).sum
theorem joinL_snoc (sep : ByteArray) : ∀ (l : List ByteArray) (x : ByteArray), l ≠ [] → zb7 sep (l ++ [x]) = zb7 sep l ++ sep.data.toList ++ x.data.toList
  | [], x, h => absurd rfl h
  | [a], x, _ => by simp [zb7]
  | a :: b :: r, x, _ => by
    have := joinL_snoc sep (b :: r) x (by simp)
    show a.data.toList ++ sep.data.toList ++ zb7 sep ((b :: r) ++ [x]) = _
    rw [this]; simp [zb7, List.append_assoc]
theorem joinL_one {sep : ByteArray} {l : List ByteArray} {x : ByteArray} (h : l[0]? = some x) : zb7 sep (l.take 1) = x.data.toList := by
  rw [show (1 : Nat) = 0 + 1 from rfl, zab h]; simp [zb7]
theorem joinB_one {sep : ByteArray} {l : List ByteArray} {x : ByteArray} (h : l[0]? = some x) (hl : l.length = 1) : x = zc5 sep l := by
  have := joinL_one (sep := sep) h
  rw [List.take_of_length_le (by omega)] at this
  unfold zc5; rw [this]
theorem len_toList (x : ByteArray) : x.data.toList.length = x.size := by simp
theorem quoteAt_len (s : ByteArray) : ∀ (n p : Nat), s.size - p = n → (zaz s p).length ≤ 5 * (s.size - p) := by
  intro n
  induction n using Nat.strongRecOn with
  | _ n ih =>
    intro p hp
    rcases Nat.lt_or_ge p s.size with h | h
    · have h1 := zat s p
      have h2 := piece_len s p
      rw [zbU h, List.length_append]
      have := ih (s.size - (p + decW s p)) (by omega) _ rfl
      omega
    · rw [zbV h]; simp
theorem quoteB_size (s : ByteArray) : (zcR s).size ≤ 5 * s.size + 2 := by
  have := quoteAt_len s _ 0 rfl
  show (zdv s).toArray.size ≤ _
  unfold zdv
  simp only [List.size_toArray, List.length_cons, List.length_append, List.length_nil]
  omega
theorem partB_size (x : Lbl) : (zbl x).size ≤ x.n.size + 5 * x.v.size + 3 := by
  have := quoteB_size x.v
  unfold zbl
  simp only [ByteArray.size_append]
  have e : (⟨#[61]⟩ : ByteArray).size = 1 := rfl
  omega
theorem joinL_len {sep : ByteArray} (h : sep.size = 1) : ∀ l : List ByteArray, (zb7 sep l).length ≤ zdA l + l.length
  | [] => by simp [zb7]
  | [x] => by simp [zb7, zdA]
  | x :: y :: r => by
    have := joinL_len h (y :: r)
    simp only [zb7, List.length_append, len_toList, zdA, List.map_cons, List.sum_cons, List.length_cons] at *
    omega
theorem joinB_size {sep : ByteArray} (h : sep.size = 1) (l : List ByteArray) : (zc5 sep l).size ≤ zdA l + l.length := by
  have := joinL_len h l
  show (zb7 sep l).toArray.size ≤ _
  simpa using this
theorem sumSz_part {l : List Lbl} (hz : ∀ x ∈ l, x.n.size ≤ 100000 ∧ x.v.size ≤ 100000) : zdA (l.map zbl) ≤ l.length * 600003 := by
  induction l with
  | nil => simp [zdA]
  | cons x r ih =>
    have h1 := partB_size x
    have h2 := hz x List.mem_cons_self
    have h3 := ih (fun y hy => hz y (List.mem_cons_of_mem _ hy))
    simp only [zdA, List.map_cons, List.sum_cons, List.length_cons] at *
    omega
theorem sumSz_parts {l : List Lbl} (hl : l.length ≤ 1000) (hz : ∀ x ∈ l, x.n.size ≤ 100000 ∧ x.v.size ≤ 100000) (k : Nat) : zdA ((l.take k).map zbl) ≤ 1000000000 := by
  have h1 := sumSz_part (l := l.take k) (fun x hx => hz x (List.mem_of_mem_take hx))
  rw [List.length_take] at h1
  omega
end Lp
/-
  What is said of labels (chapter 2), as plain data.
-/
set_option linter.unusedVariables false
namespace Lp
open Go

theorem zbE (a : List Lbl) : zM a a = 0 := by have := zcM a a; omega
theorem cmpLbl_eq {a b : Lbl} : zD a b = 0 ↔ a = b := by
  constructor
  · intro h
    unfold zD or2 at h
    split at h
    · contradiction
    · rename_i h1
      have h1 : cmpS a.n b.n = 0 := by omega
      have e1 := (zbS _ _).1 h1
      have e2 := (zbS _ _).1 h
      obtain ⟨_, _⟩ := a; obtain ⟨_, _⟩ := b; simp at e1 e2; simp [e1, e2]
  · rintro rfl; have := cmpLbl_neg a a; omega
theorem zcN : ∀ {a b : List Lbl}, zM a b = 0 ↔ a = b
  | [], [] => by simp [zM]
  | [], _ :: _ => by simp [zM]
  | _ :: _, [] => by simp [zM]
  | a :: r, b :: s => by
    unfold zM
    split
    · rename_i h
      constructor
      · intro h'; contradiction
      · intro h'; cases h'; exact absurd (cmpLbl_eq.2 rfl) h
    · rename_i h
      have h : zD a b = 0 := by omega
      rw [zcN, cmpLbl_eq.1 h]; simp

/-! ### order -/
theorem isort_len' (l : List Lbl) : (zt zD l).length = l.length := zbL _ l rfl
theorem tidyL_len (l : List Lbl) : (zJ l).length ≤ l.length := by
  unfold zJ; cases z1 l
  · simp
  · simp [isort_len']
theorem tidyE_cases (l : List Lbl) : (zaH l = 0 ∧ z1 l = true ∧ zJ l = zt zD l) ∨ (zaH l = 1 ∧ zJ l = []) := by
  unfold zJ zaH; cases z1 l <;> simp
theorem tidy_srt (l : List Lbl) : Srt zD (zJ l) := by
  rcases tidyE_cases l with ⟨_, _, h⟩ | ⟨_, h⟩ <;> rw [h]
  · exact (zaj zbX _ l rfl).srt
  · exact List.Pairwise.nil
theorem tidy_ok_len {l : List Lbl} (h : z1 l = true) : l.length ≤ 8 := by unfold z1 at h; simp at h; exact h.1
theorem tidy_ok_b {l : List Lbl} (h : z1 l = true) : zcW (zt zD l) = true := by unfold z1 at h; simp at h; exact h.2
theorem runes_one {s : ByteArray} {r : Nat} (h0 : 0 < s.size) (h1 : decR s 0 = r) (h2 : s.size ≤ decW s 0) : zaS s = [(r : Int)] := by
  unfold zaS; rw [zck h0, runesAt_ge (by omega), h1]
theorem name_a : zbw ⟨#[97]⟩ = true := by unfold zbw; rw [runes_one (r := 97) (by decide) (by decide) (by decide)]; decide
end Lp
