/- Walks, printed by a program of mine. -/
import Derived.Test.YtfjinapgehafiaaGreatDJ
set_option linter.unusedSimpArgs false
set_option linter.unusedVariables false
set_option maxHeartbeats 4000000
set_option maxRecDepth 100000
namespace Lp
open Go Go.RowKit Go.Proofs

namespace HdYtfjinapgehafiaaGreatV61A
theorem zad (b o : Nat) : ∀ w, (Instr.fieldAt 53 (.pointer (some ⟨b, o, none⟩)) 0).run Tryz.prog w = .ok (.pointer (some ⟨b, o + 0, none⟩)) w := fun _ => by kernel_rfl
end HdYtfjinapgehafiaaGreatV61A
open HdYtfjinapgehafiaaGreatV61A

theorem cmpf_c (a : RowD) (b : RowD)  :
    CD Tryz.prog 42 [] [RowD.d a, RowD.d b] (isR (dI (zI 0 a b))) := by
  refine zq Tryz.func42 rfl (N := 10) rfl rfl (fun C => ?_)
  refine jk [0, 1] rfl ?_
  refine JD.bd 0 rfl (fun bd0 => ?_)
  refine JD.bd 1 rfl (fun bd1 => ?_)
  refine jT rfl (oE rfl (zbW rfl (CellD.agg)) ?_)
  rintro _ _ ⟨g1, rfl, rfl⟩
  refine oE rfl (zbW rfl (CellD.agg)) ?_
  rintro _ _ ⟨g2, rfl, rfl⟩
  refine oR 1 rfl (oZ rfl (jT rfl (oP rfl (zw rfl zad rfl) (oP rfl (zK rfl (i := 1) rfl Tryz.isAgg50 rfl) (oP rfl (zw rfl zad rfl) (oP rfl (zK rfl (i := 0) rfl Tryz.isAgg50 rfl) (oW rfl rfl acs Tryz.call106 (zcp a.ls b.ls) (oR 1 rfl (oZ rfl (jk [4] rfl (zm rfl ?_)))))))))))
  exact zl Tryz.results42 (.cons (zx (zh rfl) (Cv.eq (congrArg (fun n => D.v (.int .i64 n)) (by rfl)))) .nil) rfl HSub.none ⟨rfl, rfl⟩

theorem swpR_c (v : Value) (l : List RowD) (a b n : Nat) (o : Int) (h1 : a + n ≤ b) (h2 : b + n ≤ l.length) (hl : l.length ≤ 1000000) :
    CD Tryz.prog 207 [.sl v 2 53 (l.map RowD.d)] [.ov v, dN a, dN b, dN n, .fn 42 [] []] (fun r H' => r = .tup [] ∧ H' = [.sl v 2 53 ((swpN n a b l).map RowD.d)]) := by
  refine zq Tryz.func207 rfl (N := 38) rfl rfl (fun C => ?_)
  refine jk [0, 1, 2, 3, 4] rfl (jT rfl (oR 1 rfl (oZ rfl (jB rfl (jl3 (fun (a_ : Nat) (b_ : Nat) (c_ : List RowD) => [(0, .ov v), (1, dN a), (2, dN b), (3, dN n), (10, dN a_)]) (fun a_ b_ c_ => [.sl v 2 53 (c_.map RowD.d)]) (fun a_ b_ c_ => (a_ + b_ = n) ∧ ((c_).length = l.length) ∧ (swpN b_ (a + a_) (b + a_) c_ = swpN n a b l)) (fun a_ b_ c_ => n - a_) 0 n l rfl (sa rfl) HSub.rfl' ⟨Nat.zero_add _, rfl, rfl⟩ ?_)))))
  rintro i k L ⟨hi, hL, hr⟩
  refine ja rfl (jn rfl (jS rfl (jT rfl (oR 2 rfl (oP rfl (zQ rfl rfl rfl) (oZ rfl ?_))))))
  refine jD rfl (fun hc1 => ?_) (fun hc1 => ?_)
  · skip
    refine zj rfl (zb (jS rfl (jB rfl (jk [0, 1, 2, 3, 10, 11, 12, 13] rfl (jn rfl ?_)))))
    obtain ⟨x1, hx1⟩ := zy L (b + i) (by (try simp only [ls]); omega)
    obtain ⟨x2, hx2⟩ := zy L (a + i) (by (try simp only [ls]); omega)
    refine zbj 22 [(16, .q (.ov v)), (17, .q (dN a)), (18, .q (dN i)), (19, .q (dN (a + i))), (20, .q (.ov v)), (21, .q (dN b)), (22, .q (dN i)), (23, .q (dN (b + i))), (24, .q (.ov v)), (25, .q (dN b)), (26, .q (dN i)), (27, .q (dN (b + i))), (28, .r (.v (.pointer (some ⟨bl v, (b + i) * 2 + 0, none⟩)))), (29, .r (RowD.d x1)), (30, .q (.ov v)), (31, .q (dN a)), (32, .q (dN i)), (33, .q (dN (a + i))), (34, .r (.v (.pointer (some ⟨bl v, (a + i) * 2 + 0, none⟩)))), (35, .r (RowD.d x2)), (36, .r (.v (.pointer (some ⟨bl v, (a + i) * 2 + 0, none⟩)))), (59, .s (fun γ => [.sl v 2 53 ((L.set (a + i) x1).map RowD.d)]))] [] (Hn := fun γ => [.sl v 2 53 ((L.set (a + i) x1).map RowD.d)]) mixed rfl rfl (by kernel_rfl) (by kernel_rfl) (by kernel_rfl) HSub.none (fun _ => rfl) (fun γ => ⟨so_p rfl rfl rfl (zc rfl), so_p rfl rfl rfl (zc rfl), so_p rfl rfl rfl (zc rfl), so_p rfl rfl rfl (zO (c := ((a + i : Nat) : Int)) rfl rfl (zB (by omega) (by omega))), so_p rfl rfl rfl (zc rfl), so_p rfl rfl rfl (zc rfl), so_p rfl rfl rfl (zc rfl), so_p rfl rfl rfl (zO (c := ((b + i : Nat) : Int)) rfl rfl (zB (by omega) (by omega))), so_p rfl rfl rfl (zc rfl), so_p rfl rfl rfl (zc rfl), so_p rfl rfl rfl (zc rfl), so_p rfl rfl rfl (zO (c := ((b + i : Nat) : Int)) rfl rfl (zB (by omega) (by omega))), so_r rfl rfl rfl rfl (zi (k := b + i) (j := 0) rfl rfl rfl Tryz.runUnderlying22 Tryz.sizeOf53 (by first | rfl | omega) (zg hx1)), so_r rfl rfl rfl rfl (zX (d := RowD.d x1) rfl (i := 0) rfl (zg hx1) Tryz.isAgg53 Tryz.sizeOf53 rfl rfl), so_p rfl rfl rfl (zc rfl), so_p rfl rfl rfl (zc rfl), so_p rfl rfl rfl (zc rfl), so_p rfl rfl rfl (zO (c := ((a + i : Nat) : Int)) rfl rfl (zB (by omega) (by omega))), so_r rfl rfl rfl rfl (zi (k := a + i) (j := 0) rfl rfl rfl Tryz.runUnderlying22 Tryz.sizeOf53 (by first | rfl | omega) (zg hx2)), so_r rfl rfl rfl rfl (zX (d := RowD.d x2) rfl (i := 0) rfl (zg hx2) Tryz.isAgg53 Tryz.sizeOf53 rfl rfl), so_r rfl rfl rfl rfl (zi (k := a + i) (j := 0) rfl rfl rfl Tryz.runUnderlying22 Tryz.sizeOf53 (by first | rfl | omega) (zg hx2)), zdN rfl rfl rfl rfl rfl ((zaE (f := RowD.d) (k := a + i) (z := 2) (o := 0) (i := 0) (a' := x1) rfl rfl hx2 rfl (CellD.agg) Tryz.sizeOf53 rfl rfl rfl).mono (by rintro _ _ ⟨_, rfl⟩; rfl)) HSub.none, trivial⟩) (fun γ => ?_)
    refine ok [0, 1, 2, 3, 10, 11, 12, 13, 16, 17, 18, 19, 20, 21, 22, 23, 24, 25, 26, 27, 28, 29, 30, 31, 32, 33, 34, 35, 36] rfl ?_
    obtain ⟨x3, hx3⟩ := zy (L.set (a + i) x1) (b + i) (by (try simp only [ls]); omega)
    refine oP rfl (zi (k := b + i) (j := 0) rfl rfl rfl Tryz.runUnderlying22 Tryz.sizeOf53 (by first | rfl | omega) (zg hx3)) (oE rfl (zaE (f := RowD.d) (k := b + i) (z := 2) (o := 0) (i := 0) (a' := x2) rfl rfl hx3 rfl (CellD.agg) Tryz.sizeOf53 rfl rfl rfl) ?_)
    rintro _ _ ⟨rfl, rfl⟩
    refine on rfl (ze rfl (zp (zb (za rfl (oR 1 rfl (oP rfl (zO (c := ((i + 1 : Nat) : Int)) rfl rfl (zB (by omega) (by omega))) (oR 1 rfl (ze rfl ?_))))))))
    exact pl3 (i + 1) (k - 1) ((L.set (a + i) x1).set (b + i) x2) (sa rfl) HSub.rfl' ⟨by show i + 1 + (k - 1) = n; omega, by simp only [ls]; exact hL, by show swpN (k - 1) (a + (i + 1)) (b + (i + 1)) _ = _; rw [← hr]; obtain ⟨m, rfl⟩ : ∃ m, k = m + 1 := ⟨k - 1, by omega⟩; exact (swpN_next hx2 hx1).symm⟩ (by omega)
  · skip
    refine zL rfl (zo (zn (zk (PD.norm [.sl v 2 53 ((swpN n a b l).map RowD.d)] (by rw [← hr, show k = 0 by omega]; rfl) ?_))))
    exact zb1 Tryz.results207 .nil rfl (HSub.fst 1 rfl) ⟨rfl, rfl⟩

theorem rotR_c (v : Value) (l : List RowD) (a m b : Nat) (o : Int) (h1 : a < m) (h2 : m < b) (h3 : b ≤ l.length) (hl : l.length ≤ 1000000) :
    CD Tryz.prog 192 [.sl v 2 53 (l.map RowD.d)] [.ov v, dN a, dN m, dN b, .fn 42 [] []] (fun r H' => r = .tup [] ∧ H' = [.sl v 2 53 ((rotL a m b l).map RowD.d)]) := by
  refine zq Tryz.func192 rfl (N := 58) rfl rfl (fun C => ?_)
  refine jk [0, 1, 2, 3, 4] rfl (jT rfl (oR 2 rfl (oP rfl (zav (c := ((m - a : Nat) : Int)) rfl rfl (zB (by omega) (by omega))) (oR 1 rfl (oZ rfl (jT rfl (oR 2 rfl (oP rfl (zav (c := ((b - m : Nat) : Int)) rfl rfl (zB (by omega) (by omega))) (oR 1 rfl (oZ rfl (jS rfl (jB rfl (jl3 (fun (a_ : Nat) (b_ : Nat) (c_ : List RowD) => [(0, .ov v), (2, dN m), (4, .fn 42 [] []), (10, dN a_), (11, dN b_)]) (fun a_ b_ c_ => [.sl v 2 53 (c_.map RowD.d)]) (fun a_ b_ c_ => (1 ≤ a_ ∧ a_ ≤ m - a) ∧ (1 ≤ b_ ∧ b_ ≤ b - m) ∧ ((c_).length = l.length) ∧ (rotL (m - a_) m (m + b_) c_ = rotL a m b l)) (fun a_ b_ c_ => a_ + b_) (m - a) (b - m) l rfl (sa rfl) HSub.rfl' ⟨by show 1 ≤ m - a ∧ m - a ≤ m - a; omega, by show 1 ≤ b - m ∧ b - m ≤ b - m; omega, rfl, by show rotL (m - (m - a)) m (m + (b - m)) l = _; congr 1 <;> omega⟩ ?_)))))))))))))
  rintro i j L ⟨hi, hj, hL, hr⟩
  refine ja rfl (jn rfl (jS rfl (jT rfl (oR 2 rfl (oP rfl (zbH rfl rfl rfl) (oZ rfl ?_))))))
  refine jD rfl (fun hc1 => ?_) (fun hc1 => ?_)
  · skip
    refine zj rfl (zb (jB rfl (jT rfl (oR 2 rfl (oP rfl (zah rfl rfl rfl) (oZ rfl ?_))))))
    refine jD rfl (fun hc2 => ?_) (fun hc2 => ?_)
    · skip
      refine jT rfl (oR 3 rfl (oP rfl (zav (c := ((m - i : Nat) : Int)) rfl rfl (zB (by omega) (by omega))) (oR 3 rfl (oE rfl (zN [.sl v 2 53 (L.map RowD.d)] [] [] rfl rfl (.cons ArgC.id (.cons ArgC.id (.cons ArgC.id (.cons ArgC.id (.cons ArgC.id .nil))))) zz Tryz.call207 (swpR_c v L (m - i) m j 0 (by omega) (by omega) (by omega)) (.inl rfl)) ?_))))
      rintro _ _ ⟨_, ⟨rfl, rfl⟩, rfl⟩
      refine on rfl (oZ rfl (za rfl (oR 2 rfl (oP rfl (zav (c := ((i - j : Nat) : Int)) rfl rfl (zB (by omega) (by omega))) (oR 1 rfl (ze rfl (zp ?_)))))))
      exact pl3 (i - j) j (swpN j (m - i) m L) (sa rfl) HSub.rfl' ⟨by show 1 ≤ i - j ∧ i - j ≤ m - a; omega, by show 1 ≤ j ∧ j ≤ b - m; omega, by rw [swpN_len]; exact hL, by show rotL (m - (i - j)) m (m + j) _ = _; rw [← hr, rot_gt (a := m - i) (j := j) (by omega) (by omega) (by omega) (by omega)]; congr 1; omega⟩ (by show i - j + j < i + j; omega)
    · skip
      refine jT rfl (oR 3 rfl (oP rfl (zav (c := ((m - i : Nat) : Int)) rfl rfl (zB (by omega) (by omega))) (oR 2 rfl (oP rfl (zO (c := ((m + j : Nat) : Int)) rfl rfl (zB (by omega) (by omega))) (oR 1 rfl (oP rfl (zav (c := (((m + j) - i : Nat) : Int)) rfl rfl (zB (by omega) (by omega))) (oR 2 rfl (oE rfl (zN [.sl v 2 53 (L.map RowD.d)] [] [] rfl rfl (.cons ArgC.id (.cons ArgC.id (.cons ArgC.id (.cons ArgC.id (.cons ArgC.id .nil))))) zz Tryz.call207 (swpR_c v L (m - i) ((m + j) - i) i 0 (by omega) (by omega) (by omega)) (.inl rfl)) ?_))))))))
      rintro _ _ ⟨_, ⟨rfl, rfl⟩, rfl⟩
      refine on rfl (oZ rfl (za rfl (oR 2 rfl (oP rfl (zav (c := ((j - i : Nat) : Int)) rfl rfl (zB (by omega) (by omega))) (oR 1 rfl (ze rfl (zp ?_)))))))
      exact pl3 i (j - i) (swpN i (m - i) ((m + j) - i) L) (sa rfl) HSub.rfl' ⟨hi, by show 1 ≤ j - i ∧ j - i ≤ b - m; omega, by rw [swpN_len]; exact hL, by show rotL (m - i) m (m + (j - i)) _ = _; rw [← hr, rot_lt (a := m - i) (b := m + j) (i := i) (by omega) (by omega) (by omega) (by omega)]; congr 1; omega⟩ (by show i + (j - i) < i + j; omega)
  · skip
    refine zL rfl (zo (zn (zk (zb (za rfl (oR 3 rfl (oP rfl (zav (c := ((m - i : Nat) : Int)) rfl rfl (zB (by omega) (by omega))) (oR 3 rfl (oE rfl (zN [.sl v 2 53 (L.map RowD.d)] [] [] rfl rfl (.cons ArgC.id (.cons ArgC.id (.cons ArgC.id (.cons ArgC.id (.cons ArgC.id .nil))))) zz Tryz.call207 (swpR_c v L (m - i) m i 0 (by omega) (by omega) (by omega)) (.inl rfl)) ?_)))))))))
    rintro _ _ ⟨_, ⟨rfl, rfl⟩, rfl⟩
    refine on rfl (ze rfl (PD.norm [.sl v 2 53 ((rotL a m b l).map RowD.d)] (by rw [← hr, rot_eq (a := m - i) (i := i) (by omega) (by omega) (by omega) (by omega)]) ?_))
    exact zb1 Tryz.results192 .nil rfl (HSub.fst 1 rfl) ⟨rfl, rfl⟩

theorem insortR_c (v : Value) (l : List RowD) (a b : Nat) (o : Int) (ha : a ≤ b) (hb : b ≤ l.length) (hl : l.length ≤ 1000000) :
    CD Tryz.prog 161 [.sl v 2 53 (l.map RowD.d)] [.ov v, dN a, dN b, .fn 42 [] []] (fun r H' => r = .tup [] ∧ H' = [.sl v 2 53 ((fixI (zI 0) a b l).map RowD.d)]) := by
  refine zq Tryz.func161 rfl (N := 53) rfl rfl (fun C => ?_)
  refine jk [0, 1, 2, 3] rfl (jT rfl (oR 1 rfl (oP rfl (zO (c := ((a + 1 : Nat) : Int)) rfl rfl (zB (by omega) (by omega))) (oR 1 rfl (oZ rfl (jB rfl (jl3 (fun (a_ : Nat) (b_ : Nat) (c_ : List RowD) => [(0, .ov v), (1, dN a), (2, dN b), (3, .fn 42 [] []), (8, dN a_)]) (fun a_ b_ c_ => [.sl v 2 53 (c_.map RowD.d)]) (fun a_ b_ c_ => (a + 1 ≤ a_) ∧ (b ≤ a_ + b_) ∧ ((c_).length = l.length) ∧ (isrt (zI 0) a b b_ (a_) c_ = isrt (zI 0) a b b (a + 1) l)) (fun a_ b_ c_ => b - a_) (a + 1) b l rfl (sa rfl) HSub.rfl' ⟨Nat.le_refl _, by show b ≤ a + 1 + b; omega, rfl, rfl⟩ ?_)))))))
  rintro i n L ⟨hi, hn, hL, hr⟩
  refine ja rfl (jn rfl (jS rfl (jT rfl (oR 2 rfl (oP rfl (zQ rfl rfl rfl) (oZ rfl ?_))))))
  refine jD rfl (fun hc1 => ?_) (fun hc1 => ?_)
  · skip
    refine zj rfl (zb (jS rfl (jB rfl (jT rfl (oR 2 rfl (oZ rfl (jB rfl (jl2 (fun (a_ : Nat) (b_ : List RowD) => [(0, .ov v), (1, dN a), (2, dN b), (3, .fn 42 [] []), (8, dN i), (12, dN i), (13, dN b), (14, dB (decide (((i : Nat) : Int) < ((b : Nat) : Int)))), (17, dN i), (9, dN a_)]) (fun a_ b_ => [.sl v 2 53 (b_.map RowD.d)]) (fun a_ b_ => (a_ ≤ i) ∧ ((b_).length = l.length) ∧ (bub (zI 0) a (a_) b_ = bub (zI 0) a i L)) (fun a_ b_ => a_) i L rfl (sa rfl) HSub.rfl' ⟨Nat.le_refl _, hL, rfl⟩ ?_))))))))
    rintro j M ⟨hj, hlM, hM⟩
    refine ja rfl (jn rfl (jS rfl (jS rfl ?_)))
    by_cases hg2 : ((a : Nat) : Int) < ((j : Nat) : Int)
    · skip
      refine jk [0, 1, 2, 3, 8, 9, 12, 13, 14, 17] rfl (jn rfl ?_)
      obtain ⟨x1, hx1⟩ := zy M j (by (try simp only [ls]); omega)
      obtain ⟨x2, hx2⟩ := zy M (j - 1) (by (try simp only [ls]); omega)
      refine zW 14 [(18, dN j, none), (19, dN a, none), (20, dB true, none), (21, dB true, none), (22, .fn 42 [] [], none), (23, .ov v, none), (24, dN j, none), (25, .v (.pointer (some ⟨bl v, j * 2 + 0, none⟩)), none), (26, RowD.d x1, none), (27, .ov v, none), (28, dN j, none), (29, dN (j - 1), none), (30, .v (.pointer (some ⟨bl v, (j - 1) * 2 + 0, none⟩)), none), (31, RowD.d x2, none)] [.sl v 2 53 (M.map RowD.d)] (Hn := [.sl v 2 53 (M.map RowD.d)]) mixed rfl rfl rfl rfl HSub.rfl' rfl ⟨sa_p rfl rfl rfl (zc rfl), sa_p rfl rfl rfl (zc rfl), sa_p rfl rfl rfl (zah rfl rfl (decide_eq_true hg2)), sa_p rfl rfl rfl (zc rfl), zG rfl rfl rfl rfl rfl rfl (zc rfl).qu, zG rfl rfl rfl rfl rfl rfl (zc rfl).qu, zG rfl rfl rfl rfl rfl rfl (zc rfl).qu, zG rfl rfl rfl rfl rfl rfl (zi (k := j) (j := 0) rfl rfl rfl Tryz.runUnderlying22 Tryz.sizeOf53 (by first | rfl | omega) (zg hx1)).qu, zG rfl rfl rfl rfl rfl rfl (zX (d := RowD.d x1) rfl (i := 0) rfl (zg hx1) Tryz.isAgg53 Tryz.sizeOf53 rfl rfl).qu, zG rfl rfl rfl rfl rfl rfl (zc rfl).qu, zG rfl rfl rfl rfl rfl rfl (zc rfl).qu, zG rfl rfl rfl rfl rfl rfl (zav (c := ((j - 1 : Nat) : Int)) rfl rfl (zB (by omega) (by omega))).qu, zG rfl rfl rfl rfl rfl rfl (zi (k := j - 1) (j := 0) rfl rfl rfl Tryz.runUnderlying22 Tryz.sizeOf53 (by first | rfl | omega) (zg hx2)).qu, zG rfl rfl rfl rfl rfl rfl (zX (d := RowD.d x2) rfl (i := 0) rfl (zg hx2) Tryz.isAgg53 Tryz.sizeOf53 rfl rfl).qu, trivial⟩ ?_
      refine ok [0, 1, 2, 3, 8, 9, 12, 13, 14, 17, 18, 19, 20, 21, 22, 23, 24, 25, 26, 27, 28, 29, 30, 31] rfl (oF rfl (zbk [] _ [] rfl rfl rfl (.cons ArgC.id (.cons ArgC.id .nil)) zz Tryz.call42 (cmpf_c x1 x2) (.inl rfl)) ?_)
      rintro _ _ ⟨_, ⟨rfl, rfl⟩, rfl⟩
      refine on rfl (oG rfl (zQ rfl rfl rfl) (oR 1 rfl (oZ rfl ?_)))
      refine jD rfl (fun hc3 => ?_) (fun hc3 => ?_)
      · skip
        refine zj rfl (zb (jS rfl (jB rfl (jk [0, 1, 2, 3, 8, 9, 12, 13, 14, 17, 18, 19, 20, 21, 22, 23, 24, 25, 26, 27, 28, 29, 30, 31, 32, 33, 34] rfl (jn rfl ?_)))))
        refine zbj 16 [(37, .q (.ov v)), (38, .q (dN j)), (39, .q (.ov v)), (40, .q (dN j)), (41, .q (dN (j - 1))), (42, .q (.ov v)), (43, .q (dN j)), (44, .q (dN (j - 1))), (45, .r (.v (.pointer (some ⟨bl v, (j - 1) * 2 + 0, none⟩)))), (46, .r (RowD.d x2)), (47, .q (.ov v)), (48, .q (dN j)), (49, .r (.v (.pointer (some ⟨bl v, j * 2 + 0, none⟩)))), (50, .r (RowD.d x1)), (51, .r (.v (.pointer (some ⟨bl v, j * 2 + 0, none⟩)))), (68, .s (fun γ => [.sl v 2 53 ((M.set j x2).map RowD.d)]))] [] (Hn := fun γ => [.sl v 2 53 ((M.set j x2).map RowD.d)]) mixed rfl rfl (by kernel_rfl) (by kernel_rfl) (by kernel_rfl) HSub.none (fun _ => rfl) (fun γ => ⟨so_p rfl rfl rfl (zc rfl), so_p rfl rfl rfl (zc rfl), so_p rfl rfl rfl (zc rfl), so_p rfl rfl rfl (zc rfl), so_p rfl rfl rfl (zav (c := ((j - 1 : Nat) : Int)) rfl rfl (zB (by omega) (by omega))), so_p rfl rfl rfl (zc rfl), so_p rfl rfl rfl (zc rfl), so_p rfl rfl rfl (zav (c := ((j - 1 : Nat) : Int)) rfl rfl (zB (by omega) (by omega))), so_r rfl rfl rfl rfl (zi (k := j - 1) (j := 0) rfl rfl rfl Tryz.runUnderlying22 Tryz.sizeOf53 (by first | rfl | omega) (zg hx2)), so_r rfl rfl rfl rfl (zX (d := RowD.d x2) rfl (i := 0) rfl (zg hx2) Tryz.isAgg53 Tryz.sizeOf53 rfl rfl), so_p rfl rfl rfl (zc rfl), so_p rfl rfl rfl (zc rfl), so_r rfl rfl rfl rfl (zi (k := j) (j := 0) rfl rfl rfl Tryz.runUnderlying22 Tryz.sizeOf53 (by first | rfl | omega) (zg hx1)), so_r rfl rfl rfl rfl (zX (d := RowD.d x1) rfl (i := 0) rfl (zg hx1) Tryz.isAgg53 Tryz.sizeOf53 rfl rfl), so_r rfl rfl rfl rfl (zi (k := j) (j := 0) rfl rfl rfl Tryz.runUnderlying22 Tryz.sizeOf53 (by first | rfl | omega) (zg hx1)), zdN rfl rfl rfl rfl rfl ((zaE (f := RowD.d) (k := j) (z := 2) (o := 0) (i := 0) (a' := x2) rfl rfl hx1 rfl (CellD.agg) Tryz.sizeOf53 rfl rfl rfl).mono (by rintro _ _ ⟨_, rfl⟩; rfl)) HSub.none, trivial⟩) (fun γ => ?_)
        refine ok [0, 1, 2, 3, 8, 9, 12, 13, 14, 17, 18, 19, 20, 21, 22, 23, 24, 25, 26, 27, 28, 29, 30, 31, 32, 33, 34, 37, 38, 39, 40, 41, 42, 43, 44, 45, 46, 47, 48, 49, 50, 51] rfl ?_
        obtain ⟨x3, hx3⟩ := zy (M.set j x2) (j - 1) (by (try simp only [ls]); omega)
        refine oP rfl (zi (k := j - 1) (j := 0) rfl rfl rfl Tryz.runUnderlying22 Tryz.sizeOf53 (by first | rfl | omega) (zg hx3)) (oE rfl (zaE (f := RowD.d) (k := j - 1) (z := 2) (o := 0) (i := 0) (a' := x1) rfl rfl hx3 rfl (CellD.agg) Tryz.sizeOf53 rfl rfl rfl) ?_)
        rintro _ _ ⟨rfl, rfl⟩
        refine on rfl (ze rfl (zp (zb (za rfl (oR 1 rfl (oP rfl (zav (c := ((j - 1 : Nat) : Int)) rfl rfl (zB (by omega) (by omega))) (oR 1 rfl (ze rfl ?_))))))))
        exact pl2 (j - 1) ((M.set j x2).set (j - 1) x1) (sa rfl) HSub.rfl' ⟨by omega, by simp only [ls]; omega, by rw [← hM]; exact (bub_lt' (by omega) hx1 hx2 hc3).symm⟩ (by omega)
      · skip
        refine zL rfl (zo (zn (zk (zp (zb (za rfl (oR 1 rfl (oP rfl (zO (c := ((i + 1 : Nat) : Int)) rfl rfl (zB (by omega) (by omega))) (oR 1 rfl (ze rfl ?_))))))))))
        exact pl3 (i + 1) (n - 1) M (sa rfl) HSub.rfl' ⟨by show a + 1 ≤ i + 1; omega, by show b ≤ i + 1 + (n - 1); omega, hlM, by show isrt (zI 0) a b (n - 1) (i + 1) M = _; have hb : bub (zI 0) a j M = M := bub_ge' hx1 hx2 hc3; rw [← hr]; obtain ⟨m, rfl⟩ : ∃ m, n = m + 1 := ⟨n - 1, by omega⟩; rw [za8 (by omega), ← hM, hb]; rfl⟩ (by omega)
    · skip
      refine jk [0, 1, 2, 3, 8, 9, 12, 13, 14, 17] rfl (jn rfl (zW 14 [(18, dN j, none), (19, dN a, none), (20, dB false, none), (21, dB false, none), (22, .v undef, none), (23, .v undef, none), (24, .v undef, none), (25, .v undef, none), (26, .v undef, none), (27, .v undef, none), (28, .v undef, none), (29, .v undef, none), (30, .v undef, none), (31, .v undef, none)] [.sl v 2 53 (M.map RowD.d)] (Hn := [.sl v 2 53 (M.map RowD.d)]) mixed rfl rfl rfl rfl HSub.rfl' rfl ⟨sa_p rfl rfl rfl (zc rfl), sa_p rfl rfl rfl (zc rfl), sa_p rfl rfl rfl (zah rfl rfl (decide_eq_false hg2)), sa_p rfl rfl rfl (zc rfl), sa_s rfl rfl rfl rfl rfl rfl (by decide), sa_s rfl rfl rfl rfl rfl rfl (by decide), sa_s rfl rfl rfl rfl rfl rfl (by decide), sa_s rfl rfl rfl rfl rfl rfl (by decide), sa_s rfl rfl rfl rfl rfl rfl (by decide), sa_s rfl rfl rfl rfl rfl rfl (by decide), sa_s rfl rfl rfl rfl rfl rfl (by decide), sa_s rfl rfl rfl rfl rfl rfl (by decide), sa_s rfl rfl rfl rfl rfl rfl (by decide), sa_s rfl rfl rfl rfl rfl rfl (by decide), trivial⟩ (ok [0, 1, 2, 3, 8, 9, 12, 13, 14, 17, 18, 19, 20, 21, 22, 23, 24, 25, 26, 27, 28, 29, 30, 31] rfl (oR 3 rfl (oZ rfl (jCf rfl (zL rfl (zo (zn (zk (zp (zb (za rfl (oR 1 rfl (oP rfl (zO (c := ((i + 1 : Nat) : Int)) rfl rfl (zB (by omega) (by omega))) (oR 1 rfl ?_))))))))))))))))
      refine ze rfl ?_
      exact pl3 (i + 1) (n - 1) M (sa rfl) HSub.rfl' ⟨by show a + 1 ≤ i + 1; omega, by show b ≤ i + 1 + (n - 1); omega, hlM, by show isrt (zI 0) a b (n - 1) (i + 1) M = _; have hb : bub (zI 0) a j M = M := bub_end (by omega); rw [← hr]; obtain ⟨m, rfl⟩ : ∃ m, n = m + 1 := ⟨n - 1, by omega⟩; rw [za8 (by omega), ← hM, hb]; rfl⟩ (by omega)
  · skip
    refine zL rfl (zo (zn (zk (PD.norm [.sl v 2 53 ((fixI (zI 0) a b l).map RowD.d)] (by rw [← isrt_fixI ha hb, ← hr, zaY (by omega)]) ?_))))
    exact zb1 Tryz.results161 .nil rfl (HSub.fst 1 rfl) ⟨rfl, rfl⟩
end Lp
