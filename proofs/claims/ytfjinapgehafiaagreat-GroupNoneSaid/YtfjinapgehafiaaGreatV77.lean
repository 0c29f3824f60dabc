/- Walks, printed by a program of mine. -/
import Derived.Test.YtfjinapgehafiaaGreatV83
set_option linter.unusedSimpArgs false
set_option linter.unusedVariables false
set_option maxHeartbeats 4000000
set_option maxRecDepth 100000
namespace Lp
open Go Go.RowKit Go.Proofs

namespace HdYtfjinapgehafiaaGreatV76
theorem zbk {a : Int} (h : 0 ≤ a ∧ a ≤ 18446744073709551615) : ∀ w, (convert 3 165 (.int .i64 a)).run Tryz.prog w = .ok (.int .u64 a) w := fun w => by
  have e : IntKind.u64.wrap a = a := by simp [IntKind.wrap, IntKind.bits, IntKind.signed]; omega
  simp [convert, run_underlying (show Tryz.prog.underlying 3 = some _ by kernel_rfl), run_underlying (show Tryz.prog.underlying 165 = some _ by kernel_rfl), Conv.intToInt, e]
theorem fa_156_0 (b o : Nat) : ∀ w, (Instr.fieldAt 156 (.pointer (some ⟨b, o, none⟩)) 0).run Tryz.prog w = .ok (.pointer (some ⟨b, o + 0, none⟩)) w := fun _ => by kernel_rfl
theorem fa_161_0 (b o : Nat) : ∀ w, (Instr.fieldAt 161 (.pointer (some ⟨b, o, none⟩)) 0).run Tryz.prog w = .ok (.pointer (some ⟨b, o + 0, none⟩)) w := fun _ => by kernel_rfl
theorem z2 (b o : Nat) : ∀ w, (Instr.fieldAt 53 (.pointer (some ⟨b, o, none⟩)) 0).run Tryz.prog w = .ok (.pointer (some ⟨b, o + 0, none⟩)) w := fun _ => by kernel_rfl
theorem zab (b o : Nat) : ∀ w, (Instr.fieldAt 53 (.pointer (some ⟨b, o, none⟩)) 1).run Tryz.prog w = .ok (.pointer (some ⟨b, o + 1, none⟩)) w := fun _ => by kernel_rfl
theorem fg_159_0 : ∀ vs : List Value, vs.length = 1 → ∀ w, (Instr.field 159 (.agg vs.toArray) 0).run Tryz.prog w = .ok (vs.getD 0 undef) w := fun vs h w => by
  obtain ⟨a, rfl⟩ := List.length_eq_one_iff.1 h
  kernel_rfl
end HdYtfjinapgehafiaaGreatV76
open HdYtfjinapgehafiaaGreatV76

theorem greater_c (a : RowD) (b : RowD)  :
    CD Tryz.prog 101 [] [RowD.d a, RowD.d b] (isR (dI (grC a b))) := by
  refine zn Tryz.func101 rfl (N := 17) rfl rfl (fun C => ?_)
  refine jk [0, 1] rfl ?_
  refine JD.bd 0 rfl (fun bd0 => ?_)
  refine JD.bd 1 rfl (fun bd1 => ?_)
  refine jT rfl (oE rfl (zbp rfl (CellD.agg)) ?_)
  rintro _ _ ⟨g1, rfl, rfl⟩
  refine oE rfl (zbp rfl (CellD.agg)) ?_
  rintro _ _ ⟨g2, rfl, rfl⟩
  refine oR 1 rfl (oZ rfl (jS rfl (jk [0, 1, 2, 3, 4] rfl (jn rfl (zX 9 [(5, dP g2 1, none), (6, dI b.v, none), (7, dP g1 1, none), (8, dI a.v, none), (9, dI (cmpI b.v a.v), none), (10, dP g1 0, none), (11, .sh 2 (a.ls.map Lbl.d), none), (12, dP g2 0, none), (13, .sh 2 (b.ls.map Lbl.d), none)] [.bx g2 53 (RowD.d b), .bx g1 53 (RowD.d a)] (Hn := [.bx g2 53 (RowD.d b), .bx g1 53 (RowD.d a)]) mixed rfl rfl rfl rfl HSub.rfl' rfl ⟨sa_p rfl rfl rfl (zo rfl zab rfl), sa_p rfl rfl rfl (zI rfl (i := 0) rfl Tryz.isAgg3 rfl), sa_p rfl rfl rfl (zo rfl zab rfl), sa_p rfl rfl rfl (zI rfl (i := 1) rfl Tryz.isAgg3 rfl), sa_q rfl rfl rfl (zaK rfl (.cons Cv.rfl' (.cons Cv.rfl' .nil)) Tryz.call147 (cmpI_c b.v a.v) zaZ), sa_p rfl rfl rfl (zo rfl z2 rfl), sa_p rfl rfl rfl (zI rfl (i := 1) rfl Tryz.isAgg50 rfl), sa_p rfl rfl rfl (zo rfl z2 rfl), sa_p rfl rfl rfl (zI rfl (i := 0) rfl Tryz.isAgg50 rfl), trivial⟩ (ok [0, 1, 2, 3, 4, 5, 6, 7, 8, 9, 10, 11, 12, 13] rfl (oW rfl rfl acs Tryz.call106 (zb4 a.ls b.ls) (oE rfl (zai [.tmp 9, .tmp 14] rfl rfl (.cons (CellD.v rfl) (.cons (CellD.v rfl) .nil)) rfl Tryz.runUnderlying122 Tryz.sizeOf3 Tryz.zeroValue3 rfl rfl rfl rfl) ?_))))))))
  rintro _ _ ⟨g3, rfl, rfl⟩
  refine oE rfl (zH [] _ [.sl (vS g3 2 2) 1 3 ([dI (cmpI b.v a.v), dI (zK a.ls b.ls)])] rfl rfl (.cons (ArgC.own (j := 0) rfl rfl) .nil) (zaN (j := 0) rfl zt) Tryz.call146 (Or_c [cmpI b.v a.v, zK a.ls b.ls]) (.inr (zbu rfl))) ?_
  rintro _ _ ⟨_, ⟨rfl, rfl⟩, rfl⟩
  refine on rfl (oR 1 rfl (oZ rfl (jk [4] rfl (zl rfl ?_))))
  exact zj Tryz.results101 (.cons (zr (zh rfl) (Cv.eq (congrArg (fun n => D.v (.int .i64 n)) (by rw [firstNZ_two]; rfl)))) .nil) rfl HSub.none ⟨rfl, rfl⟩

theorem insortG_c (v : Value) (l : List RowD) (a b : Nat) (ha : a ≤ 1000000) (hb : b ≤ l.length) (hl : l.length ≤ 1000000) :
    CD Tryz.prog 161 [.sl v 2 53 (l.map RowD.d)] [.ov v, dN a, dN b, .fn 101 [] []] (fun r H' => r = .tup [] ∧ H' = [.sl v 2 53 ((isrt grC a b b (a + 1) l).map RowD.d)]) := by
  refine zn Tryz.func161 rfl (N := 53) rfl rfl (fun C => ?_)
  refine jk [0, 1, 2, 3] rfl (jT rfl (oR 1 rfl (oP rfl (zS (c := ((a + 1 : Nat) : Int)) rfl rfl (zB (by omega) (by omega))) (oR 1 rfl (oZ rfl (jB rfl (jl3 (fun (a_ : Nat) (b_ : Nat) (c_ : List RowD) => [(0, .ov v), (1, dN a), (2, dN b), (3, .fn 101 [] []), (8, dN a_)]) (fun a_ b_ c_ => [.sl v 2 53 (c_.map RowD.d)]) (fun a_ b_ c_ => (a + 1 ≤ a_) ∧ (b ≤ a_ + b_) ∧ ((c_).length = l.length) ∧ (isrt grC a b b_ (a_) c_ = isrt grC a b b (a + 1) l)) (fun a_ b_ c_ => b - a_) (a + 1) b l rfl (sa rfl) HSub.rfl' ⟨Nat.le_refl _, by show b ≤ a + 1 + b; omega, rfl, rfl⟩ ?_)))))))
  rintro i n L ⟨hi, hn, hL, hr⟩
  refine ja rfl (jn rfl (jS rfl (jT rfl (oR 2 rfl (oP rfl (zP rfl rfl rfl) (oZ rfl ?_))))))
  refine jD rfl (fun hc1 => ?_) (fun hc1 => ?_)
  · skip
    refine zk rfl (zc (jS rfl (jB rfl (jT rfl (oR 2 rfl (oZ rfl (jB rfl (jl2 (fun (a_ : Nat) (b_ : List RowD) => [(0, .ov v), (1, dN a), (2, dN b), (3, .fn 101 [] []), (8, dN i), (12, dN i), (13, dN b), (14, dB (decide (((i : Nat) : Int) < ((b : Nat) : Int)))), (17, dN i), (9, dN a_)]) (fun a_ b_ => [.sl v 2 53 (b_.map RowD.d)]) (fun a_ b_ => (a_ ≤ i) ∧ ((b_).length = l.length) ∧ (bub grC a (a_) b_ = bub grC a i L)) (fun a_ b_ => a_) i L rfl (sa rfl) HSub.rfl' ⟨Nat.le_refl _, hL, rfl⟩ ?_))))))))
    rintro j M ⟨hj, hlM, hM⟩
    refine ja rfl (jn rfl (jS rfl (jS rfl ?_)))
    by_cases hg2 : ((a : Nat) : Int) < ((j : Nat) : Int)
    · skip
      refine jk [0, 1, 2, 3, 8, 9, 12, 13, 14, 17] rfl (jn rfl ?_)
      obtain ⟨x1, hx1⟩ := zx M j (by (try simp only [ls]); omega)
      obtain ⟨x2, hx2⟩ := zx M (j - 1) (by (try simp only [ls]); omega)
      refine zX 14 [(18, dN j, none), (19, dN a, none), (20, dB true, none), (21, dB true, none), (22, .fn 101 [] [], none), (23, .ov v, none), (24, dN j, none), (25, .v (.pointer (some ⟨bl v, j * 2 + 0, none⟩)), none), (26, RowD.d x1, none), (27, .ov v, none), (28, dN j, none), (29, dN (j - 1), none), (30, .v (.pointer (some ⟨bl v, (j - 1) * 2 + 0, none⟩)), none), (31, RowD.d x2, none)] [.sl v 2 53 (M.map RowD.d)] (Hn := [.sl v 2 53 (M.map RowD.d)]) mixed rfl rfl rfl rfl HSub.rfl' rfl ⟨sa_p rfl rfl rfl (zd rfl), sa_p rfl rfl rfl (zd rfl), sa_p rfl rfl rfl (zag rfl rfl (decide_eq_true hg2)), sa_p rfl rfl rfl (zd rfl), zC rfl rfl rfl rfl rfl rfl (zd rfl).qu, zC rfl rfl rfl rfl rfl rfl (zd rfl).qu, zC rfl rfl rfl rfl rfl rfl (zd rfl).qu, zC rfl rfl rfl rfl rfl rfl (zg (k := j) (j := 0) rfl rfl rfl Tryz.runUnderlying22 Tryz.sizeOf53 (by first | rfl | omega) (ze hx1)).qu, zC rfl rfl rfl rfl rfl rfl (zW (d := RowD.d x1) rfl (i := 0) rfl (ze hx1) Tryz.isAgg53 Tryz.sizeOf53 rfl rfl).qu, zC rfl rfl rfl rfl rfl rfl (zd rfl).qu, zC rfl rfl rfl rfl rfl rfl (zd rfl).qu, zC rfl rfl rfl rfl rfl rfl (zau (c := ((j - 1 : Nat) : Int)) rfl rfl (zB (by omega) (by omega))).qu, zC rfl rfl rfl rfl rfl rfl (zg (k := j - 1) (j := 0) rfl rfl rfl Tryz.runUnderlying22 Tryz.sizeOf53 (by first | rfl | omega) (ze hx2)).qu, zC rfl rfl rfl rfl rfl rfl (zW (d := RowD.d x2) rfl (i := 0) rfl (ze hx2) Tryz.isAgg53 Tryz.sizeOf53 rfl rfl).qu, trivial⟩ ?_
      refine ok [0, 1, 2, 3, 8, 9, 12, 13, 14, 17, 18, 19, 20, 21, 22, 23, 24, 25, 26, 27, 28, 29, 30, 31] rfl (oF rfl (za8 [] _ [] rfl rfl rfl (.cons ArgC.id (.cons ArgC.id .nil)) zt Tryz.call101 (greater_c x1 x2) (.inl rfl)) ?_)
      rintro _ _ ⟨_, ⟨rfl, rfl⟩, rfl⟩
      refine on rfl (oG rfl (zP rfl rfl rfl) (oR 1 rfl (oZ rfl ?_)))
      refine jD rfl (fun hc3 => ?_) (fun hc3 => ?_)
      · skip
        refine zk rfl (zc (jS rfl (jB rfl (jk [0, 1, 2, 3, 8, 9, 12, 13, 14, 17, 18, 19, 20, 21, 22, 23, 24, 25, 26, 27, 28, 29, 30, 31, 32, 33, 34] rfl (jn rfl ?_)))))
        refine za7 16 [(37, .q (.ov v)), (38, .q (dN j)), (39, .q (.ov v)), (40, .q (dN j)), (41, .q (dN (j - 1))), (42, .q (.ov v)), (43, .q (dN j)), (44, .q (dN (j - 1))), (45, .r (.v (.pointer (some ⟨bl v, (j - 1) * 2 + 0, none⟩)))), (46, .r (RowD.d x2)), (47, .q (.ov v)), (48, .q (dN j)), (49, .r (.v (.pointer (some ⟨bl v, j * 2 + 0, none⟩)))), (50, .r (RowD.d x1)), (51, .r (.v (.pointer (some ⟨bl v, j * 2 + 0, none⟩)))), (68, .s (fun γ => [.sl v 2 53 ((M.set j x2).map RowD.d)]))] [] (Hn := fun γ => [.sl v 2 53 ((M.set j x2).map RowD.d)]) mixed rfl rfl (by kernel_rfl) (by kernel_rfl) (by kernel_rfl) HSub.none (fun _ => rfl) (fun γ => ⟨so_p rfl rfl rfl (zd rfl), so_p rfl rfl rfl (zd rfl), so_p rfl rfl rfl (zd rfl), so_p rfl rfl rfl (zd rfl), so_p rfl rfl rfl (zau (c := ((j - 1 : Nat) : Int)) rfl rfl (zB (by omega) (by omega))), so_p rfl rfl rfl (zd rfl), so_p rfl rfl rfl (zd rfl), so_p rfl rfl rfl (zau (c := ((j - 1 : Nat) : Int)) rfl rfl (zB (by omega) (by omega))), so_r rfl rfl rfl rfl (zg (k := j - 1) (j := 0) rfl rfl rfl Tryz.runUnderlying22 Tryz.sizeOf53 (by first | rfl | omega) (ze hx2)), so_r rfl rfl rfl rfl (zW (d := RowD.d x2) rfl (i := 0) rfl (ze hx2) Tryz.isAgg53 Tryz.sizeOf53 rfl rfl), so_p rfl rfl rfl (zd rfl), so_p rfl rfl rfl (zd rfl), so_r rfl rfl rfl rfl (zg (k := j) (j := 0) rfl rfl rfl Tryz.runUnderlying22 Tryz.sizeOf53 (by first | rfl | omega) (ze hx1)), so_r rfl rfl rfl rfl (zW (d := RowD.d x1) rfl (i := 0) rfl (ze hx1) Tryz.isAgg53 Tryz.sizeOf53 rfl rfl), so_r rfl rfl rfl rfl (zg (k := j) (j := 0) rfl rfl rfl Tryz.runUnderlying22 Tryz.sizeOf53 (by first | rfl | omega) (ze hx1)), zdi rfl rfl rfl rfl rfl ((zaz (f := RowD.d) (k := j) (z := 2) (o := 0) (i := 0) (a' := x2) rfl rfl hx1 rfl (CellD.agg) Tryz.sizeOf53 rfl rfl rfl).mono (by rintro _ _ ⟨_, rfl⟩; rfl)) HSub.none, trivial⟩) (fun γ => ?_)
        refine ok [0, 1, 2, 3, 8, 9, 12, 13, 14, 17, 18, 19, 20, 21, 22, 23, 24, 25, 26, 27, 28, 29, 30, 31, 32, 33, 34, 37, 38, 39, 40, 41, 42, 43, 44, 45, 46, 47, 48, 49, 50, 51] rfl ?_
        obtain ⟨x3, hx3⟩ := zx (M.set j x2) (j - 1) (by (try simp only [ls]); omega)
        refine oP rfl (zg (k := j - 1) (j := 0) rfl rfl rfl Tryz.runUnderlying22 Tryz.sizeOf53 (by first | rfl | omega) (ze hx3)) (oE rfl (zaz (f := RowD.d) (k := j - 1) (z := 2) (o := 0) (i := 0) (a' := x1) rfl rfl hx3 rfl (CellD.agg) Tryz.sizeOf53 rfl rfl rfl) ?_)
        rintro _ _ ⟨rfl, rfl⟩
        refine on rfl (zi rfl (zy (zc (za rfl (oR 1 rfl (oP rfl (zau (c := ((j - 1 : Nat) : Int)) rfl rfl (zB (by omega) (by omega))) (oR 1 rfl (zi rfl ?_))))))))
        exact pl2 (j - 1) ((M.set j x2).set (j - 1) x1) (sa rfl) HSub.rfl' ⟨by omega, by simp only [ls]; omega, by rw [← hM]; exact (bub_lt' (by omega) hx1 hx2 hc3).symm⟩ (by omega)
      · skip
        refine zO rfl (zq (zp (zm (zy (zc (za rfl (oR 1 rfl (oP rfl (zS (c := ((i + 1 : Nat) : Int)) rfl rfl (zB (by omega) (by omega))) (oR 1 rfl (zi rfl ?_))))))))))
        exact pl3 (i + 1) (n - 1) M (sa rfl) HSub.rfl' ⟨by show a + 1 ≤ i + 1; omega, by show b ≤ i + 1 + (n - 1); omega, hlM, by show isrt grC a b (n - 1) (i + 1) M = _; have hb : bub grC a j M = M := bub_ge' hx1 hx2 hc3; rw [← hr]; obtain ⟨m, rfl⟩ : ∃ m, n = m + 1 := ⟨n - 1, by omega⟩; rw [zaY (by omega), ← hM, hb]; rfl⟩ (by omega)
    · skip
      refine jk [0, 1, 2, 3, 8, 9, 12, 13, 14, 17] rfl (jn rfl (zX 14 [(18, dN j, none), (19, dN a, none), (20, dB false, none), (21, dB false, none), (22, .v undef, none), (23, .v undef, none), (24, .v undef, none), (25, .v undef, none), (26, .v undef, none), (27, .v undef, none), (28, .v undef, none), (29, .v undef, none), (30, .v undef, none), (31, .v undef, none)] [.sl v 2 53 (M.map RowD.d)] (Hn := [.sl v 2 53 (M.map RowD.d)]) mixed rfl rfl rfl rfl HSub.rfl' rfl ⟨sa_p rfl rfl rfl (zd rfl), sa_p rfl rfl rfl (zd rfl), sa_p rfl rfl rfl (zag rfl rfl (decide_eq_false hg2)), sa_p rfl rfl rfl (zd rfl), sa_s rfl rfl rfl rfl rfl rfl (by decide), sa_s rfl rfl rfl rfl rfl rfl (by decide), sa_s rfl rfl rfl rfl rfl rfl (by decide), sa_s rfl rfl rfl rfl rfl rfl (by decide), sa_s rfl rfl rfl rfl rfl rfl (by decide), sa_s rfl rfl rfl rfl rfl rfl (by decide), sa_s rfl rfl rfl rfl rfl rfl (by decide), sa_s rfl rfl rfl rfl rfl rfl (by decide), sa_s rfl rfl rfl rfl rfl rfl (by decide), sa_s rfl rfl rfl rfl rfl rfl (by decide), trivial⟩ (ok [0, 1, 2, 3, 8, 9, 12, 13, 14, 17, 18, 19, 20, 21, 22, 23, 24, 25, 26, 27, 28, 29, 30, 31] rfl (oR 3 rfl (oZ rfl (jCf rfl (zO rfl (zq (zp (zm (zy (zc (za rfl (oR 1 rfl (oP rfl (zS (c := ((i + 1 : Nat) : Int)) rfl rfl (zB (by omega) (by omega))) (oR 1 rfl ?_))))))))))))))))
      refine zi rfl ?_
      exact pl3 (i + 1) (n - 1) M (sa rfl) HSub.rfl' ⟨by show a + 1 ≤ i + 1; omega, by show b ≤ i + 1 + (n - 1); omega, hlM, by show isrt grC a b (n - 1) (i + 1) M = _; have hb : bub grC a j M = M := bub_end (by omega); rw [← hr]; obtain ⟨m, rfl⟩ : ∃ m, n = m + 1 := ⟨n - 1, by omega⟩; rw [zaY (by omega), ← hM, hb]; rfl⟩ (by omega)
  · skip
    refine zO rfl (zq (zp (zm (PD.norm [.sl v 2 53 ((isrt grC a b b (a + 1) l).map RowD.d)] (by rw [← hr, zaP (by omega)]) ?_))))
    exact zbE Tryz.results161 .nil rfl (HSub.fst 1 rfl) ⟨rfl, rfl⟩

theorem pdqG_c (v : Value) (l : List RowD) (k : Nat) (hl : l.length ≤ 12) :
    CD Tryz.prog 144 [.sl v 2 53 (l.map RowD.d)] [.ov v, dI 0, dN l.length, dN k, .fn 101 [] []] (fun r H' => r = .tup [] ∧ H' = [.sl v 2 53 ((zw grC l).map RowD.d)]) := by
  refine zn Tryz.func144 rfl (N := 148) rfl rfl (fun C => ?_)
  refine jk [0, 1, 2, 3, 4] rfl (jT rfl (oR 1 rfl (oZ rfl (jT rfl (oR 1 rfl (oZ rfl (jB rfl (jl1 (fun (_ : Unit) => [(0, .ov v), (4, .fn 101 [] []), (1, dN 0), (2, dN l.length), (3, dN k), (10, dB true), (11, dB true)]) (fun _ => [.sl v 2 53 (l.map RowD.d)]) (fun _ => True) (fun _ => 0) () rfl (sa rfl) HSub.rfl' trivial ?_))))))))
  rintro _ _
  refine ja rfl (jn rfl (jB rfl (jT rfl (oR 2 rfl (oP rfl (zau (c := (((l.length : Nat) : Int) - ((0 : Nat) : Int))) rfl rfl (zB (by omega) (by omega))) (oR 1 rfl (oZ rfl (jS rfl (jT rfl (oR 1 rfl (oP rfl (zaw rfl rfl rfl) (oZ rfl ?_))))))))))))
  refine jD rfl (fun hc1 => ?_) (fun hc1 => ?_)
  · skip
    refine jT rfl (oR 4 rfl (oE rfl (zH [.sl v 2 53 (l.map RowD.d)] [] [] rfl rfl (.cons ArgC.id (.cons ArgC.id (.cons ArgC.id (.cons ArgC.id .nil)))) zt Tryz.call161 (insortG_c v l 0 l.length (by omega) (by first | exact Nat.le_refl _ | omega) (by omega)) (.inl rfl)) ?_))
    rintro _ _ ⟨_, ⟨rfl, rfl⟩, rfl⟩
    refine on rfl (oZ rfl (zl rfl (zb (zf (zN (zf (PD.norm [.sl v 2 53 ((zw grC l).map RowD.d)] (by rw [isrt_all]) ?_)))))))
    exact zj Tryz.results144 .nil rfl (HSub.fst 1 rfl) ⟨rfl, rfl⟩
  · skip
    exfalso; omega

theorem sortG_c (v : Value) (l : List RowD) (hl : l.length ≤ 12) :
    CD Tryz.prog 100 [.sl v 2 53 (l.map RowD.d)] [.ov v, .fn 101 [] []] (fun r H' => r = .tup [] ∧ H' = [.sl v 2 53 ((zw grC l).map RowD.d)]) := by
  refine zn Tryz.func100 rfl (N := 14) rfl rfl (fun C => ?_)
  refine jk [0, 1] rfl (jT rfl (oR 1 rfl (oP rfl (zL (n := l.length) (j := 0) rfl rfl Tryz.runUnderlying22 (List.length_map _)) (oR 1 rfl (oZ rfl (za rfl (oR 3 rfl (oP rfl (zbt rfl (c := ((l.length : Nat) : Int)) (zbk (by omega))) (oE rfl (zH [] [.sl v 2 53 (l.map RowD.d)] [] rfl rfl (.cons ArgC.id .nil) zt Tryz.call145 (len_c l.length (by omega)) (.inl rfl)) ?_)))))))))
  rintro _ _ ⟨_, ⟨k, rfl, rfl⟩, rfl⟩
  refine on rfl (oR 1 rfl (oE rfl (zH [.sl v 2 53 (l.map RowD.d)] [] [] rfl rfl (.cons ArgC.id (.cons ArgC.id (.cons ArgC.id (.cons ArgC.id (.cons ArgC.id .nil))))) zt Tryz.call144 (pdqG_c v l k (by omega)) (.inl rfl)) ?_))
  rintro _ _ ⟨_, ⟨rfl, rfl⟩, rfl⟩
  refine on rfl (zi rfl ?_)
  exact zbE Tryz.results100 .nil rfl (HSub.fst 1 rfl) ⟨rfl, rfl⟩

theorem oneS_c (m : Bool) (l : List RowD) (h0 : 0 < l.length) (hl : l.length ≤ 1000000) :
    CD Tryz.prog 102 [] [.ifc 156 (.agg [dB m]), .sh 2 (l.map RowD.d)] (isR (.tup [dI ((numF (.sums m) l).1), dI ((numF (.sums m) l).2)])) := by
  refine zn Tryz.func102 rfl (N := 51) rfl rfl (fun C => ?_)
  refine jk [0, 1] rfl ?_
  refine JD.bd 1 rfl (fun bd1 => ?_)
  have nl1 := zQ bd1
  refine jT rfl (oR 2 rfl (oZ rfl (jS rfl (jT rfl (oR 1 rfl (oP rfl (p_assert_t rfl (fun _ _ => by kernel_rfl)) (oR 3 rfl (oE rfl (zav (zv := (.agg #[(.bool false)])) Tryz.zeroValue156 ⟨rfl, trivial⟩ (Cv.vagg (by decide))) ?_))))))))
  rintro _ _ ⟨g1, rfl, rfl⟩
  refine oE rfl (zZ (i := 0) (X' := .agg [dB m]) rfl rfl rfl (CellD.agg) Tryz.sizeOf156 rfl rfl rfl) ?_
  rintro _ _ ⟨rfl, rfl⟩
  refine on rfl (oR 1 rfl (oZ rfl (jT rfl (oR 1 rfl (oZ rfl (jCt rfl (jS rfl (jT rfl (oP rfl (zo rfl fa_156_0 rfl) (oP rfl (zI rfl (i := 0) rfl Tryz.isAgg4 rfl) (oZ rfl (jk [0, 1, 4, 5, 19] rfl ?_))))))))))))
  refine jC rfl (fun hc2 => ?_) (fun hc2 => ?_)
  · skip
    refine jT rfl (oR 1 rfl (oE rfl (zH [] _ [] rfl rfl (.cons ArgC.id .nil) zt Tryz.call149 (zbS l (by omega)) (.inl rfl)) ?_))
    rintro _ _ ⟨_, ⟨v3, rfl, rfl⟩, rfl⟩
    refine on rfl (oE rfl (zH [] _ [.sl v3 1 3 ((l.map (·.v)).map dI)] rfl rfl (.cons (ArgC.own (j := 0) rfl rfl) .nil) (zaN (j := 0) rfl zt) Tryz.call148 (mean_c (l.map (·.v))) (.inr (zbu rfl))) ?_)
    rintro _ _ ⟨_, ⟨rfl, rfl⟩, rfl⟩
    refine on rfl (oR 4 rfl (oZ rfl (zl rfl (zb (zb ?_)))))
    exact zj Tryz.results102 (.cons (zr (zh rfl) (Cv.eq (congrArg (fun n => D.v (.int .i64 n)) (by first | rfl | (rw [show m = true from by assumption]; rfl) | (rw [show m = false from by simpa using ‹_›]; rfl) | (simp [numF, oneW]))))) (.cons (zr (zh rfl) (Cv.eq (congrArg (fun n => D.v (.int .i64 n)) (by first | rfl | (rw [show m = true from by assumption]; rfl) | (rw [show m = false from by simpa using ‹_›]; rfl) | (simp [numF, oneW]))))) .nil)) rfl HSub.none ⟨rfl, rfl⟩
  · skip
    refine zk rfl (zc (jT rfl (oR 1 rfl (oE rfl (zH [] _ [] rfl rfl (.cons ArgC.id .nil) zt Tryz.call149 (zbS l (by omega)) (.inl rfl)) ?_))))
    rintro _ _ ⟨_, ⟨v4, rfl, rfl⟩, rfl⟩
    refine on rfl (oE rfl (zH [] _ [.sl v4 1 3 ((l.map (·.v)).map dI)] rfl rfl (.cons (ArgC.own (j := 0) rfl rfl) .nil) (zaN (j := 0) rfl zt) Tryz.call150 (sum_c (l.map (·.v))) (.inr (zbu rfl))) ?_)
    rintro _ _ ⟨_, ⟨rfl, rfl⟩, rfl⟩
    refine on rfl (oR 4 rfl (oZ rfl (zl rfl (zb ?_))))
    exact zj Tryz.results102 (.cons (zr (zh rfl) (Cv.eq (congrArg (fun n => D.v (.int .i64 n)) (by first | rfl | (rw [show m = true from by assumption]; rfl) | (rw [show m = false from by simpa using ‹_›]; rfl) | (simp [numF, oneW]))))) (.cons (zr (zh rfl) (Cv.eq (congrArg (fun n => D.v (.int .i64 n)) (by first | rfl | (rw [show m = true from by assumption]; rfl) | (rw [show m = false from by simpa using ‹_›]; rfl) | (simp [numF, oneW]))))) .nil)) rfl HSub.none ⟨rfl, rfl⟩

theorem oneL_c  (l : List RowD) (h0 : 0 < l.length) (hl : l.length ≤ 1000000) :
    CD Tryz.prog 102 [] [.ifc 159 (.agg [.fn 140 [] []]), .sh 2 (l.map RowD.d)] (isR (.tup [dI ((numF (.least) l).1), dI ((numF (.least) l).2)])) := by
  refine zn Tryz.func102 rfl (N := 51) rfl rfl (fun C => ?_)
  refine jk [0, 1] rfl ?_
  refine JD.bd 1 rfl (fun bd1 => ?_)
  have nl1 := zQ bd1
  refine jT rfl (oR 2 rfl (oZ rfl (jS rfl (jT rfl (oR 1 rfl (oP rfl ((zaC (zv := (.agg #[(.bool false)])) rfl (fun _ _ => by kernel_rfl)).cv (Cv.tup (.cons (Cv.vagg (by decide)) (.cons Cv.rfl' .nil)))) (oR 3 rfl (oE rfl (zav (zv := (.agg #[(.bool false)])) Tryz.zeroValue156 ⟨rfl, trivial⟩ (Cv.vagg (by decide))) ?_))))))))
  rintro _ _ ⟨g1, rfl, rfl⟩
  refine oE rfl (zZ (i := 0) (X' := .agg [dB false]) rfl rfl rfl (CellD.agg) Tryz.sizeOf156 rfl rfl rfl) ?_
  rintro _ _ ⟨rfl, rfl⟩
  refine on rfl (oR 1 rfl (oZ rfl (jT rfl (oR 1 rfl (oZ rfl (jCf rfl (zk rfl (zc (jS rfl (jT rfl (oR 1 rfl (oP rfl ((zaC (zv := (.agg #[(.int .i64 0)])) rfl (fun _ _ => by kernel_rfl)).cv (Cv.tup (.cons (Cv.vagg (by decide)) (.cons Cv.rfl' .nil)))) (oR 3 rfl (oE rfl (zav (zv := (.agg #[(.int .i64 0)])) Tryz.zeroValue161 ⟨rfl, trivial⟩ (Cv.vagg (by decide))) ?_))))))))))))))
  rintro _ _ ⟨g2, rfl, rfl⟩
  refine oE rfl (zZ (i := 0) (X' := .agg [dI 0]) rfl rfl rfl (CellD.agg) Tryz.sizeOf161 rfl rfl rfl) ?_
  rintro _ _ ⟨rfl, rfl⟩
  refine on rfl (oR 1 rfl (oZ rfl (jk [0, 1, 4, 5, 8, 9] rfl (jT rfl (oR 1 rfl (oZ rfl (jCf rfl (zk rfl (zc (jS rfl (jk [0, 1, 4, 5, 8, 9, 35] rfl (jn rfl (zX 5 [(45, .ifc 159 (.agg [.fn 140 [] []]), none), (46, .agg [.fn 140 [] []], none), (47, .fn 140 [] [], none), (48, .sh 2 (l.map RowD.d), none), (49, .sh 1 ((l.map (·.v)).map dI), none)] [.bx g2 161 (.agg [dI 0]), .bx g1 156 (.agg [dB false])] (Hn := [.bx g2 161 (.agg [dI 0]), .bx g1 156 (.agg [dB false])]) mixed rfl rfl rfl rfl HSub.rfl' rfl ⟨sa_p rfl rfl rfl (zd rfl), sa_p rfl rfl rfl (p_assert_1 rfl (fun _ _ => by kernel_rfl)), sa_p rfl rfl rfl (p_field rfl rfl rfl fg_159_0 rfl), sa_p rfl rfl rfl (zd rfl), sa_q rfl rfl rfl (zaK rfl (.cons Cv.rfl' .nil) Tryz.call149 (zbS l (by omega)) zbg), trivial⟩ (ok [0, 1, 4, 5, 8, 9, 35, 45, 46, 47, 48, 49] rfl (oE rfl (za8 [] _ [] rfl rfl rfl (.cons ArgC.id .nil) zt Tryz.call140 (least_c (l.map (·.v)) (by rw [List.length_map]; exact h0)) (.inl rfl)) ?_)))))))))))))))
  rintro _ _ ⟨_, ⟨rfl, rfl⟩, rfl⟩
  refine on rfl (oR 2 rfl (oZ rfl (jk [4, 5] rfl (zl rfl ?_))))
  exact zj Tryz.results102 (.cons (zr (zh rfl) (Cv.eq (congrArg (fun n => D.v (.int .i64 n)) (by first | rfl | (rw [show m = true from by assumption]; rfl) | (rw [show m = false from by simpa using ‹_›]; rfl) | (simp [numF, oneW]))))) (.cons (zr (zh rfl) (Cv.eq (congrArg (fun n => D.v (.int .i64 n)) (by first | rfl | (rw [show m = true from by assumption]; rfl) | (rw [show m = false from by simpa using ‹_›]; rfl) | (simp [numF, oneW]))))) .nil)) rfl HSub.none ⟨rfl, rfl⟩

theorem oneM_c  (l : List RowD) (h0 : 0 < l.length) (hl : l.length ≤ 1000000) :
    CD Tryz.prog 102 [] [.ifc 159 (.agg [.fn 141 [] []]), .sh 2 (l.map RowD.d)] (isR (.tup [dI ((numF (.most) l).1), dI ((numF (.most) l).2)])) := by
  refine zn Tryz.func102 rfl (N := 51) rfl rfl (fun C => ?_)
  refine jk [0, 1] rfl ?_
  refine JD.bd 1 rfl (fun bd1 => ?_)
  have nl1 := zQ bd1
  refine jT rfl (oR 2 rfl (oZ rfl (jS rfl (jT rfl (oR 1 rfl (oP rfl ((zaC (zv := (.agg #[(.bool false)])) rfl (fun _ _ => by kernel_rfl)).cv (Cv.tup (.cons (Cv.vagg (by decide)) (.cons Cv.rfl' .nil)))) (oR 3 rfl (oE rfl (zav (zv := (.agg #[(.bool false)])) Tryz.zeroValue156 ⟨rfl, trivial⟩ (Cv.vagg (by decide))) ?_))))))))
  rintro _ _ ⟨g1, rfl, rfl⟩
  refine oE rfl (zZ (i := 0) (X' := .agg [dB false]) rfl rfl rfl (CellD.agg) Tryz.sizeOf156 rfl rfl rfl) ?_
  rintro _ _ ⟨rfl, rfl⟩
  refine on rfl (oR 1 rfl (oZ rfl (jT rfl (oR 1 rfl (oZ rfl (jCf rfl (zk rfl (zc (jS rfl (jT rfl (oR 1 rfl (oP rfl ((zaC (zv := (.agg #[(.int .i64 0)])) rfl (fun _ _ => by kernel_rfl)).cv (Cv.tup (.cons (Cv.vagg (by decide)) (.cons Cv.rfl' .nil)))) (oR 3 rfl (oE rfl (zav (zv := (.agg #[(.int .i64 0)])) Tryz.zeroValue161 ⟨rfl, trivial⟩ (Cv.vagg (by decide))) ?_))))))))))))))
  rintro _ _ ⟨g2, rfl, rfl⟩
  refine oE rfl (zZ (i := 0) (X' := .agg [dI 0]) rfl rfl rfl (CellD.agg) Tryz.sizeOf161 rfl rfl rfl) ?_
  rintro _ _ ⟨rfl, rfl⟩
  refine on rfl (oR 1 rfl (oZ rfl (jk [0, 1, 4, 5, 8, 9] rfl (jT rfl (oR 1 rfl (oZ rfl (jCf rfl (zk rfl (zc (jS rfl (jk [0, 1, 4, 5, 8, 9, 35] rfl (jn rfl (zX 5 [(45, .ifc 159 (.agg [.fn 141 [] []]), none), (46, .agg [.fn 141 [] []], none), (47, .fn 141 [] [], none), (48, .sh 2 (l.map RowD.d), none), (49, .sh 1 ((l.map (·.v)).map dI), none)] [.bx g2 161 (.agg [dI 0]), .bx g1 156 (.agg [dB false])] (Hn := [.bx g2 161 (.agg [dI 0]), .bx g1 156 (.agg [dB false])]) mixed rfl rfl rfl rfl HSub.rfl' rfl ⟨sa_p rfl rfl rfl (zd rfl), sa_p rfl rfl rfl (p_assert_1 rfl (fun _ _ => by kernel_rfl)), sa_p rfl rfl rfl (p_field rfl rfl rfl fg_159_0 rfl), sa_p rfl rfl rfl (zd rfl), sa_q rfl rfl rfl (zaK rfl (.cons Cv.rfl' .nil) Tryz.call149 (zbS l (by omega)) zbg), trivial⟩ (ok [0, 1, 4, 5, 8, 9, 35, 45, 46, 47, 48, 49] rfl (oE rfl (za8 [] _ [] rfl rfl rfl (.cons ArgC.id .nil) zt Tryz.call141 (most_c (l.map (·.v)) (by rw [List.length_map]; exact h0)) (.inl rfl)) ?_)))))))))))))))
  rintro _ _ ⟨_, ⟨rfl, rfl⟩, rfl⟩
  refine on rfl (oR 2 rfl (oZ rfl (jk [4, 5] rfl (zl rfl ?_))))
  exact zj Tryz.results102 (.cons (zr (zh rfl) (Cv.eq (congrArg (fun n => D.v (.int .i64 n)) (by first | rfl | (rw [show m = true from by assumption]; rfl) | (rw [show m = false from by simpa using ‹_›]; rfl) | (simp [numF, oneW]))))) (.cons (zr (zh rfl) (Cv.eq (congrArg (fun n => D.v (.int .i64 n)) (by first | rfl | (rw [show m = true from by assumption]; rfl) | (rw [show m = false from by simpa using ‹_›]; rfl) | (simp [numF, oneW]))))) .nil)) rfl HSub.none ⟨rfl, rfl⟩

theorem oneN_c  (l : List RowD) (h0 : 0 < l.length) (hl : l.length ≤ 1000000) :
    CD Tryz.prog 102 [] [.ifc 159 (.agg [.fn 142 [] []]), .sh 2 (l.map RowD.d)] (isR (.tup [dI ((numF (.many) l).1), dI ((numF (.many) l).2)])) := by
  refine zn Tryz.func102 rfl (N := 51) rfl rfl (fun C => ?_)
  refine jk [0, 1] rfl ?_
  refine JD.bd 1 rfl (fun bd1 => ?_)
  have nl1 := zQ bd1
  refine jT rfl (oR 2 rfl (oZ rfl (jS rfl (jT rfl (oR 1 rfl (oP rfl ((zaC (zv := (.agg #[(.bool false)])) rfl (fun _ _ => by kernel_rfl)).cv (Cv.tup (.cons (Cv.vagg (by decide)) (.cons Cv.rfl' .nil)))) (oR 3 rfl (oE rfl (zav (zv := (.agg #[(.bool false)])) Tryz.zeroValue156 ⟨rfl, trivial⟩ (Cv.vagg (by decide))) ?_))))))))
  rintro _ _ ⟨g1, rfl, rfl⟩
  refine oE rfl (zZ (i := 0) (X' := .agg [dB false]) rfl rfl rfl (CellD.agg) Tryz.sizeOf156 rfl rfl rfl) ?_
  rintro _ _ ⟨rfl, rfl⟩
  refine on rfl (oR 1 rfl (oZ rfl (jT rfl (oR 1 rfl (oZ rfl (jCf rfl (zk rfl (zc (jS rfl (jT rfl (oR 1 rfl (oP rfl ((zaC (zv := (.agg #[(.int .i64 0)])) rfl (fun _ _ => by kernel_rfl)).cv (Cv.tup (.cons (Cv.vagg (by decide)) (.cons Cv.rfl' .nil)))) (oR 3 rfl (oE rfl (zav (zv := (.agg #[(.int .i64 0)])) Tryz.zeroValue161 ⟨rfl, trivial⟩ (Cv.vagg (by decide))) ?_))))))))))))))
  rintro _ _ ⟨g2, rfl, rfl⟩
  refine oE rfl (zZ (i := 0) (X' := .agg [dI 0]) rfl rfl rfl (CellD.agg) Tryz.sizeOf161 rfl rfl rfl) ?_
  rintro _ _ ⟨rfl, rfl⟩
  refine on rfl (oR 1 rfl (oZ rfl (jk [0, 1, 4, 5, 8, 9] rfl (jT rfl (oR 1 rfl (oZ rfl (jCf rfl (zk rfl (zc (jS rfl (jk [0, 1, 4, 5, 8, 9, 35] rfl (jn rfl (zX 5 [(45, .ifc 159 (.agg [.fn 142 [] []]), none), (46, .agg [.fn 142 [] []], none), (47, .fn 142 [] [], none), (48, .sh 2 (l.map RowD.d), none), (49, .sh 1 ((l.map (·.v)).map dI), none)] [.bx g2 161 (.agg [dI 0]), .bx g1 156 (.agg [dB false])] (Hn := [.bx g2 161 (.agg [dI 0]), .bx g1 156 (.agg [dB false])]) mixed rfl rfl rfl rfl HSub.rfl' rfl ⟨sa_p rfl rfl rfl (zd rfl), sa_p rfl rfl rfl (p_assert_1 rfl (fun _ _ => by kernel_rfl)), sa_p rfl rfl rfl (p_field rfl rfl rfl fg_159_0 rfl), sa_p rfl rfl rfl (zd rfl), sa_q rfl rfl rfl (zaK rfl (.cons Cv.rfl' .nil) Tryz.call149 (zbS l (by omega)) zbg), trivial⟩ (ok [0, 1, 4, 5, 8, 9, 35, 45, 46, 47, 48, 49] rfl (oE rfl (za8 [] _ [] rfl rfl rfl (.cons ArgC.id .nil) zt Tryz.call142 (many_c (l.map (·.v))) (.inl rfl)) ?_)))))))))))))))
  rintro _ _ ⟨_, ⟨rfl, rfl⟩, rfl⟩
  refine on rfl (oR 2 rfl (oZ rfl (jk [4, 5] rfl (zl rfl ?_))))
  exact zj Tryz.results102 (.cons (zr (zh rfl) (Cv.eq (congrArg (fun n => D.v (.int .i64 n)) (by first | rfl | (rw [show m = true from by assumption]; rfl) | (rw [show m = false from by simpa using ‹_›]; rfl) | (simp [numF, oneW]))))) (.cons (zr (zh rfl) (Cv.eq (congrArg (fun n => D.v (.int .i64 n)) (by first | rfl | (rw [show m = true from by assumption]; rfl) | (rw [show m = false from by simpa using ‹_›]; rfl) | (simp [numF, oneW]))))) .nil)) rfl HSub.none ⟨rfl, rfl⟩

theorem oneR_c (p : Int) (l : List RowD) (h0 : 0 < l.length) (hl : l.length ≤ 1000000) (hp0 : 0 ≤ p) (hp1 : p ≤ 100) :
    CD Tryz.prog 102 [] [.ifc 161 (.agg [dI p]), .sh 2 (l.map RowD.d)] (isR (.tup [dI ((numF (.rank p) l).1), dI ((numF (.rank p) l).2)])) := by
  refine zn Tryz.func102 rfl (N := 51) rfl rfl (fun C => ?_)
  refine jk [0, 1] rfl ?_
  refine JD.bd 1 rfl (fun bd1 => ?_)
  have nl1 := zQ bd1
  refine jT rfl (oR 2 rfl (oZ rfl (jS rfl (jT rfl (oR 1 rfl (oP rfl ((zaC (zv := (.agg #[(.bool false)])) rfl (fun _ _ => by kernel_rfl)).cv (Cv.tup (.cons (Cv.vagg (by decide)) (.cons Cv.rfl' .nil)))) (oR 3 rfl (oE rfl (zav (zv := (.agg #[(.bool false)])) Tryz.zeroValue156 ⟨rfl, trivial⟩ (Cv.vagg (by decide))) ?_))))))))
  rintro _ _ ⟨g1, rfl, rfl⟩
  refine oE rfl (zZ (i := 0) (X' := .agg [dB false]) rfl rfl rfl (CellD.agg) Tryz.sizeOf156 rfl rfl rfl) ?_
  rintro _ _ ⟨rfl, rfl⟩
  refine on rfl (oR 1 rfl (oZ rfl (jT rfl (oR 1 rfl (oZ rfl (jCf rfl (zk rfl (zc (jS rfl (jT rfl (oR 1 rfl (oP rfl (p_assert_t rfl (fun _ _ => by kernel_rfl)) (oR 3 rfl (oE rfl (zav (zv := (.agg #[(.int .i64 0)])) Tryz.zeroValue161 ⟨rfl, trivial⟩ (Cv.vagg (by decide))) ?_))))))))))))))
  rintro _ _ ⟨g2, rfl, rfl⟩
  refine oE rfl (zZ (i := 0) (X' := .agg [dI p]) rfl rfl rfl (CellD.agg) Tryz.sizeOf161 rfl rfl rfl) ?_
  rintro _ _ ⟨rfl, rfl⟩
  refine on rfl (oR 1 rfl (oZ rfl (jk [0, 1, 4, 5, 8, 9] rfl (jT rfl (oR 1 rfl (oZ rfl (jCt rfl (jS rfl (jk [0, 1, 4, 5, 8, 9, 35] rfl (jn rfl (zX 9 [(37, dP g2 0, none), (38, dI p, none), (39, .sh 2 (l.map RowD.d), none), (40, .sh 1 ((l.map (·.v)).map dI), none), (41, .tup [dI (zcu p (l.map (·.v))), dB true], none), (36, .tup [dI (zcu p (l.map (·.v))), dB true], none), (42, dI (zcu p (l.map (·.v))), none), (43, dB true, none), (10, dI (zcu p (l.map (·.v))), none)] [.bx g2 161 (.agg [dI p]), .bx g1 156 (.agg [dB false])] (Hn := [.bx g2 161 (.agg [dI p]), .bx g1 156 (.agg [dB false])]) mixed rfl rfl rfl rfl HSub.rfl' rfl ⟨sa_p rfl rfl rfl (zo rfl fa_161_0 rfl), sa_p rfl rfl rfl (zI rfl (i := 0) rfl Tryz.isAgg3 rfl), sa_p rfl rfl rfl (zd rfl), sa_q rfl rfl rfl (zaK rfl (.cons Cv.rfl' .nil) Tryz.call149 (zbS l (by omega)) zbg), sa_q rfl rfl rfl (zaK rfl (.cons Cv.rfl' (.cons Cv.rfl' .nil)) Tryz.call151 (rank_c p (l.map (·.v)) hp0 hp1 (by rw [List.length_map]; exact h0) (by first | omega | (rw [List.length_map]; omega))) zaZ), sa_p rfl rfl rfl (zd rfl), sa_p rfl rfl rfl (zcg rfl rfl), sa_p rfl rfl rfl (zcg rfl rfl), sa_p rfl rfl rfl (p_assign rfl), trivial⟩ ?_)))))))))))
  refine ok [0, 1, 4, 5, 8, 9, 10, 35, 36, 37, 38, 39, 40, 41, 42, 43] rfl (oR 1 rfl (oZ rfl (jk [0, 1, 4, 5, 10] rfl (jT rfl (oR 3 rfl (oZ rfl (zl rfl (zb ?_))))))))
  exact zj Tryz.results102 (.cons (zr (zh rfl) (Cv.eq (congrArg (fun n => D.v (.int .i64 n)) (by first | rfl | (rw [show m = true from by assumption]; rfl) | (rw [show m = false from by simpa using ‹_›]; rfl) | (simp [numF, oneW]))))) (.cons (zr (zh rfl) (Cv.eq (congrArg (fun n => D.v (.int .i64 n)) (by first | rfl | (rw [show m = true from by assumption]; rfl) | (rw [show m = false from by simpa using ‹_›]; rfl) | (simp [numF, oneW]))))) .nil)) rfl HSub.none ⟨rfl, rfl⟩

theorem one_c (w : Way) (hw : w.red = true) (l : List RowD) (h0 : 0 < l.length) (hl : l.length ≤ 1000000) : CD Tryz.prog 102 [] [wayD (some w), .sh 2 (l.map RowD.d)] (isR (.tup [dI (numF w l).1, dI (numF w l).2])) := by
  cases w with
  | sums m => exact oneS_c m l h0 hl
  | least => exact oneL_c l h0 hl
  | most => exact oneM_c l h0 hl
  | many => exact oneN_c l h0 hl
  | rank p => have h := of_decide_eq_true hw; exact oneR_c p l h0 hl h.1 h.2
  | top n => cases hw

theorem nest_rep {L : List Hp} {v : Value} {G : List (Kp RowD)} (h0 : (Hp.sl v 1 22 (G.map Kp.d)) ∈ L) (hG : ∀ x ∈ G, RH x ∈ L) : ArgC L (.ov v) (.sh 1 ((G.map (·.l)).map (D.ls 2 RowD.d))) := ⟨fun w F u hF hL hr => by
  obtain ⟨us, hus, ho⟩ := hL _ h0
  obtain ⟨hu, _⟩ := hr
  subst hu
  have key : ∀ (G : List (Kp RowD)) (us : List Value), (∀ x ∈ G, RH x ∈ L) → RepE w F 1 (G.map Kp.d) us → RepE w (fun b => F b ∨ blks L b) 1 ((G.map (·.l)).map (D.ls 2 RowD.d)) us := by
    intro G
    induction G with
    | nil => intro us _ h; exact h
    | cons x G ih =>
      rintro _ hm ⟨a, t, rfl, h1, h2, h3, h4⟩
      refine ⟨a, t, rfl, ?_, h2, h3, ih t (fun y hy => hm y (List.mem_cons_of_mem _ hy)) h4⟩
      have hx := hm x List.mem_cons_self
      obtain ⟨us', hr', ho'⟩ := hL _ hx
      have ha : a = x.v := h1.1
      subst ha
      exact D.sl_rep (hr'.keep (Keep.wide _)) ho'.sl (fun _ g hg => .inr ⟨_, hx, hg⟩) (pair_len (F := F) ho')
  exact D.sl_rep (key G us hG hus) ho.sl (fun _ g hg => .inr ⟨_, h0, hg⟩) (pair_len (F := F) ho)⟩
theorem splitF_c (mode : Int) (names : List ByteArray) (l : List RowD) (hl : l.length ≤ 1000000) : CD Tryz.prog 33 [] [dI mode, .sh 1 (names.map D.s), .sh 2 (l.map RowD.d)] (isR (.sh 1 ((zM mode names l).map (D.ls 2 RowD.d)))) := ⟨fun w F vs h1 h2 h3 => ((split_c mode names l hl).out w F vs h1 h2 h3).mono (by
  rintro e w' ⟨u, he, F', d, H', ⟨v, G, rfl, rfl, hG⟩, hr, hg⟩
  have hm := (Mv.freeze (K := [(0, .ov v)]) (K' := [(0, .sh 1 ((G.map (·.l)).map (D.ls 2 RowD.d)))]) ([.sl v 1 22 (G.map Kp.d)] ++ G.map RH) (H1 := []) (H1' := []) ⟨⟨_, rfl, nest_rep (List.mem_append_left _ List.mem_cons_self) (fun x hx => List.mem_append_right _ (List.mem_map_of_mem hx))⟩, trivial⟩ .nil).out _ w' F' (fun _ => u) (fun t d hd => by
    simp only [zae] at hd
    by_cases e : t = 0
    · subst e; simp at hd; subst hd; exact hr
    · rw [za4 e] at hd; cases hd) (by rw [List.append_nil]; exact hg)
  obtain ⟨F2, hk, hg2⟩ := hm
  exact ⟨u, he, F2, _, [], ⟨rfl, rfl⟩, hG ▸ hk 0 _ rfl, hg2⟩)⟩
end Lp
/- Walks, printed by a program of mine. -/
set_option linter.unusedSimpArgs false
set_option linter.unusedVariables false
set_option maxHeartbeats 4000000
set_option maxRecDepth 100000
namespace Lp
open Go Go.RowKit Go.Proofs

namespace HdYtfjinapgehafiaaGreatV77
theorem zcp : ∀ w, ((#[⟨"Labels", 50, 0, false, "", "", 0⟩, ⟨"V", 3, 1, false, "", "", 24⟩] : Array Field).mapM fun f => do pure (f.offset, ← Go.sizeOf f.type) : Sem (Array (Nat × Nat))).run Tryz.prog w = .ok ([(0, 1), (1, 1)] : List (Nat × Nat)).toArray w := fun _ => by kernel_rfl
theorem z2 (b o : Nat) : ∀ w, (Instr.fieldAt 53 (.pointer (some ⟨b, o, none⟩)) 0).run Tryz.prog w = .ok (.pointer (some ⟨b, o + 0, none⟩)) w := fun _ => by kernel_rfl
theorem zaE : ∃ i, Tryz.prog.info? 53 = some i ∧ i.zero = some (.agg #[(.slice none 0 0), (.int .i64 0)]) ∧ i.size = 2 ∧ i.bytes = 32 := za5 (by kernel_rfl)
theorem za2 : Tryz.prog.underlying 22 = some (.slice 53) := by kernel_rfl
end HdYtfjinapgehafiaaGreatV77
open HdYtfjinapgehafiaaGreatV77

theorem way_of {w : Way} (name : ByteArray) (n : Int) (hw : wayO name n = some w) : CD Tryz.prog 98 [] [.s name, dI n] (isR (wayD (some w))) := hw ▸ way_c name n
theorem p_way_nil {ty t t' : TypeId} {K : Kd} {H : List Hp} {x y : Operand} {w : Way} (hx : opD K x = some (wayD (some w))) (hy : y = .const .nilIface) (ht : t = 20) : Pu Tryz.prog (.binOp .eql t x y t') ty K H (dB false) :=
  ⟨fun ρ F0 F hk _ _ => by
    subst hy; subst ht
    have h : D.rep F0 F (wayD (some w)) (ev ρ x) := hk.op hx
    obtain ⟨T, u, e⟩ : ∃ T u, ev ρ x = .iface T u := by
      cases w <;> (obtain ⟨u, e, _⟩ := h; exact ⟨_, u, e⟩)
    exact zbM (zz ρ [x, .const .nilIface]) (zbc ρ e) (zbb ρ rfl) (fun w => by kernel_rfl) ⟨rfl, rfl⟩⟩
theorem p_way_top {ty t : TypeId} {K : Kd} {H : List Hp} {x : Operand} {w : Way} (hx : opD K x = some (wayD (some w))) (hw : w.red = true) (ht : t = 20) : Pu Tryz.prog (.typeAssert x t 105 true) ty K H (.tup [.agg [dI 0], dB false]) := by
  subst ht
  cases w with
  | sums m => exact (zaC (zv := (.agg #[(.int .i64 0)])) hx (fun _ _ => by kernel_rfl)).cv (Cv.tup (.cons (Cv.vagg (by decide)) (.cons Cv.rfl' .nil)))
  | least => exact (zaC (zv := (.agg #[(.int .i64 0)])) hx (fun _ _ => by kernel_rfl)).cv (Cv.tup (.cons (Cv.vagg (by decide)) (.cons Cv.rfl' .nil)))
  | most => exact (zaC (zv := (.agg #[(.int .i64 0)])) hx (fun _ _ => by kernel_rfl)).cv (Cv.tup (.cons (Cv.vagg (by decide)) (.cons Cv.rfl' .nil)))
  | many => exact (zaC (zv := (.agg #[(.int .i64 0)])) hx (fun _ _ => by kernel_rfl)).cv (Cv.tup (.cons (Cv.vagg (by decide)) (.cons Cv.rfl' .nil)))
  | rank p => exact (zaC (zv := (.agg #[(.int .i64 0)])) hx (fun _ _ => by kernel_rfl)).cv (Cv.tup (.cons (Cv.vagg (by decide)) (.cons Cv.rfl' .nil)))
  | top n => cases hw
theorem gs_facts {mode : Int} {names : List ByteArray} {l : List RowD} {k : Nat} {g : List RowD} (hg : zV l = true) (hx : (zM mode names l)[k]? = some g) : 0 < g.length ∧ g.length ≤ 2000 ∧ (∀ r ∈ g, r.ls.length ≤ 8) ∧ (∀ r ∈ g, r ∈ l) := by
  have hvl := (zaS.1 hg).1
  unfold zM at hx; rw [if_pos hg] at hx
  have hm := zay hx
  have h1 := (splitG_ok (κ := kapB mode names) l).ne g hm
  have h2 := splitG_rows (κ := kapB mode names) l g hm
  have h3 := splitG_mem (κ := kapB mode names) l g hm
  refine ⟨List.length_pos_iff.2 h1, by omega, fun r hr => okRow_len (zcY hg r (h3 r hr)), h3⟩
theorem gs_len {mode : Int} {names : List ByteArray} {l : List RowD} (hg : zV l = true) : (zM mode names l).length ≤ 2000 := by
  have hvl := (zaS.1 hg).1
  have := splitG_len (κ := kapB mode names) l
  unfold zM; rw [if_pos hg]; omega

theorem do_c (name : ByteArray) (n : Int) (mode : Int) (names : List ByteArray) (l : List RowD) (w : Way) (hw : wayO name n = some w) (hr : w.red = true) (hl : l.length ≤ 1000000) :
    CD Tryz.prog 31 [] [.s name, dI n, dI mode, .sh 1 (names.map D.s), .sh 2 (l.map RowD.d)] (fun r H' => ∃ v0_, r = .tup [.ov v0_, dI (gdE w mode names l)] ∧ H' = [.sl v0_ 2 53 ((gdL w mode names l).map RowD.d)]) := by
  refine zn Tryz.func31 rfl (N := 87) rfl rfl (fun C => ?_)
  refine jk [0, 1, 2, 3, 4] rfl ?_
  refine JD.bd 0 rfl (fun bd0 => ?_)
  have sz0 : name.size ≤ 9223372036854775807 := bd0
  refine JD.bd 3 rfl (fun bd3 => ?_)
  have nl3 := zQ bd3
  refine JD.bd 4 rfl (fun bd4 => ?_)
  have nl4 := zQ bd4
  have hag := way_agg hw
  refine jT rfl (oR 2 rfl (oZ rfl (jT rfl (oR 2 rfl (oW rfl rfl acs Tryz.call98 (way_of name n hw) (oR 1 rfl (oZ rfl (jS rfl (jS rfl (jk [0, 2, 3, 4, 10, 11, 12] rfl ?_))))))))))
  refine zao 34 (!(zV l)) [] (fun _ hQ1 => ?_) ?_
  · skip
    refine za rfl (oR 1 rfl (oP rfl (p_way_nil rfl rfl rfl) (oR 2 rfl (oV rfl rfl acs Tryz.call99 (Agg_c name) (os 27 rfl (congrArg (fun b => D.v (.bool b)) hag) (oR 4 rfl (oV rfl rfl acs Tryz.call26 (vRight_c l) (oG rfl (zba rfl) (oR 1 rfl (zi rfl ?_))))))))))
    exact PD.sub ((34, dB (!(zV l))) :: [(0, .s name), (2, dI mode), (3, .sh 1 (names.map D.s)), (4, .sh 2 (l.map RowD.d)), (10, dZ), (11, dI 0), (12, wayD (some w))]) ⟨sc rfl (Cv.eq (congrArg (fun b => D.v (.bool b)) (by first | (simp [hag]; done) | (simp_all; done)))), sk rfl, sk rfl, sk rfl, sk rfl, sk rfl, sk rfl, sk rfl, trivial⟩ hQ1
  · skip
    refine zc ?_
    refine jC rfl (fun hc2 => ?_) (fun hc2 => ?_)
    · simp only [bA, bB, bC, bD, bE, bF, bG, bH, bI, bJ] at hc2
      have hbd : zV l = false := by simpa using hc2
      refine jT rfl (oR 2 rfl (oZ rfl (zl rfl (zb (PD.subH (HSub.nil 2 53) (PD.norm [.sl (.slice none 0 0) 2 53 ((gdL w mode names l).map RowD.d)] (by have hw : [] = gdL w mode names l := (by first | exact (gd_bad hbd).1 | exact (gd_bad hbd).2); rw [show ([] : List D) = List.map RowD.d (gdL w mode names l) from congrArg (List.map RowD.d) hw]) ?_))))))
      exact zj Tryz.results31 (.cons (zr (zh rfl) (Cv.ov rfl)) (.cons (zr (zh rfl) (Cv.eq (congrArg (fun n => D.v (.int .i64 n)) (by first | exact (gd_bad hbd).1 | exact (gd_bad hbd).2)))) .nil)) rfl (HSub.fst 1 rfl) ⟨(.slice none 0 0), rfl, rfl⟩
    · simp only [bA, bB, bC, bD, bE, bF, bG, bH, bI, bJ] at hc2
      have hgd : zV l = true := by simpa using hc2
      have hvl := (zaS.1 hgd).1
      have hgl := gs_len (mode := mode) (names := names) hgd
      refine zk rfl (zc (jT rfl (oR 1 rfl (oZ rfl (jS rfl (jT rfl (oR 3 rfl (oW rfl rfl acs Tryz.call33 (splitF_c mode names l (by first | omega | decide)) (oP rfl (zaa (n := (zM mode names l).length) rfl Tryz.runUnderlying36 (by simp only [lm, lc, ln])) (oR 1 rfl (oZ rfl (jB rfl (jl3 (fun (a_ : Nat) (b_ : Value) (c_ : List RowD) => [(2, dI mode), (3, .sh 1 (names.map D.s)), (12, wayD (some w)), (38, .sh 1 ((zM mode names l).map (D.ls 2 RowD.d))), (39, dN ((zM mode names l).length)), (40, dN a_), (13, .ov b_)]) (fun a_ b_ c_ => [.sl b_ 2 53 (c_.map RowD.d)]) (fun a_ b_ c_ => (a_ ≤ (zM mode names l).length) ∧ (c_ = outR (kapB mode names) w ((zM mode names l).take a_)) ∧ (za0 (numF w) ((zM mode names l).take a_) = 0)) (fun a_ b_ c_ => (zM mode names l).length - a_) 0 (.slice none 0 0) [] rfl ⟨sk rfl, sk rfl, sk rfl, sk rfl, sk rfl, sk rfl, sc rfl (Cv.ov rfl), trivial⟩ (HSub.nil 2 53) ⟨Nat.zero_le _, rfl, rfl⟩ ?_)))))))))))))
      rintro k ov o ⟨hkl, ho, he⟩
      refine ja rfl (jn rfl ?_)
      have hol : o.length ≤ 2000 := by rw [ho]; unfold outR; rw [List.length_map, List.length_take]; omega
      refine jT rfl (oP rfl (zP rfl rfl rfl) (oZ rfl (jS rfl ?_)))
      refine jD rfl (fun hc3 => ?_) (fun hc3 => ?_)
      · skip
        refine zk rfl (zc (jS rfl (jB rfl (jT rfl ?_))))
        obtain ⟨x1, hx1⟩ := zx (zM mode names l) k (by omega)
        have hgx := gs_facts hgd hx1
        refine oP rfl (zu (k := k) rfl rfl Tryz.runUnderlying36 Tryz.sizeOf22 (by first | rfl | omega) (ze (f := (D.ls 2 RowD.d)) hx1)) (oP rfl (zG rfl Tryz.isAgg22 rfl) (oR 1 rfl (oZ rfl (jS rfl (jT rfl (oR 1 rfl (oP rfl (p_way_top rfl hr rfl) (oR 3 rfl (oE rfl (zav (zv := (.agg #[(.int .i64 0)])) Tryz.zeroValue105 ⟨rfl, trivial⟩ (Cv.vagg (by decide))) ?_)))))))))
        rintro _ _ ⟨g4, rfl, rfl⟩
        refine oE rfl (zZ (i := 0) (X' := .agg [dI 0]) rfl rfl rfl (CellD.agg) Tryz.sizeOf105 rfl rfl rfl) ?_
        rintro _ _ ⟨rfl, rfl⟩
        refine on rfl (oR 1 rfl (oZ rfl (jT rfl (oR 1 rfl (oZ rfl (jCf rfl (zk rfl (zc (jT rfl (oR 2 rfl (oW rfl rfl acs Tryz.call102 (one_c w hr x1 hgx.1 (by have h := hgx.2.1; omega)) (oR 5 rfl (oZ rfl (jS rfl (jT rfl (oR 1 rfl (oP rfl (zbs rfl rfl rfl) (oZ rfl ?_))))))))))))))))))
        refine jD rfl (fun hc5 => ?_) (fun hc5 => ?_)
        · skip
          refine jT rfl (oR 3 rfl (oZ rfl (zl rfl (zb (zf (zb (zN (zf (zb (PD.subH (HSub.nil 2 53) (PD.norm [.sl (.slice none 0 0) 2 53 ((gdL w mode names l).map RowD.d), .bx g4 105 (.agg [dI 0]), .sl ov 2 53 (o.map RowD.d)] (by have hw : [] = gdL w mode names l := (by first | exact (gd_err hgd hx1 he (by have h := hc5; omega)).1 | exact (gd_err hgd hx1 he (by have h := hc5; omega)).2); rw [show ([] : List D) = List.map RowD.d (gdL w mode names l) from congrArg (List.map RowD.d) hw]) ?_)))))))))))
          exact zj Tryz.results31 (.cons (zr (zh rfl) (Cv.ov rfl)) (.cons (zr (zh rfl) (Cv.eq (congrArg (fun n => D.v (.int .i64 n)) (by first | exact (gd_err hgd hx1 he (by have h := hc5; omega)).1 | exact (gd_err hgd hx1 he (by have h := hc5; omega)).2)))) .nil)) rfl (HSub.fst 1 rfl) ⟨(.slice none 0 0), rfl, rfl⟩
        · skip
          refine zk rfl (zc (za rfl (oR 4 rfl ?_)))
          obtain ⟨x2, hx2⟩ := zx x1 0 (by omega)
          have hk8 := hgx.2.2.1 x2 (zay hx2)
          refine oP rfl (zu (k := 0) rfl rfl Tryz.runUnderlying22 Tryz.sizeOf53 (by first | rfl | omega) (ze hx2)) (oP rfl (zF rfl z2 rfl) (oP rfl (zG rfl Tryz.isAgg50 rfl) (oE rfl (zH [] _ [] rfl rfl (.cons ArgC.id (.cons ArgC.id (.cons ArgC.id .nil))) zt Tryz.call34 (by_c mode names x2.ls (by omega)) (.inl rfl)) ?_)))
          rintro _ _ ⟨_, ⟨v6, rfl, rfl⟩, rfl⟩
          refine on rfl (oR 1 rfl ?_)
          refine OpsD.mv (Mv.freeze (K' := [(2, dI mode), (3, .sh 1 (names.map D.s)), (12, wayD (some w)), (13, .ov ov), (15, .sh 2 (x1.map RowD.d)), (16, dP g4 0), (17, dB false), (18, dI ((numF w x1).1)), (19, dI ((numF w x1).2)), (38, .sh 1 ((zM mode names l).map (D.ls 2 RowD.d))), (39, dN ((zM mode names l).length)), (40, dN k), (41, dB (decide (((k : Nat) : Int) < (((zM mode names l).length : Nat) : Int)))), (42, .el (.sh 2 (x1.map RowD.d)) 0), (43, .sh 2 (x1.map RowD.d)), (44, .tup [.agg [dI 0], dB false]), (45, wayD (some w)), (46, .tup [.agg [dI 0], dB false]), (47, .agg [dI 0]), (48, dB false), (49, dB false), (61, .tup [dI ((numF w x1).1), dI ((numF w x1).2)]), (62, wayD (some w)), (63, .sh 2 (x1.map RowD.d)), (64, .tup [dI ((numF w x1).1), dI ((numF w x1).2)]), (65, dI ((numF w x1).1)), (66, dI ((numF w x1).2)), (67, dI ((numF w x1).2)), (68, dB (decide ((numF w x1).2 ≠ (0 : Int)))), (70, .ov ov), (71, dI mode), (72, .sh 1 (names.map D.s)), (73, .sh 2 (x1.map RowD.d)), (74, .el (RowD.d x2) 0), (75, .el (RowD.d x2) 0), (76, .sh 2 (x2.ls.map Lbl.d)), (77, .sh 2 ((byL mode names x2.ls).map Lbl.d)), (78, dI ((numF w x1).1))]) [.sl v6 2 62 ((byL mode names x2.ls).map Lbl.d)] (H1 := [.bx g4 105 (.agg [dI 0]), .sl ov 2 53 (o.map RowD.d)]) (H1' := [.bx g4 105 (.agg [dI 0]), .sl ov 2 53 (o.map RowD.d)]) ⟨⟨_, rfl, ArgC.id⟩, ⟨_, rfl, ArgC.id⟩, ⟨_, rfl, ArgC.id⟩, ⟨_, rfl, ArgC.id⟩, ⟨_, rfl, ArgC.id⟩, ⟨_, rfl, ArgC.id⟩, ⟨_, rfl, ArgC.id⟩, ⟨_, rfl, ArgC.id⟩, ⟨_, rfl, ArgC.id⟩, ⟨_, rfl, ArgC.id⟩, ⟨_, rfl, ArgC.id⟩, ⟨_, rfl, ArgC.id⟩, ⟨_, rfl, ArgC.id⟩, ⟨_, rfl, ArgC.id⟩, ⟨_, rfl, ArgC.id⟩, ⟨_, rfl, ArgC.id⟩, ⟨_, rfl, ArgC.id⟩, ⟨_, rfl, ArgC.id⟩, ⟨_, rfl, ArgC.id⟩, ⟨_, rfl, ArgC.id⟩, ⟨_, rfl, ArgC.id⟩, ⟨_, rfl, ArgC.id⟩, ⟨_, rfl, ArgC.id⟩, ⟨_, rfl, ArgC.id⟩, ⟨_, rfl, ArgC.id⟩, ⟨_, rfl, ArgC.id⟩, ⟨_, rfl, ArgC.id⟩, ⟨_, rfl, ArgC.id⟩, ⟨_, rfl, ArgC.id⟩, ⟨_, rfl, ArgC.id⟩, ⟨_, rfl, ArgC.id⟩, ⟨_, rfl, ArgC.id⟩, ⟨_, rfl, ArgC.id⟩, ⟨_, rfl, ArgC.id⟩, ⟨_, rfl, ArgC.id⟩, ⟨_, rfl, ArgC.id⟩, ⟨_, rfl, ArgC.own (j := 0) rfl rfl⟩, ⟨_, rfl, ArgC.id⟩, trivial⟩ (.same (.same .nil))) ?_
          refine oP rfl (zaV [0, 1] [.tmp 77, .tmp 78] (zv := (.agg #[(.slice none 0 0), (.int .i64 0)])) rfl rfl (.cons CellD.sh (.cons (CellD.v rfl) .nil)) (Tryz.runUnderlying53) Tryz.zeroValue53 zcp ⟨rfl, rfl, trivial⟩ rfl) (oE rfl (zai [.tmp 79] rfl rfl (.cons CellD.agg .nil) rfl Tryz.runUnderlying22 Tryz.sizeOf53 Tryz.zeroValue53 rfl rfl rfl rfl) ?_)
          rintro _ _ ⟨g7, rfl, rfl⟩
          refine oE rfl (z7 (f := RowD.d) (l := o) (l' := [(RowD.mk (byL mode names x2.ls) ((numF w x1).1))]) (i := 2) rfl rfl rfl (SrcD.own (j := 0) rfl rfl) za2 zaE rfl rfl (by unfold maxLen; (try simp only [la, lc, ln, lm, lt', ld, ls, lr]); omega) (by (try simp only [la, lc, ln, lm, lt', ld, ls, lr]); omega)) ?_
          rintro _ _ ⟨v8, rfl, rfl⟩
          refine on rfl (oR 1 rfl (zi rfl (zy (zc (za rfl (oP rfl (zS (c := ((k + 1 : Nat) : Int)) rfl rfl (zB (by omega) (by omega))) (oR 1 rfl (zi rfl (PD.subH (HSub.perm (zaT (i := 2) rfl)) (pn rfl (PD.subH (HSub.fst 1 rfl) (pn rfl ?_))))))))))))
          exact pl3 (k + 1) v8 (o ++ [(RowD.mk (byL mode names x2.ls) ((numF w x1).1))]) (sa rfl) HSub.rfl' ⟨by show k + 1 ≤ (zM mode names l).length; omega, by rw [ho, outR_snoc hx1, head_of (κ := kapB mode names) hx2], firstG_snoc hx1 he (by have h := hc5; omega)⟩ (by omega)
      · skip
        refine zO rfl (zq (zp (zm (zc (jS rfl (JD.mv (Mv.freeze (K' := [(2, dI mode), (3, .sh 1 (names.map D.s)), (12, wayD (some w)), (13, .sh 2 (o.map RowD.d)), (38, .sh 1 ((zM mode names l).map (D.ls 2 RowD.d))), (39, dN ((zM mode names l).length)), (40, dN k), (41, dB (decide (((k : Nat) : Int) < (((zM mode names l).length : Nat) : Int))))]) [.sl ov 2 53 (o.map RowD.d)] (H1 := []) (H1' := []) ⟨⟨_, rfl, ArgC.id⟩, ⟨_, rfl, ArgC.id⟩, ⟨_, rfl, ArgC.id⟩, ⟨_, rfl, ArgC.own (j := 0) rfl rfl⟩, ⟨_, rfl, ArgC.id⟩, ⟨_, rfl, ArgC.id⟩, ⟨_, rfl, ArgC.id⟩, ⟨_, rfl, ArgC.id⟩, trivial⟩ .nil) (za rfl (oR 1 rfl (oE rfl (zH [] _ [] rfl rfl (.cons ArgC.id .nil) zt Tryz.call14 (vTidy_c o) (.inl rfl)) ?_)))))))))
        rintro _ _ ⟨_, ⟨v9, rfl, rfl⟩, rfl⟩
        refine on rfl (oR 4 rfl (oZ rfl (jk [10, 11] rfl (zl rfl (PD.norm [.sl v9 2 53 ((gdL w mode names l).map RowD.d)] (by have hw : rtL o = gdL w mode names l := (by first | (rw [ho]; exact (gd_ok hgd he (by omega)).1) | (rw [ho]; exact (gd_ok hgd he (by omega)).2)); rw [hw]) ?_)))))
        exact zj Tryz.results31 (.cons (zh rfl) (.cons (zr (zh rfl) (Cv.eq (congrArg (fun n => D.v (.int .i64 n)) (by first | (rw [ho]; exact (gd_ok hgd he (by omega)).1) | (rw [ho]; exact (gd_ok hgd he (by omega)).2))))) .nil)) rfl (HSub.fst 1 rfl) ⟨v9, rfl, rfl⟩
end Lp
