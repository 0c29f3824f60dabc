/- Walks, printed by a program of mine. -/
import Derived.Test.YtfjinapgehafiaaGreatV5
set_option linter.unusedSimpArgs false
set_option linter.unusedVariables false
set_option maxHeartbeats 4000000
set_option maxRecDepth 100000
namespace Lp
open Go Go.RowKit Go.Proofs

namespace HdYtfjinapgehafiaaGreatV6
theorem cv_207_5 {a : Int} (h : 0 ≤ a ∧ a ≤ 255) : ∀ w, (convert 207 5 (.int .u64 a)).run Tryz.prog w = .ok (.int .u8 a) w := fun w => by
  have e : IntKind.u8.wrap a = a := by simp [IntKind.wrap, IntKind.bits, IntKind.signed]; omega
  simp [convert, run_underlying (show Tryz.prog.underlying 207 = some _ by kernel_rfl), run_underlying (show Tryz.prog.underlying 5 = some _ by kernel_rfl), Conv.intToInt, e]
theorem zby {a : Int} (h : 0 ≤ a ∧ a ≤ 18446744073709551615) : ∀ w, (convert 3 165 (.int .i64 a)).run Tryz.prog w = .ok (.int .u64 a) w := fun w => by
  have e : IntKind.u64.wrap a = a := by simp [IntKind.wrap, IntKind.bits, IntKind.signed]; omega
  simp [convert, run_underlying (show Tryz.prog.underlying 3 = some _ by kernel_rfl), run_underlying (show Tryz.prog.underlying 165 = some _ by kernel_rfl), Conv.intToInt, e]
theorem cv_5_3 {a : Int} (h : -9223372036854775808 ≤ a ∧ a ≤ 9223372036854775807) : ∀ w, (convert 5 3 (.int .u8 a)).run Tryz.prog w = .ok (.int .i64 a) w := fun w => by
  have e : IntKind.i64.wrap a = a := by exact w64 (by omega)
  simp [convert, run_underlying (show Tryz.prog.underlying 5 = some _ by kernel_rfl), run_underlying (show Tryz.prog.underlying 3 = some _ by kernel_rfl), Conv.intToInt, e]
theorem eqn_50 (x : Operand) (A : Option Addr) (n c : Nat) (w : World) : (do eqGuard .eql 50 x (.const (.slice none 0 0)) (.slice A n c) (.slice none 0 0); binOp .eql 50 (.slice A n c) (.slice none 0 0) : Sem Value).run Tryz.prog w = .ok (.bool A.isNone) w := by cases A <;> kernel_rfl
theorem zak (b o : Nat) : ∀ w, (Instr.fieldAt 62 (.pointer (some ⟨b, o, none⟩)) 0).run Tryz.prog w = .ok (.pointer (some ⟨b, o + 0, none⟩)) w := fun _ => by kernel_rfl
theorem zaC (b o : Nat) : ∀ w, (Instr.fieldAt 62 (.pointer (some ⟨b, o, none⟩)) 1).run Tryz.prog w = .ok (.pointer (some ⟨b, o + 1, none⟩)) w := fun _ => by kernel_rfl
theorem zbP : ∃ i, Tryz.prog.info? 62 = some i ∧ i.zero = some (.agg #[(.string ByteArray.empty), (.string ByteArray.empty)]) ∧ i.size = 2 ∧ i.bytes = 32 := za3 (by kernel_rfl)
theorem zcj : Tryz.prog.underlying 50 = some (.slice 62) := by kernel_rfl
end HdYtfjinapgehafiaaGreatV6
open HdYtfjinapgehafiaaGreatV6

theorem len64_c (x : Nat) (hx : x < 256) :
    CD Tryz.prog 182 [] [.v (.int .u64 ((x : Nat) : Int))] (fun r H' => ∃ k : Nat, r = dN k ∧ H' = []) := by
  refine zq Tryz.func182 rfl (N := 25) rfl rfl (fun C => ?_)
  refine jk [0] rfl (jT rfl (oR 1 rfl (oZ rfl (jS rfl (jT rfl (oR 1 rfl (oP rfl (zV rfl rfl rfl) (oZ rfl ?_))))))))
  refine jD rfl (fun hc1 => ?_) (fun hc1 => ?_)
  · skip
    exfalso; omega
  · skip
    refine zj rfl (zb (jS rfl (jT rfl (oR 1 rfl (oP rfl (zV rfl rfl rfl) (oZ rfl ?_))))))
    refine jD rfl (fun hc2 => ?_) (fun hc2 => ?_)
    · skip
      exfalso; omega
    · skip
      refine zj rfl (zb (jS rfl (jT rfl (oR 1 rfl (oP rfl (zV rfl rfl rfl) (oZ rfl ?_))))))
      refine jD rfl (fun hc3 => ?_) (fun hc3 => ?_)
      · skip
        exfalso; omega
      · skip
        refine zj rfl (zb (jT rfl (oR 2 rfl (oP rfl (zbN rfl (c := ((x : Nat) : Int)) (cv_207_5 (by omega))) ?_))))
        obtain ⟨u1, hu1⟩ := get_byte (⟨#[0, 1, 2, 2, 3, 3, 3, 3, 4, 4, 4, 4, 4, 4, 4, 4, 5, 5, 5, 5, 5, 5, 5, 5, 5, 5, 5, 5, 5, 5, 5, 5, 6, 6, 6, 6, 6, 6, 6, 6, 6, 6, 6, 6, 6, 6, 6, 6, 6, 6, 6, 6, 6, 6, 6, 6, 6, 6, 6, 6, 6, 6, 6, 6, 7, 7, 7, 7, 7, 7, 7, 7, 7, 7, 7, 7, 7, 7, 7, 7, 7, 7, 7, 7, 7, 7, 7, 7, 7, 7, 7, 7, 7, 7, 7, 7, 7, 7, 7, 7, 7, 7, 7, 7, 7, 7, 7, 7, 7, 7, 7, 7, 7, 7, 7, 7, 7, 7, 7, 7, 7, 7, 7, 7, 7, 7, 7, 7, 8, 8, 8, 8, 8, 8, 8, 8, 8, 8, 8, 8, 8, 8, 8, 8, 8, 8, 8, 8, 8, 8, 8, 8, 8, 8, 8, 8, 8, 8, 8, 8, 8, 8, 8, 8, 8, 8, 8, 8, 8, 8, 8, 8, 8, 8, 8, 8, 8, 8, 8, 8, 8, 8, 8, 8, 8, 8, 8, 8, 8, 8, 8, 8, 8, 8, 8, 8, 8, 8, 8, 8, 8, 8, 8, 8, 8, 8, 8, 8, 8, 8, 8, 8, 8, 8, 8, 8, 8, 8, 8, 8, 8, 8, 8, 8, 8, 8, 8, 8, 8, 8, 8, 8, 8, 8, 8, 8, 8, 8, 8, 8, 8, 8, 8, 8, 8, 8, 8, 8, 8, 8, 8, 8, 8, 8, 8, 8]⟩ : ByteArray) x (by show _ < 256; omega)
        have hlu1 := u1.toNat_lt
        refine oP rfl (zaX (k := x) rfl rfl Tryz.runUnderlying9 (by first | rfl | omega) hu1) (oP rfl (zbN rfl (c := ((u1.toNat : Nat) : Int)) (cv_5_3 (by omega))) (oP rfl (zO (c := ((0 + u1.toNat : Nat) : Int)) rfl rfl (zB (by omega) (by omega))) (oR 1 rfl (oZ rfl (jk [2] rfl (zm rfl ?_))))))
        exact zl Tryz.results182 (.cons (zh rfl) .nil) rfl (HSub.fst 0 rfl) ⟨_, rfl, rfl⟩

theorem len_c (x : Nat) (hx : x < 256) :
    CD Tryz.prog 145 [] [.v (.int .u64 ((x : Nat) : Int))] (fun r H' => ∃ k : Nat, r = dN k ∧ H' = []) := by
  refine zq Tryz.func145 rfl (N := 8) rfl rfl (fun C => ?_)
  refine jk [0] rfl (jT rfl (oR 1 rfl (oZ rfl (jS rfl (jCf rfl (zj rfl (zb (jT rfl (oR 1 rfl (oE rfl (zN [] [] [] rfl rfl (.cons ArgC.id .nil) zz Tryz.call182 (len64_c x (by omega)) (.inl rfl)) ?_))))))))))
  rintro _ _ ⟨_, ⟨k, rfl, rfl⟩, rfl⟩
  refine on rfl (oR 1 rfl (oZ rfl (zm rfl ?_)))
  exact zl Tryz.results145 (.cons (zh rfl) .nil) rfl (HSub.fst 0 rfl) ⟨_, rfl, rfl⟩

theorem cloneL_c (l : List Lbl) (hl : l.length ≤ 1000000) :
    CD Tryz.prog 108 [] [.sh 2 (l.map Lbl.d)] (zcU 2 62 (l.map Lbl.d)) := by
  refine zq Tryz.func108 rfl (N := 8) rfl rfl (fun C => ?_)
  refine jk [0] rfl ?_
  refine JD.bd 0 rfl (fun bd0 => ?_)
  have nl0 := zS bd0
  refine jT rfl (oR 1 rfl (oZ rfl (jS rfl (jT rfl (oR 1 rfl (oE rfl (ef_isNil rfl (eqn_50 _)) ?_))))))
  rintro _ _ ⟨b1, rfl, rfl, hb1⟩
  refine oZ rfl ?_
  refine jC rfl (fun hc2 => ?_) (fun hc2 => ?_)
  · skip
    refine jT rfl (oR 1 rfl (oZ rfl (zm rfl (zd ?_))))
    refine PD.drop (PD.subH (HSub.nil 2 62) ?_)
    refine PD.subH (HSub.turn (h' := .sl (.slice none 0 0) 2 62 (l.map Lbl.d)) rfl (Hp.eq_sl (show List.map Lbl.d [] = List.map Lbl.d l from congrArg _ (by exact (List.map_eq_nil_iff.1 (hb1 hc2)).symm)))) ?_
    exact zbn Tryz.results108 (.cons (zx (zh rfl) (Cv.ov rfl)) .nil) rfl ⟨_, rfl, rfl⟩
  · skip
    refine zj rfl (zb (jT rfl (oE rfl (ef_buildSlice0 Tryz.runUnderlying50 Tryz.sizeOf62) ?_)))
    rintro _ _ ⟨g3, rfl, rfl⟩
    refine oR 1 rfl (oE rfl (zac (f := Lbl.d) (l := []) (l' := l) (i := 0) rfl rfl rfl (SrcD.sh) zcj zbP rfl rfl (by unfold maxLen; (try simp only [la, lc, ln, lm, lt', ld, ls, lr]); omega) (by (try simp only [la, lc, ln, lm, lt', ld, ls, lr]); omega)) ?_)
    rintro _ _ ⟨v4, rfl, rfl⟩
    refine on rfl (oR 1 rfl (oZ rfl (zm rfl (PD.subH (HSub.less (zbr (i := 0) rfl)) (PD.subH (HSub.turn (h' := .sl v4 2 62 (l.map Lbl.d)) rfl (Hp.eq_sl (show List.map Lbl.d ([] ++ l) = List.map Lbl.d l from congrArg _ (by rfl)))) ?_)))))
    exact zbn Tryz.results108 (.cons (zh rfl) .nil) rfl ⟨_, rfl, rfl⟩

theorem insortL_c (v : Value) (l : List Lbl) (a b : Nat) (ha : a ≤ 1000000) (hb : b ≤ l.length) (hl : l.length ≤ 1000000) :
    CD Tryz.prog 222 [.sl v 2 62 (l.map Lbl.d)] [.ov v, dN a, dN b, .fn 154 [] []] (fun r H' => r = .tup [] ∧ H' = [.sl v 2 62 ((isrt zD a b b (a + 1) l).map Lbl.d)]) := by
  refine zq Tryz.func222 rfl (N := 53) rfl rfl (fun C => ?_)
  refine jk [0, 1, 2, 3] rfl (jT rfl (oR 1 rfl (oP rfl (zO (c := ((a + 1 : Nat) : Int)) rfl rfl (zB (by omega) (by omega))) (oR 1 rfl (oZ rfl (jB rfl (jl3 (fun (a_ : Nat) (b_ : Nat) (c_ : List Lbl) => [(0, .ov v), (1, dN a), (2, dN b), (3, .fn 154 [] []), (8, dN a_)]) (fun a_ b_ c_ => [.sl v 2 62 (c_.map Lbl.d)]) (fun a_ b_ c_ => (a + 1 ≤ a_) ∧ (b ≤ a_ + b_) ∧ ((c_).length = l.length) ∧ (isrt zD a b b_ (a_) c_ = isrt zD a b b (a + 1) l)) (fun a_ b_ c_ => b - a_) (a + 1) b l rfl (sa rfl) HSub.rfl' ⟨Nat.le_refl _, by show b ≤ a + 1 + b; omega, rfl, rfl⟩ ?_)))))))
  rintro i n L ⟨hi, hn, hL, hr⟩
  refine ja rfl (jn rfl (jS rfl (jT rfl (oR 2 rfl (oP rfl (zQ rfl rfl rfl) (oZ rfl ?_))))))
  refine jD rfl (fun hc1 => ?_) (fun hc1 => ?_)
  · skip
    refine zj rfl (zb (jS rfl (jB rfl (jT rfl (oR 2 rfl (oZ rfl (jB rfl (jl2 (fun (a_ : Nat) (b_ : List Lbl) => [(0, .ov v), (1, dN a), (2, dN b), (3, .fn 154 [] []), (8, dN i), (12, dN i), (13, dN b), (14, dB (decide (((i : Nat) : Int) < ((b : Nat) : Int)))), (17, dN i), (9, dN a_)]) (fun a_ b_ => [.sl v 2 62 (b_.map Lbl.d)]) (fun a_ b_ => (a_ ≤ i) ∧ ((b_).length = l.length) ∧ (bub zD a (a_) b_ = bub zD a i L)) (fun a_ b_ => a_) i L rfl (sa rfl) HSub.rfl' ⟨Nat.le_refl _, hL, rfl⟩ ?_))))))))
    rintro j M ⟨hj, hlM, hM⟩
    refine ja rfl (jn rfl (jS rfl (jS rfl ?_)))
    by_cases hg2 : ((a : Nat) : Int) < ((j : Nat) : Int)
    · skip
      refine jk [0, 1, 2, 3, 8, 9, 12, 13, 14, 17] rfl (jn rfl ?_)
      obtain ⟨x1, hx1⟩ := zy M j (by (try simp only [ls]); omega)
      obtain ⟨x2, hx2⟩ := zy M (j - 1) (by (try simp only [ls]); omega)
      refine zW 14 [(18, dN j, none), (19, dN a, none), (20, dB true, none), (21, dB true, none), (22, .fn 154 [] [], none), (23, .ov v, none), (24, dN j, none), (25, .v (.pointer (some ⟨bl v, j * 2 + 0, none⟩)), none), (26, Lbl.d x1, none), (27, .ov v, none), (28, dN j, none), (29, dN (j - 1), none), (30, .v (.pointer (some ⟨bl v, (j - 1) * 2 + 0, none⟩)), none), (31, Lbl.d x2, none)] [.sl v 2 62 (M.map Lbl.d)] (Hn := [.sl v 2 62 (M.map Lbl.d)]) mixed rfl rfl rfl rfl HSub.rfl' rfl ⟨sa_p rfl rfl rfl (zc rfl), sa_p rfl rfl rfl (zc rfl), sa_p rfl rfl rfl (zah rfl rfl (decide_eq_true hg2)), sa_p rfl rfl rfl (zc rfl), zG rfl rfl rfl rfl rfl rfl (zc rfl).qu, zG rfl rfl rfl rfl rfl rfl (zc rfl).qu, zG rfl rfl rfl rfl rfl rfl (zc rfl).qu, zG rfl rfl rfl rfl rfl rfl (zi (k := j) (j := 0) rfl rfl rfl Tryz.runUnderlying50 Tryz.sizeOf62 (by first | rfl | omega) (zg hx1)).qu, zG rfl rfl rfl rfl rfl rfl (zX (d := Lbl.d x1) rfl (i := 0) rfl (zg hx1) Tryz.isAgg62 Tryz.sizeOf62 rfl rfl).qu, zG rfl rfl rfl rfl rfl rfl (zc rfl).qu, zG rfl rfl rfl rfl rfl rfl (zc rfl).qu, zG rfl rfl rfl rfl rfl rfl (zav (c := ((j - 1 : Nat) : Int)) rfl rfl (zB (by omega) (by omega))).qu, zG rfl rfl rfl rfl rfl rfl (zi (k := j - 1) (j := 0) rfl rfl rfl Tryz.runUnderlying50 Tryz.sizeOf62 (by first | rfl | omega) (zg hx2)).qu, zG rfl rfl rfl rfl rfl rfl (zX (d := Lbl.d x2) rfl (i := 0) rfl (zg hx2) Tryz.isAgg62 Tryz.sizeOf62 rfl rfl).qu, trivial⟩ ?_
      refine ok [0, 1, 2, 3, 8, 9, 12, 13, 14, 17, 18, 19, 20, 21, 22, 23, 24, 25, 26, 27, 28, 29, 30, 31] rfl (oF rfl (zbk [] _ [] rfl rfl rfl (.cons ArgC.id (.cons ArgC.id .nil)) zz Tryz.call154 (order_c x1 x2) (.inl rfl)) ?_)
      rintro _ _ ⟨_, ⟨rfl, rfl⟩, rfl⟩
      refine on rfl (oG rfl (zQ rfl rfl rfl) (oR 1 rfl (oZ rfl ?_)))
      refine jD rfl (fun hc3 => ?_) (fun hc3 => ?_)
      · skip
        refine zj rfl (zb (jS rfl (jB rfl (jk [0, 1, 2, 3, 8, 9, 12, 13, 14, 17, 18, 19, 20, 21, 22, 23, 24, 25, 26, 27, 28, 29, 30, 31, 32, 33, 34] rfl (jn rfl ?_)))))
        refine zbj 16 [(37, .q (.ov v)), (38, .q (dN j)), (39, .q (.ov v)), (40, .q (dN j)), (41, .q (dN (j - 1))), (42, .q (.ov v)), (43, .q (dN j)), (44, .q (dN (j - 1))), (45, .r (.v (.pointer (some ⟨bl v, (j - 1) * 2 + 0, none⟩)))), (46, .r (Lbl.d x2)), (47, .q (.ov v)), (48, .q (dN j)), (49, .r (.v (.pointer (some ⟨bl v, j * 2 + 0, none⟩)))), (50, .r (Lbl.d x1)), (51, .r (.v (.pointer (some ⟨bl v, j * 2 + 0, none⟩)))), (68, .s (fun γ => [.sl v 2 62 ((M.set j x2).map Lbl.d)]))] [] (Hn := fun γ => [.sl v 2 62 ((M.set j x2).map Lbl.d)]) mixed rfl rfl (by kernel_rfl) (by kernel_rfl) (by kernel_rfl) HSub.none (fun _ => rfl) (fun γ => ⟨so_p rfl rfl rfl (zc rfl), so_p rfl rfl rfl (zc rfl), so_p rfl rfl rfl (zc rfl), so_p rfl rfl rfl (zc rfl), so_p rfl rfl rfl (zav (c := ((j - 1 : Nat) : Int)) rfl rfl (zB (by omega) (by omega))), so_p rfl rfl rfl (zc rfl), so_p rfl rfl rfl (zc rfl), so_p rfl rfl rfl (zav (c := ((j - 1 : Nat) : Int)) rfl rfl (zB (by omega) (by omega))), so_r rfl rfl rfl rfl (zi (k := j - 1) (j := 0) rfl rfl rfl Tryz.runUnderlying50 Tryz.sizeOf62 (by first | rfl | omega) (zg hx2)), so_r rfl rfl rfl rfl (zX (d := Lbl.d x2) rfl (i := 0) rfl (zg hx2) Tryz.isAgg62 Tryz.sizeOf62 rfl rfl), so_p rfl rfl rfl (zc rfl), so_p rfl rfl rfl (zc rfl), so_r rfl rfl rfl rfl (zi (k := j) (j := 0) rfl rfl rfl Tryz.runUnderlying50 Tryz.sizeOf62 (by first | rfl | omega) (zg hx1)), so_r rfl rfl rfl rfl (zX (d := Lbl.d x1) rfl (i := 0) rfl (zg hx1) Tryz.isAgg62 Tryz.sizeOf62 rfl rfl), so_r rfl rfl rfl rfl (zi (k := j) (j := 0) rfl rfl rfl Tryz.runUnderlying50 Tryz.sizeOf62 (by first | rfl | omega) (zg hx1)), zdN rfl rfl rfl rfl rfl ((zaE (f := Lbl.d) (k := j) (z := 2) (o := 0) (i := 0) (a' := x2) rfl rfl hx1 rfl (CellD.agg) Tryz.sizeOf62 rfl rfl rfl).mono (by rintro _ _ ⟨_, rfl⟩; rfl)) HSub.none, trivial⟩) (fun γ => ?_)
        refine ok [0, 1, 2, 3, 8, 9, 12, 13, 14, 17, 18, 19, 20, 21, 22, 23, 24, 25, 26, 27, 28, 29, 30, 31, 32, 33, 34, 37, 38, 39, 40, 41, 42, 43, 44, 45, 46, 47, 48, 49, 50, 51] rfl ?_
        obtain ⟨x3, hx3⟩ := zy (M.set j x2) (j - 1) (by (try simp only [ls]); omega)
        refine oP rfl (zi (k := j - 1) (j := 0) rfl rfl rfl Tryz.runUnderlying50 Tryz.sizeOf62 (by first | rfl | omega) (zg hx3)) (oE rfl (zaE (f := Lbl.d) (k := j - 1) (z := 2) (o := 0) (i := 0) (a' := x1) rfl rfl hx3 rfl (CellD.agg) Tryz.sizeOf62 rfl rfl rfl) ?_)
        rintro _ _ ⟨rfl, rfl⟩
        refine on rfl (ze rfl (zp (zb (za rfl (oR 1 rfl (oP rfl (zav (c := ((j - 1 : Nat) : Int)) rfl rfl (zB (by omega) (by omega))) (oR 1 rfl (ze rfl ?_))))))))
        exact pl2 (j - 1) ((M.set j x2).set (j - 1) x1) (sa rfl) HSub.rfl' ⟨by omega, by simp only [ls]; omega, by rw [← hM]; exact (bub_lt' (by omega) hx1 hx2 hc3).symm⟩ (by omega)
      · skip
        refine zL rfl (zo (zn (zk (zp (zb (za rfl (oR 1 rfl (oP rfl (zO (c := ((i + 1 : Nat) : Int)) rfl rfl (zB (by omega) (by omega))) (oR 1 rfl (ze rfl ?_))))))))))
        exact pl3 (i + 1) (n - 1) M (sa rfl) HSub.rfl' ⟨by show a + 1 ≤ i + 1; omega, by show b ≤ i + 1 + (n - 1); omega, hlM, by show isrt zD a b (n - 1) (i + 1) M = _; have hb : bub zD a j M = M := bub_ge' hx1 hx2 hc3; rw [← hr]; obtain ⟨m, rfl⟩ : ∃ m, n = m + 1 := ⟨n - 1, by omega⟩; rw [za8 (by omega), ← hM, hb]; rfl⟩ (by omega)
    · skip
      refine jk [0, 1, 2, 3, 8, 9, 12, 13, 14, 17] rfl (jn rfl (zW 14 [(18, dN j, none), (19, dN a, none), (20, dB false, none), (21, dB false, none), (22, .v undef, none), (23, .v undef, none), (24, .v undef, none), (25, .v undef, none), (26, .v undef, none), (27, .v undef, none), (28, .v undef, none), (29, .v undef, none), (30, .v undef, none), (31, .v undef, none)] [.sl v 2 62 (M.map Lbl.d)] (Hn := [.sl v 2 62 (M.map Lbl.d)]) mixed rfl rfl rfl rfl HSub.rfl' rfl ⟨sa_p rfl rfl rfl (zc rfl), sa_p rfl rfl rfl (zc rfl), sa_p rfl rfl rfl (zah rfl rfl (decide_eq_false hg2)), sa_p rfl rfl rfl (zc rfl), sa_s rfl rfl rfl rfl rfl rfl (by decide), sa_s rfl rfl rfl rfl rfl rfl (by decide), sa_s rfl rfl rfl rfl rfl rfl (by decide), sa_s rfl rfl rfl rfl rfl rfl (by decide), sa_s rfl rfl rfl rfl rfl rfl (by decide), sa_s rfl rfl rfl rfl rfl rfl (by decide), sa_s rfl rfl rfl rfl rfl rfl (by decide), sa_s rfl rfl rfl rfl rfl rfl (by decide), sa_s rfl rfl rfl rfl rfl rfl (by decide), sa_s rfl rfl rfl rfl rfl rfl (by decide), trivial⟩ (ok [0, 1, 2, 3, 8, 9, 12, 13, 14, 17, 18, 19, 20, 21, 22, 23, 24, 25, 26, 27, 28, 29, 30, 31] rfl (oR 3 rfl (oZ rfl (jCf rfl (zL rfl (zo (zn (zk (zp (zb (za rfl (oR 1 rfl (oP rfl (zO (c := ((i + 1 : Nat) : Int)) rfl rfl (zB (by omega) (by omega))) (oR 1 rfl ?_))))))))))))))))
      refine ze rfl ?_
      exact pl3 (i + 1) (n - 1) M (sa rfl) HSub.rfl' ⟨by show a + 1 ≤ i + 1; omega, by show b ≤ i + 1 + (n - 1); omega, hlM, by show isrt zD a b (n - 1) (i + 1) M = _; have hb : bub zD a j M = M := bub_end (by omega); rw [← hr]; obtain ⟨m, rfl⟩ : ∃ m, n = m + 1 := ⟨n - 1, by omega⟩; rw [za8 (by omega), ← hM, hb]; rfl⟩ (by omega)
  · skip
    refine zL rfl (zo (zn (zk (PD.norm [.sl v 2 62 ((isrt zD a b b (a + 1) l).map Lbl.d)] (by rw [← hr, zaY (by omega)]) ?_))))
    exact zb1 Tryz.results222 .nil rfl (HSub.fst 1 rfl) ⟨rfl, rfl⟩

theorem pdqL_c (v : Value) (l : List Lbl) (k : Nat) (hl : l.length ≤ 12) :
    CD Tryz.prog 205 [.sl v 2 62 (l.map Lbl.d)] [.ov v, dI 0, dN l.length, dN k, .fn 154 [] []] (fun r H' => r = .tup [] ∧ H' = [.sl v 2 62 ((zt zD l).map Lbl.d)]) := by
  refine zq Tryz.func205 rfl (N := 148) rfl rfl (fun C => ?_)
  refine jk [0, 1, 2, 3, 4] rfl (jT rfl (oR 1 rfl (oZ rfl (jT rfl (oR 1 rfl (oZ rfl (jB rfl (jl1 (fun (_ : Unit) => [(0, .ov v), (4, .fn 154 [] []), (1, dN 0), (2, dN l.length), (3, dN k), (10, dB true), (11, dB true)]) (fun _ => [.sl v 2 62 (l.map Lbl.d)]) (fun _ => True) (fun _ => 0) () rfl (sa rfl) HSub.rfl' trivial ?_))))))))
  rintro _ _
  refine ja rfl (jn rfl (jB rfl (jT rfl (oR 2 rfl (oP rfl (zav (c := (((l.length : Nat) : Int) - ((0 : Nat) : Int))) rfl rfl (zB (by omega) (by omega))) (oR 1 rfl (oZ rfl (jS rfl (jT rfl (oR 1 rfl (oP rfl (zaA rfl rfl rfl) (oZ rfl ?_))))))))))))
  refine jD rfl (fun hc1 => ?_) (fun hc1 => ?_)
  · skip
    refine jT rfl (oR 4 rfl (oE rfl (zN [.sl v 2 62 (l.map Lbl.d)] [] [] rfl rfl (.cons ArgC.id (.cons ArgC.id (.cons ArgC.id (.cons ArgC.id .nil)))) zz Tryz.call222 (insortL_c v l 0 l.length (by omega) (by first | exact Nat.le_refl _ | omega) (by omega)) (.inl rfl)) ?_))
    rintro _ _ ⟨_, ⟨rfl, rfl⟩, rfl⟩
    refine on rfl (oZ rfl (zm rfl (zd (zf (zP (zf (PD.norm [.sl v 2 62 ((zt zD l).map Lbl.d)] (by rw [isrt_all]) ?_)))))))
    exact zl Tryz.results205 .nil rfl (HSub.fst 1 rfl) ⟨rfl, rfl⟩
  · skip
    exfalso; omega

theorem sortL_c (v : Value) (l : List Lbl) (hl : l.length ≤ 12) :
    CD Tryz.prog 190 [.sl v 2 62 (l.map Lbl.d)] [.ov v, .fn 154 [] []] (fun r H' => r = .tup [] ∧ H' = [.sl v 2 62 ((zt zD l).map Lbl.d)]) := by
  refine zq Tryz.func190 rfl (N := 14) rfl rfl (fun C => ?_)
  refine jk [0, 1] rfl (jT rfl (oR 1 rfl (oP rfl (zU (n := l.length) (j := 0) rfl rfl Tryz.runUnderlying50 (List.length_map _)) (oR 1 rfl (oZ rfl (za rfl (oR 3 rfl (oP rfl (zbN rfl (c := ((l.length : Nat) : Int)) (zby (by omega))) (oE rfl (zN [] [.sl v 2 62 (l.map Lbl.d)] [] rfl rfl (.cons ArgC.id .nil) zz Tryz.call145 (len_c l.length (by omega)) (.inl rfl)) ?_)))))))))
  rintro _ _ ⟨_, ⟨k, rfl, rfl⟩, rfl⟩
  refine on rfl (oR 1 rfl (oE rfl (zN [.sl v 2 62 (l.map Lbl.d)] [] [] rfl rfl (.cons ArgC.id (.cons ArgC.id (.cons ArgC.id (.cons ArgC.id (.cons ArgC.id .nil))))) zz Tryz.call205 (pdqL_c v l k (by omega)) (.inl rfl)) ?_))
  rintro _ _ ⟨_, ⟨rfl, rfl⟩, rfl⟩
  refine on rfl (ze rfl ?_)
  exact zb1 Tryz.results190 .nil rfl (HSub.fst 1 rfl) ⟨rfl, rfl⟩

theorem tidy_c (l : List Lbl)  :
    CD Tryz.prog 159 [] [.sh 2 (l.map Lbl.d)] (fun r H' => ∃ v0_, r = .tup [.ov v0_, dI (zaH l)] ∧ H' = [.sl v0_ 2 62 ((zJ l).map Lbl.d)]) := by
  refine zq Tryz.func159 rfl (N := 53) rfl rfl (fun C => ?_)
  refine jk [0] rfl ?_
  refine JD.bd 0 rfl (fun bd0 => ?_)
  have nl0 := zS bd0
  have hil := zbL (c := zD) _ l rfl
  refine jT rfl (oR 2 rfl (oZ rfl (jS rfl (jT rfl (oR 1 rfl (oP rfl (z6 (n := l.length) rfl Tryz.runUnderlying50 (by simp only [lm, lc, ln])) (oP rfl (zah rfl rfl rfl) (oZ rfl ?_))))))))
  refine jD rfl (fun hc1 => ?_) (fun hc1 => ?_)
  · skip
    refine jT rfl (oR 2 rfl (oZ rfl (zm rfl (zd (PD.subH (HSub.nil 2 62) (PD.norm [.sl (.slice none 0 0) 2 62 ((zJ l).map Lbl.d)] (by have hw : [] = zJ l := (by first | exact (tidy_long hc1).1 | exact (tidy_long hc1).2); rw [show ([] : List D) = List.map Lbl.d (zJ l) from congrArg (List.map Lbl.d) hw]) ?_))))))
    exact zl Tryz.results159 (.cons (zx (zh rfl) (Cv.ov rfl)) (.cons (zx (zh rfl) (Cv.eq (congrArg (fun n => D.v (.int .i64 n)) (by first | exact (tidy_long hc1).1 | exact (tidy_long hc1).2)))) .nil)) rfl (HSub.fst 1 rfl) ⟨(.slice none 0 0), rfl, rfl⟩
  · skip
    refine zj rfl (zb (jT rfl (oR 1 rfl (oE rfl (zN [] _ [] rfl rfl (.cons ArgC.id .nil) zz Tryz.call108 (cloneL_c l (by omega)) (.inl rfl)) ?_))))
    rintro _ _ ⟨_, ⟨v2, rfl, rfl⟩, rfl⟩
    refine on rfl (oR 1 rfl (oZ rfl (jT rfl (oR 1 rfl (oE rfl (zN [.sl v2 2 62 (l.map Lbl.d)] [] [] rfl rfl (.cons ArgC.id (.cons ArgC.id .nil)) zz Tryz.call190 (sortL_c v2 l (by omega)) (.inl rfl)) ?_)))))
    rintro _ _ ⟨_, ⟨rfl, rfl⟩, rfl⟩
    refine on rfl (oZ rfl (jS rfl (jT rfl (oR 1 rfl (oP rfl (zU (n := (zt zD l).length) (j := 0) rfl rfl Tryz.runUnderlying50 (List.length_map _)) (oR 1 rfl (oZ rfl (jB rfl (jl1 (fun (a_ : Nat) => [(4, .ov v2), (14, .ov v2), (15, dN ((zt zD l).length)), (16, dN a_)]) (fun a_ => [.sl v2 2 62 ((zt zD l).map Lbl.d)]) (fun a_ => (zcW (zt zD l) = zbD (zt zD l) a_)) (fun a_ => l.length - a_) 0 rfl (sa rfl) HSub.rfl' rfl ?_)))))))))
    rintro k hk
    refine ja rfl (jn rfl (jT rfl (oP rfl (zQ rfl rfl rfl) (oZ rfl (jS rfl ?_)))))
    refine jD rfl (fun hc3 => ?_) (fun hc3 => ?_)
    · skip
      refine zj rfl (zb (jS rfl (jB rfl (jT rfl (oR 1 rfl ?_)))))
      obtain ⟨x1, hx1⟩ := zy (zt zD l) k (by omega)
      refine oP rfl (zi (k := k) (j := 0) rfl rfl rfl Tryz.runUnderlying50 Tryz.sizeOf62 (by first | rfl | omega) (zg hx1)) (oP rfl (zX (d := Lbl.d x1) rfl (i := 0) rfl (zg hx1) Tryz.isAgg62 Tryz.sizeOf62 rfl rfl) (oE rfl (zar (zv := (.agg #[(.string ByteArray.empty), (.string ByteArray.empty)])) Tryz.zeroValue62 ⟨rfl, rfl, trivial⟩ (Cv.vagg (by decide))) ?_))
      rintro _ _ ⟨g4, rfl, rfl⟩
      refine oR 1 rfl (oE rfl (zY (i := 0) (X' := Lbl.d x1) rfl rfl rfl (CellD.agg) Tryz.sizeOf62 rfl rfl rfl) ?_)
      rintro _ _ ⟨rfl, rfl⟩
      refine on rfl (oZ rfl (jS rfl ?_))
      rcases Bool.eq_false_or_eq_true (zbw x1.n) with hg5 | hg5
      · skip
        by_cases hg6 : x1.v = ByteArray.empty
        · skip
          refine jk [4, 5, 6, 14, 15, 16, 17, 18, 19, 20] rfl (jn rfl ?_)
          refine zW 27 [(21, dP g4 0, none), (22, .s x1.n, none), (23, dB true, none), (24, dB false, none), (25, dB false, none), (26, dP g4 1, none), (27, .s x1.v, none), (28, dB true, none), (29, dB true, none), (30, dB true, none), (31, .v undef, none), (32, .v undef, none), (33, .v undef, none), (34, .v undef, none), (35, dB true, none), (36, dB true, none), (37, .v undef, none), (38, .v undef, none), (39, .v undef, none), (40, .v undef, none), (41, .v undef, none), (42, .v undef, none), (43, .v undef, none), (44, .v undef, none), (45, .v undef, none), (46, .v undef, none), (47, .v undef, none)] [.bx g4 62 (Lbl.d x1), .sl v2 2 62 ((zt zD l).map Lbl.d)] (Hn := [.bx g4 62 (Lbl.d x1), .sl v2 2 62 ((zt zD l).map Lbl.d)]) mixed rfl rfl rfl rfl HSub.rfl' rfl ⟨sa_p rfl rfl rfl (zw rfl zak rfl), sa_p rfl rfl rfl (zK rfl (i := 0) rfl Tryz.isAgg9 rfl), sa_q rfl rfl rfl ((zaI rfl (.cons Cv.rfl' .nil) Tryz.call191 (zdL x1.n) zaQ).cv (Cv.eq (congrArg (fun b => D.v (.bool b)) hg5))), sa_p rfl rfl rfl (zbc (q := true) rfl), sa_p rfl rfl rfl (zc rfl), zG rfl rfl rfl rfl rfl rfl (zw rfl zaC rfl).qu, zG rfl rfl rfl rfl rfl rfl (zK rfl (i := 0) rfl Tryz.isAgg9 rfl).qu, zG rfl rfl rfl rfl rfl rfl (zbo rfl rfl (decide_eq_true hg6)).qu, sa_p rfl rfl rfl (zb5 rfl rfl), sa_p rfl rfl rfl (zc rfl), sa_s rfl rfl rfl rfl rfl rfl (by decide), sa_s rfl rfl rfl rfl rfl rfl (by decide), sa_s rfl rfl rfl rfl rfl rfl (by decide), sa_s rfl rfl rfl rfl rfl rfl (by decide), sa_p rfl rfl rfl (p_pick_t rfl rfl), sa_p rfl rfl rfl (zc rfl), sa_s rfl rfl rfl rfl rfl rfl (by decide), sa_s rfl rfl rfl rfl rfl rfl (by decide), sa_s rfl rfl rfl rfl rfl rfl (by decide), sa_s rfl rfl rfl rfl rfl rfl (by decide), sa_s rfl rfl rfl rfl rfl rfl (by decide), sa_s rfl rfl rfl rfl rfl rfl (by decide), sa_s rfl rfl rfl rfl rfl rfl (by decide), sa_s rfl rfl rfl rfl rfl rfl (by decide), sa_s rfl rfl rfl rfl rfl rfl (by decide), sa_s rfl rfl rfl rfl rfl rfl (by decide), sa_s rfl rfl rfl rfl rfl rfl (by decide), trivial⟩ ?_
          refine ok [4, 5, 6, 14, 15, 16, 17, 18, 19, 20, 21, 22, 23, 24, 25, 26, 27, 28, 29, 30, 31, 32, 33, 34, 35, 36, 37, 38, 39, 40, 41, 42, 43, 44, 45, 46, 47] rfl (oR 3 rfl (oZ rfl (jCt rfl (jT rfl (oR 2 rfl (oZ rfl (zm rfl (zf (zd (zP (zf (zd (PD.subH (HSub.nil 2 62) (PD.norm [.sl (.slice none 0 0) 2 62 ((zJ l).map Lbl.d), .bx g4 62 (Lbl.d x1), .sl v2 2 62 ((zt zD l).map Lbl.d)] (by have hw : [] = zJ l := (by first | exact (zaU hk hx1 (zc1 hg6)).1 | exact (zaU hk hx1 (zc1 hg6)).2); rw [show ([] : List D) = List.map Lbl.d (zJ l) from congrArg (List.map Lbl.d) hw]) ?_))))))))))))))
          exact zl Tryz.results159 (.cons (zx (zh rfl) (Cv.ov rfl)) (.cons (zx (zh rfl) (Cv.eq (congrArg (fun n => D.v (.int .i64 n)) (by first | exact (zaU hk hx1 (zc1 hg6)).1 | exact (zaU hk hx1 (zc1 hg6)).2)))) .nil)) rfl (HSub.fst 1 rfl) ⟨(.slice none 0 0), rfl, rfl⟩
        · skip
          by_cases hg7 : (60 : Int) < ((x1.v.size : Nat) : Int)
          · skip
            refine jk [4, 5, 6, 14, 15, 16, 17, 18, 19, 20] rfl (jn rfl ?_)
            refine zW 27 [(21, dP g4 0, none), (22, .s x1.n, none), (23, dB true, none), (24, dB false, none), (25, dB false, none), (26, dP g4 1, none), (27, .s x1.v, none), (28, dB false, none), (29, dB false, none), (30, dB false, none), (31, dP g4 1, none), (32, .s x1.v, none), (33, dN x1.v.size, none), (34, dB true, none), (35, dB true, none), (36, dB true, none), (37, .v undef, none), (38, .v undef, none), (39, .v undef, none), (40, .v undef, none), (41, .v undef, none), (42, .v undef, none), (43, .v undef, none), (44, .v undef, none), (45, .v undef, none), (46, .v undef, none), (47, .v undef, none)] [.bx g4 62 (Lbl.d x1), .sl v2 2 62 ((zt zD l).map Lbl.d)] (Hn := [.bx g4 62 (Lbl.d x1), .sl v2 2 62 ((zt zD l).map Lbl.d)]) mixed rfl rfl rfl rfl HSub.rfl' rfl ⟨sa_p rfl rfl rfl (zw rfl zak rfl), sa_p rfl rfl rfl (zK rfl (i := 0) rfl Tryz.isAgg9 rfl), sa_q rfl rfl rfl ((zaI rfl (.cons Cv.rfl' .nil) Tryz.call191 (zdL x1.n) zaQ).cv (Cv.eq (congrArg (fun b => D.v (.bool b)) hg5))), sa_p rfl rfl rfl (zbc (q := true) rfl), sa_p rfl rfl rfl (zc rfl), zG rfl rfl rfl rfl rfl rfl (zw rfl zaC rfl).qu, zG rfl rfl rfl rfl rfl rfl (zK rfl (i := 0) rfl Tryz.isAgg9 rfl).qu, zG rfl rfl rfl rfl rfl rfl (zbo rfl rfl (decide_eq_false hg6)).qu, sa_p rfl rfl rfl (zb5 rfl rfl), sa_p rfl rfl rfl (zc rfl), zG rfl rfl rfl rfl rfl rfl (zw rfl zaC rfl).qu, zG rfl rfl rfl rfl rfl rfl (zK rfl (i := 0) rfl Tryz.isAgg9 rfl).qu, zG rfl rfl rfl rfl rfl rfl (zbI rfl Tryz.runUnderlying9).qu, zG rfl rfl rfl rfl rfl rfl (zah rfl rfl (decide_eq_true hg7)).qu, sa_p rfl rfl rfl (zb5 rfl rfl), sa_p rfl rfl rfl (zc rfl), sa_s rfl rfl rfl rfl rfl rfl (by decide), sa_s rfl rfl rfl rfl rfl rfl (by decide), sa_s rfl rfl rfl rfl rfl rfl (by decide), sa_s rfl rfl rfl rfl rfl rfl (by decide), sa_s rfl rfl rfl rfl rfl rfl (by decide), sa_s rfl rfl rfl rfl rfl rfl (by decide), sa_s rfl rfl rfl rfl rfl rfl (by decide), sa_s rfl rfl rfl rfl rfl rfl (by decide), sa_s rfl rfl rfl rfl rfl rfl (by decide), sa_s rfl rfl rfl rfl rfl rfl (by decide), sa_s rfl rfl rfl rfl rfl rfl (by decide), trivial⟩ ?_
            refine ok [4, 5, 6, 14, 15, 16, 17, 18, 19, 20, 21, 22, 23, 24, 25, 26, 27, 28, 29, 30, 31, 32, 33, 34, 35, 36, 37, 38, 39, 40, 41, 42, 43, 44, 45, 46, 47] rfl (oR 3 rfl (oZ rfl (jCt rfl (jT rfl (oR 2 rfl (oZ rfl (zm rfl (zf (zd (zP (zf (zd (PD.subH (HSub.nil 2 62) (PD.norm [.sl (.slice none 0 0) 2 62 ((zJ l).map Lbl.d), .bx g4 62 (Lbl.d x1), .sl v2 2 62 ((zt zD l).map Lbl.d)] (by have hw : [] = zJ l := (by first | exact (zaU hk hx1 (zc0 hg7)).1 | exact (zaU hk hx1 (zc0 hg7)).2); rw [show ([] : List D) = List.map Lbl.d (zJ l) from congrArg (List.map Lbl.d) hw]) ?_))))))))))))))
            exact zl Tryz.results159 (.cons (zx (zh rfl) (Cv.ov rfl)) (.cons (zx (zh rfl) (Cv.eq (congrArg (fun n => D.v (.int .i64 n)) (by first | exact (zaU hk hx1 (zc0 hg7)).1 | exact (zaU hk hx1 (zc0 hg7)).2)))) .nil)) rfl (HSub.fst 1 rfl) ⟨(.slice none 0 0), rfl, rfl⟩
          · skip
            by_cases hg8 : (0 : Int) < ((k : Nat) : Int)
            · skip
              refine jk [4, 5, 6, 14, 15, 16, 17, 18, 19, 20] rfl (jn rfl ?_)
              obtain ⟨x2, hx2⟩ := zy (zt zD l) (k - 1) (by omega)
              refine zW 27 [(21, dP g4 0, none), (22, .s x1.n, none), (23, dB true, none), (24, dB false, none), (25, dB false, none), (26, dP g4 1, none), (27, .s x1.v, none), (28, dB false, none), (29, dB false, none), (30, dB false, none), (31, dP g4 1, none), (32, .s x1.v, none), (33, dN x1.v.size, none), (34, dB false, none), (35, dB false, none), (36, dB false, none), (37, dN k, none), (38, dB true, none), (39, dB true, none), (40, .ov v2, none), (41, dN k, none), (42, dN (k - 1), none), (43, .v (.pointer (some ⟨bl v2, (k - 1) * 2 + 0, none⟩)), none), (44, .v (.pointer (some ⟨bl v2, (k - 1) * 2 + 0, none⟩)), none), (45, .s x2.n, none), (46, dP g4 0, none), (47, .s x1.n, none)] [.bx g4 62 (Lbl.d x1), .sl v2 2 62 ((zt zD l).map Lbl.d)] (Hn := [.bx g4 62 (Lbl.d x1), .sl v2 2 62 ((zt zD l).map Lbl.d)]) mixed rfl rfl rfl rfl HSub.rfl' rfl ⟨sa_p rfl rfl rfl (zw rfl zak rfl), sa_p rfl rfl rfl (zK rfl (i := 0) rfl Tryz.isAgg9 rfl), sa_q rfl rfl rfl ((zaI rfl (.cons Cv.rfl' .nil) Tryz.call191 (zdL x1.n) zaQ).cv (Cv.eq (congrArg (fun b => D.v (.bool b)) hg5))), sa_p rfl rfl rfl (zbc (q := true) rfl), sa_p rfl rfl rfl (zc rfl), zG rfl rfl rfl rfl rfl rfl (zw rfl zaC rfl).qu, zG rfl rfl rfl rfl rfl rfl (zK rfl (i := 0) rfl Tryz.isAgg9 rfl).qu, zG rfl rfl rfl rfl rfl rfl (zbo rfl rfl (decide_eq_false hg6)).qu, sa_p rfl rfl rfl (zb5 rfl rfl), sa_p rfl rfl rfl (zc rfl), zG rfl rfl rfl rfl rfl rfl (zw rfl zaC rfl).qu, zG rfl rfl rfl rfl rfl rfl (zK rfl (i := 0) rfl Tryz.isAgg9 rfl).qu, zG rfl rfl rfl rfl rfl rfl (zbI rfl Tryz.runUnderlying9).qu, zG rfl rfl rfl rfl rfl rfl (zah rfl rfl (decide_eq_false hg7)).qu, sa_p rfl rfl rfl (zb5 rfl rfl), sa_p rfl rfl rfl (zc rfl), zG rfl rfl rfl rfl rfl rfl (zc rfl).qu, zG rfl rfl rfl rfl rfl rfl (zah rfl rfl (decide_eq_true hg8)).qu, zG rfl rfl rfl rfl rfl rfl (zc rfl).qu, zG rfl rfl rfl rfl rfl rfl (zc rfl).qu, zG rfl rfl rfl rfl rfl rfl (zc rfl).qu, zG rfl rfl rfl rfl rfl rfl (zav (c := ((k - 1 : Nat) : Int)) rfl rfl (zB (by omega) (by omega))).qu, zG rfl rfl rfl rfl rfl rfl (zi (k := k - 1) (j := 1) rfl rfl rfl Tryz.runUnderlying50 Tryz.sizeOf62 (by first | rfl | omega) (zg hx2)).qu, zG rfl rfl rfl rfl rfl rfl (zw rfl zak rfl).qu, zG rfl rfl rfl rfl rfl rfl (z8 rfl (i := 1) rfl (zg hx2) Tryz.isAgg9 rfl).qu, zG rfl rfl rfl rfl rfl rfl (zw rfl zak rfl).qu, zG rfl rfl rfl rfl rfl rfl (zK rfl (i := 0) rfl Tryz.isAgg9 rfl).qu, trivial⟩ ?_
              refine ok [4, 5, 6, 14, 15, 16, 17, 18, 19, 20, 21, 22, 23, 24, 25, 26, 27, 28, 29, 30, 31, 32, 33, 34, 35, 36, 37, 38, 39, 40, 41, 42, 43, 44, 45, 46, 47] rfl (oG rfl (zbo rfl rfl rfl) (oR 2 rfl (oZ rfl ?_)))
              refine jD rfl (fun hc9 => ?_) (fun hc9 => ?_)
              · skip
                refine jT rfl (oR 2 rfl (oZ rfl (zm rfl (zf (zd (zP (zf (zd (PD.subH (HSub.nil 2 62) (PD.norm [.sl (.slice none 0 0) 2 62 ((zJ l).map Lbl.d), .bx g4 62 (Lbl.d x1), .sl v2 2 62 ((zt zD l).map Lbl.d)] (by have hw : [] = zJ l := (by first | exact (tidy_bad2 hk hx1 (zcD hg8 hx2) hc9).1 | exact (tidy_bad2 hk hx1 (zcD hg8 hx2) hc9).2); rw [show ([] : List D) = List.map Lbl.d (zJ l) from congrArg (List.map Lbl.d) hw]) ?_))))))))))
                exact zl Tryz.results159 (.cons (zx (zh rfl) (Cv.ov rfl)) (.cons (zx (zh rfl) (Cv.eq (congrArg (fun n => D.v (.int .i64 n)) (by first | exact (tidy_bad2 hk hx1 (zcD hg8 hx2) hc9).1 | exact (tidy_bad2 hk hx1 (zcD hg8 hx2) hc9).2)))) .nil)) rfl (HSub.fst 1 rfl) ⟨(.slice none 0 0), rfl, rfl⟩
              · skip
                refine zj rfl (zp (zb (za rfl (oP rfl (zO (c := ((k + 1 : Nat) : Int)) rfl rfl (zB (by omega) (by omega))) (oR 1 rfl (ze rfl ?_))))))
                exact pl1 (k + 1) (sa rfl) (HSub.lst 1 rfl) (tidy_step hk hx1 (okL_t hg5 hg6 hg7) (zcD hg8 hx2) hc9) (by omega)
            · skip
              refine jk [4, 5, 6, 14, 15, 16, 17, 18, 19, 20] rfl (jn rfl ?_)
              refine zW 27 [(21, dP g4 0, none), (22, .s x1.n, none), (23, dB true, none), (24, dB false, none), (25, dB false, none), (26, dP g4 1, none), (27, .s x1.v, none), (28, dB false, none), (29, dB false, none), (30, dB false, none), (31, dP g4 1, none), (32, .s x1.v, none), (33, dN x1.v.size, none), (34, dB false, none), (35, dB false, none), (36, dB false, none), (37, dN k, none), (38, dB false, none), (39, dB false, none), (40, .v undef, none), (41, .v undef, none), (42, .v undef, none), (43, .v undef, none), (44, .v undef, none), (45, .v undef, none), (46, .v undef, none), (47, .v undef, none)] [.bx g4 62 (Lbl.d x1), .sl v2 2 62 ((zt zD l).map Lbl.d)] (Hn := [.bx g4 62 (Lbl.d x1), .sl v2 2 62 ((zt zD l).map Lbl.d)]) mixed rfl rfl rfl rfl HSub.rfl' rfl ⟨sa_p rfl rfl rfl (zw rfl zak rfl), sa_p rfl rfl rfl (zK rfl (i := 0) rfl Tryz.isAgg9 rfl), sa_q rfl rfl rfl ((zaI rfl (.cons Cv.rfl' .nil) Tryz.call191 (zdL x1.n) zaQ).cv (Cv.eq (congrArg (fun b => D.v (.bool b)) hg5))), sa_p rfl rfl rfl (zbc (q := true) rfl), sa_p rfl rfl rfl (zc rfl), zG rfl rfl rfl rfl rfl rfl (zw rfl zaC rfl).qu, zG rfl rfl rfl rfl rfl rfl (zK rfl (i := 0) rfl Tryz.isAgg9 rfl).qu, zG rfl rfl rfl rfl rfl rfl (zbo rfl rfl (decide_eq_false hg6)).qu, sa_p rfl rfl rfl (zb5 rfl rfl), sa_p rfl rfl rfl (zc rfl), zG rfl rfl rfl rfl rfl rfl (zw rfl zaC rfl).qu, zG rfl rfl rfl rfl rfl rfl (zK rfl (i := 0) rfl Tryz.isAgg9 rfl).qu, zG rfl rfl rfl rfl rfl rfl (zbI rfl Tryz.runUnderlying9).qu, zG rfl rfl rfl rfl rfl rfl (zah rfl rfl (decide_eq_false hg7)).qu, sa_p rfl rfl rfl (zb5 rfl rfl), sa_p rfl rfl rfl (zc rfl), zG rfl rfl rfl rfl rfl rfl (zc rfl).qu, zG rfl rfl rfl rfl rfl rfl (zah rfl rfl (decide_eq_false hg8)).qu, zG rfl rfl rfl rfl rfl rfl (zc rfl).qu, sa_s rfl rfl rfl rfl rfl rfl (by decide), sa_s rfl rfl rfl rfl rfl rfl (by decide), sa_s rfl rfl rfl rfl rfl rfl (by decide), sa_s rfl rfl rfl rfl rfl rfl (by decide), sa_s rfl rfl rfl rfl rfl rfl (by decide), sa_s rfl rfl rfl rfl rfl rfl (by decide), sa_s rfl rfl rfl rfl rfl rfl (by decide), sa_s rfl rfl rfl rfl rfl rfl (by decide), trivial⟩ ?_
              refine ok [4, 5, 6, 14, 15, 16, 17, 18, 19, 20, 21, 22, 23, 24, 25, 26, 27, 28, 29, 30, 31, 32, 33, 34, 35, 36, 37, 38, 39, 40, 41, 42, 43, 44, 45, 46, 47] rfl (oR 3 rfl (oZ rfl (jCf rfl (zj rfl (zp (zb (za rfl (oP rfl (zO (c := ((k + 1 : Nat) : Int)) rfl rfl (zB (by omega) (by omega))) (oR 1 rfl (ze rfl ?_))))))))))
              exact pl1 (k + 1) (sa rfl) (HSub.lst 1 rfl) (tidy_step0 hk hx1 (okL_t hg5 hg6 hg7) (prevN_zero hg8)) (by omega)
      · skip
        refine jk [4, 5, 6, 14, 15, 16, 17, 18, 19, 20] rfl (jn rfl ?_)
        refine zW 27 [(21, dP g4 0, none), (22, .s x1.n, none), (23, dB false, none), (24, dB true, none), (25, dB true, none), (26, .v undef, none), (27, .v undef, none), (28, .v undef, none), (29, dB true, none), (30, dB true, none), (31, .v undef, none), (32, .v undef, none), (33, .v undef, none), (34, .v undef, none), (35, dB true, none), (36, dB true, none), (37, .v undef, none), (38, .v undef, none), (39, .v undef, none), (40, .v undef, none), (41, .v undef, none), (42, .v undef, none), (43, .v undef, none), (44, .v undef, none), (45, .v undef, none), (46, .v undef, none), (47, .v undef, none)] [.bx g4 62 (Lbl.d x1), .sl v2 2 62 ((zt zD l).map Lbl.d)] (Hn := [.bx g4 62 (Lbl.d x1), .sl v2 2 62 ((zt zD l).map Lbl.d)]) mixed rfl rfl rfl rfl HSub.rfl' rfl ⟨sa_p rfl rfl rfl (zw rfl zak rfl), sa_p rfl rfl rfl (zK rfl (i := 0) rfl Tryz.isAgg9 rfl), sa_q rfl rfl rfl ((zaI rfl (.cons Cv.rfl' .nil) Tryz.call191 (zdL x1.n) zaQ).cv (Cv.eq (congrArg (fun b => D.v (.bool b)) hg5))), sa_p rfl rfl rfl (zbc (q := false) rfl), sa_p rfl rfl rfl (zc rfl), sa_s rfl rfl rfl rfl rfl rfl (by decide), sa_s rfl rfl rfl rfl rfl rfl (by decide), sa_s rfl rfl rfl rfl rfl rfl (by decide), sa_p rfl rfl rfl (p_pick_t rfl rfl), sa_p rfl rfl rfl (zc rfl), sa_s rfl rfl rfl rfl rfl rfl (by decide), sa_s rfl rfl rfl rfl rfl rfl (by decide), sa_s rfl rfl rfl rfl rfl rfl (by decide), sa_s rfl rfl rfl rfl rfl rfl (by decide), sa_p rfl rfl rfl (p_pick_t rfl rfl), sa_p rfl rfl rfl (zc rfl), sa_s rfl rfl rfl rfl rfl rfl (by decide), sa_s rfl rfl rfl rfl rfl rfl (by decide), sa_s rfl rfl rfl rfl rfl rfl (by decide), sa_s rfl rfl rfl rfl rfl rfl (by decide), sa_s rfl rfl rfl rfl rfl rfl (by decide), sa_s rfl rfl rfl rfl rfl rfl (by decide), sa_s rfl rfl rfl rfl rfl rfl (by decide), sa_s rfl rfl rfl rfl rfl rfl (by decide), sa_s rfl rfl rfl rfl rfl rfl (by decide), sa_s rfl rfl rfl rfl rfl rfl (by decide), sa_s rfl rfl rfl rfl rfl rfl (by decide), trivial⟩ ?_
        refine ok [4, 5, 6, 14, 15, 16, 17, 18, 19, 20, 21, 22, 23, 24, 25, 26, 27, 28, 29, 30, 31, 32, 33, 34, 35, 36, 37, 38, 39, 40, 41, 42, 43, 44, 45, 46, 47] rfl (oR 3 rfl (oZ rfl (jCt rfl (jT rfl (oR 2 rfl (oZ rfl (zm rfl (zf (zd (zP (zf (zd (PD.subH (HSub.nil 2 62) (PD.norm [.sl (.slice none 0 0) 2 62 ((zJ l).map Lbl.d), .bx g4 62 (Lbl.d x1), .sl v2 2 62 ((zt zD l).map Lbl.d)] (by have hw : [] = zJ l := (by first | exact (zaU hk hx1 (zc2 hg5)).1 | exact (zaU hk hx1 (zc2 hg5)).2); rw [show ([] : List D) = List.map Lbl.d (zJ l) from congrArg (List.map Lbl.d) hw]) ?_))))))))))))))
        exact zl Tryz.results159 (.cons (zx (zh rfl) (Cv.ov rfl)) (.cons (zx (zh rfl) (Cv.eq (congrArg (fun n => D.v (.int .i64 n)) (by first | exact (zaU hk hx1 (zc2 hg5)).1 | exact (zaU hk hx1 (zc2 hg5)).2)))) .nil)) rfl (HSub.fst 1 rfl) ⟨(.slice none 0 0), rfl, rfl⟩
    · skip
      refine zL rfl (zo (zn (zk (zb (jT rfl (oR 3 rfl (oZ rfl (zm rfl (PD.norm [.sl v2 2 62 ((zJ l).map Lbl.d)] (by have hw : (zt zD l) = zJ l := (by first | exact (tidy_good hk (by omega) (by omega)).1 | exact (tidy_good hk (by omega) (by omega)).2); rw [hw]) ?_)))))))))
      exact zl Tryz.results159 (.cons (zh rfl) (.cons (zx (zh rfl) (Cv.eq (congrArg (fun n => D.v (.int .i64 n)) (by first | exact (tidy_good hk (by omega) (by omega)).1 | exact (tidy_good hk (by omega) (by omega)).2)))) .nil)) rfl (HSub.fst 1 rfl) ⟨v2, rfl, rfl⟩
end Lp
/- Walks, printed by a program of mine. -/
set_option linter.unusedSimpArgs false
set_option linter.unusedVariables false
set_option maxHeartbeats 4000000
set_option maxRecDepth 100000
namespace Lp
open Go Go.RowKit Go.Proofs

namespace HdYtfjinapgehafiaaGreatV7
theorem eqb_4_eql (x y : Operand) (a b : Bool) (w : World) : (do eqGuard .eql 4 x y (.bool a) (.bool b); binOp .eql 4 (.bool a) (.bool b) : Sem Value).run Tryz.prog w = .ok (.bool (a == b)) w := by cases a <;> cases b <;> kernel_rfl
theorem zak (b o : Nat) : ∀ w, (Instr.fieldAt 62 (.pointer (some ⟨b, o, none⟩)) 0).run Tryz.prog w = .ok (.pointer (some ⟨b, o + 0, none⟩)) w := fun _ => by kernel_rfl
theorem zbP : ∃ i, Tryz.prog.info? 62 = some i ∧ i.zero = some (.agg #[(.string ByteArray.empty), (.string ByteArray.empty)]) ∧ i.size = 2 ∧ i.bytes = 32 := za3 (by kernel_rfl)
theorem zcj : Tryz.prog.underlying 50 = some (.slice 62) := by kernel_rfl
end HdYtfjinapgehafiaaGreatV7
open HdYtfjinapgehafiaaGreatV7

theorem sameLs_c (a : List Lbl) (b : List Lbl)  :
    CD Tryz.prog 160 [] [.sh 2 (a.map Lbl.d), .sh 2 (b.map Lbl.d)] (isR (dB (decide (zM a b = 0)))) := by
  refine zq Tryz.func160 rfl (N := 9) rfl rfl (fun C => ?_)
  refine jk [0, 1] rfl ?_
  refine JD.bd 0 rfl (fun bd0 => ?_)
  have nl0 := zS bd0
  refine JD.bd 1 rfl (fun bd1 => ?_)
  have nl1 := zS bd1
  refine jT rfl (oR 1 rfl (oZ rfl (jT rfl (oR 2 rfl (oW rfl rfl acs Tryz.call106 (zcp a b) (oP rfl (zR rfl rfl rfl) (oR 1 rfl (oZ rfl (zm rfl ?_)))))))))
  exact zl Tryz.results160 (.cons (zx (zh rfl) (Cv.eq (congrArg (fun b => D.v (.bool b)) (by rfl)))) .nil) rfl HSub.none ⟨rfl, rfl⟩

theorem index_c (ns : List ByteArray) (n : ByteArray)  :
    CD Tryz.prog 164 [] [.sh 1 (ns.map D.s), .s n] (isR (dI (idxN n 0 ns))) := by
  refine zq Tryz.func164 rfl (N := 19) rfl rfl (fun C => ?_)
  refine jk [0, 1] rfl ?_
  refine JD.bd 0 rfl (fun bd0 => ?_)
  have nl0 := zS bd0
  refine JD.bd 1 rfl (fun bd1 => ?_)
  have sz1 : n.size ≤ 9223372036854775807 := bd1
  refine jT rfl (oR 1 rfl (oZ rfl (jS rfl (jT rfl (oR 1 rfl (oP rfl (z6 (n := ns.length) rfl Tryz.runUnderlying23 (by simp only [lm, lc, ln])) (oR 1 rfl (oZ rfl (jB rfl (jl1 (fun (a_ : Nat) => [(0, .sh 1 (ns.map D.s)), (1, .s n), (7, dN ns.length), (8, dN a_)]) (fun a_ => []) (fun a_ => (idxN n 0 ns = idxN n a_ (ns.drop a_))) (fun a_ => ns.length - a_) 0 rfl (sa rfl) HSub.rfl' rfl ?_))))))))))
  rintro k hf
  refine ja rfl (jn rfl (jT rfl (oP rfl (zQ rfl rfl rfl) (oZ rfl (jS rfl ?_)))))
  refine jD rfl (fun hc1 => ?_) (fun hc1 => ?_)
  · skip
    refine zj rfl (zb (jS rfl (jB rfl (jT rfl (oR 2 rfl (oZ rfl (jT rfl (oR 3 rfl ?_))))))))
    obtain ⟨x1, hx1⟩ := zy ns k (by omega)
    refine oP rfl (zr (k := k) rfl rfl Tryz.runUnderlying23 Tryz.sizeOf9 (by first | rfl | omega) (zg hx1)) (oP rfl (zH rfl Tryz.isAgg9 rfl) (oP rfl (zbo rfl rfl rfl) (oZ rfl ?_)))
    refine jD rfl (fun hc2 => ?_) (fun hc2 => ?_)
    · skip
      refine jT rfl (oR 2 rfl (oZ rfl (zm rfl (zf (zd (zP (zf (zd ?_))))))))
      exact zl Tryz.results164 (.cons (zx (zh rfl) (Cv.eq (congrArg (fun n => D.v (.int .i64 n)) (by exact idxN_at hx1 hf hc2)))) .nil) rfl HSub.none ⟨rfl, rfl⟩
    · skip
      refine zj rfl (zp (zb (za rfl (oP rfl (zO (c := ((k + 1 : Nat) : Int)) rfl rfl (zB (by omega) (by omega))) (oR 1 rfl (ze rfl ?_))))))
      exact pl1 (k + 1) (sa rfl) HSub.rfl' (idxN_next hx1 hf hc2) (by omega)
  · skip
    refine zL rfl (zo (zn (zk (zb (jT rfl (oR 1 rfl (oZ rfl (zm rfl ?_))))))))
    exact zl Tryz.results164 (.cons (zx (zh rfl) (Cv.eq (congrArg (fun n => D.v (.int .i64 n)) (by exact idxN_end (by omega) hf)))) .nil) rfl HSub.none ⟨rfl, rfl⟩

theorem contains_c (ns : List ByteArray) (n : ByteArray)  :
    CD Tryz.prog 117 [] [.sh 1 (ns.map D.s), .s n] (isR (dB (hasN ns n))) := by
  refine zq Tryz.func117 rfl (N := 9) rfl rfl (fun C => ?_)
  refine jk [0, 1] rfl ?_
  refine JD.bd 0 rfl (fun bd0 => ?_)
  have nl0 := zS bd0
  refine JD.bd 1 rfl (fun bd1 => ?_)
  have sz1 : n.size ≤ 9223372036854775807 := bd1
  refine jT rfl (oR 1 rfl (oZ rfl (jT rfl (oR 2 rfl (oW rfl rfl acs Tryz.call164 (index_c ns n) (oP rfl (zV rfl rfl rfl) (oR 1 rfl (oZ rfl (zm rfl ?_)))))))))
  exact zl Tryz.results117 (.cons (zx (zh rfl) (Cv.eq (congrArg (fun b => D.v (.bool b)) (by exact idxN_has n ns 0)))) .nil) rfl HSub.none ⟨rfl, rfl⟩

theorem part_c (l : List Lbl) (names : List ByteArray) (wanted : Bool) (hl : l.length ≤ 1000000) :
    CD Tryz.prog 121 [] [.sh 2 (l.map Lbl.d), .sh 1 (names.map D.s), dB wanted] (zcU 2 62 ((zbb l names wanted).map Lbl.d)) := by
  refine zq Tryz.func121 rfl (N := 28) rfl rfl (fun C => ?_)
  refine jk [0, 1, 2] rfl ?_
  refine JD.bd 0 rfl (fun bd0 => ?_)
  have nl0 := zS bd0
  refine JD.bd 1 rfl (fun bd1 => ?_)
  have nl1 := zS bd1
  refine jT rfl (oR 1 rfl (oZ rfl (jT rfl (oR 1 rfl (oZ rfl (jS rfl (jT rfl (oR 1 rfl (oP rfl (z6 (n := l.length) rfl Tryz.runUnderlying50 (by simp only [lm, lc, ln])) (oR 1 rfl (oZ rfl (jB rfl (jl3 (fun (a_ : Nat) (b_ : Value) (c_ : List Lbl) => [(1, .sh 1 (names.map D.s)), (2, dB wanted), (6, dZ), (10, .sh 2 (l.map Lbl.d)), (11, dN l.length), (12, dN a_), (7, .ov b_)]) (fun a_ b_ c_ => [.sl b_ 2 62 (c_.map Lbl.d)]) (fun a_ b_ c_ => (zbb (l.take a_) names wanted = c_) ∧ (c_.length ≤ a_)) (fun a_ b_ c_ => l.length - a_) 0 (.slice none 0 0) [] rfl ⟨sk rfl, sk rfl, sk rfl, sk rfl, sk rfl, sk rfl, sc rfl (Cv.ov rfl), trivial⟩ (HSub.nil 2 62) ⟨by simp [zbb], Nat.le_refl _⟩ ?_)))))))))))))
  rintro k ov o ⟨hf, ho⟩
  refine ja rfl (jn rfl (jT rfl (oP rfl (zQ rfl rfl rfl) (oZ rfl (jS rfl ?_)))))
  refine jD rfl (fun hc1 => ?_) (fun hc1 => ?_)
  · skip
    refine zj rfl (zb (jS rfl (jB rfl (jT rfl ?_))))
    obtain ⟨x1, hx1⟩ := zy l k (by omega)
    refine oP rfl (zr (k := k) rfl rfl Tryz.runUnderlying50 Tryz.sizeOf62 (by first | rfl | omega) (zg hx1)) (oP rfl (zaJ (d := Lbl.d x1) rfl Tryz.isAgg62 Tryz.sizeOf62 rfl rfl) (oE rfl (zar (zv := (.agg #[(.string ByteArray.empty), (.string ByteArray.empty)])) Tryz.zeroValue62 ⟨rfl, rfl, trivial⟩ (Cv.vagg (by decide))) ?_))
    rintro _ _ ⟨g2, rfl, rfl⟩
    refine oE rfl (zY (i := 0) (X' := Lbl.d x1) rfl rfl rfl (CellD.agg) Tryz.sizeOf62 rfl rfl rfl) ?_
    rintro _ _ ⟨rfl, rfl⟩
    refine on rfl (oZ rfl (jT rfl (oR 1 rfl (oP rfl (zw rfl zak rfl) (oP rfl (zK rfl (i := 0) rfl Tryz.isAgg9 rfl) (oW rfl rfl acs Tryz.call117 (contains_c names x1.n) (oR 1 rfl (oP rfl (p_bin (r := .bool (hasN names x1.n == wanted)) rfl rfl (eqb_4_eql _ _ _ _)) (oZ rfl ?_)))))))))
    refine jC rfl (fun hc3 => ?_) (fun hc3 => ?_)
    · skip
      refine za rfl (oR 1 rfl (oP rfl (zaP (d := Lbl.d x1) rfl (i := 0) rfl Tryz.isAgg62 Tryz.sizeOf62 rfl rfl) (oE rfl (zap [.tmp 23] rfl rfl (.cons CellD.agg .nil) rfl Tryz.runUnderlying50 Tryz.sizeOf62 Tryz.zeroValue62 rfl rfl rfl rfl) ?_)))
      rintro _ _ ⟨g4, rfl, rfl⟩
      refine oE rfl (zac (f := Lbl.d) (l := o) (l' := [x1]) (i := 2) rfl rfl rfl (SrcD.own (j := 0) rfl rfl) zcj zbP rfl rfl (by unfold maxLen; (try simp only [la, lc, ln, lm, lt', ld, ls, lr]); omega) (by (try simp only [la, lc, ln, lm, lt', ld, ls, lr]); omega)) ?_
      rintro _ _ ⟨v5, rfl, rfl⟩
      refine on rfl (oR 1 rfl (ze rfl (zp (zb (za rfl (oP rfl (zO (c := ((k + 1 : Nat) : Int)) rfl rfl (zB (by omega) (by omega))) (oR 1 rfl (ze rfl ?_))))))))
      exact pl3 (k + 1) v5 (o ++ [x1]) (sa rfl) (HSub.lst 2 rfl) ⟨by rw [pickL_snoc hx1 (by simpa using hc3), hf], by have := zbG (l.take k) names wanted; (try simp only [la, List.length_singleton]); (try simp only [lt'] at this); omega⟩ (by omega)
    · skip
      refine zj rfl (zp (zb (za rfl (oP rfl (zO (c := ((k + 1 : Nat) : Int)) rfl rfl (zB (by omega) (by omega))) (oR 1 rfl (ze rfl ?_))))))
      exact pl3 (k + 1) ov o (sa rfl) (HSub.lst 1 rfl) ⟨by rw [pickL_skip hx1 (by simpa using hc3), hf], by have := zbG (l.take k) names wanted; (try simp only [la, List.length_singleton]); (try simp only [lt'] at this); omega⟩ (by omega)
  · skip
    refine zL rfl (zo (zn (zk (zb (jT rfl (oR 2 rfl (oZ rfl (zm rfl (PD.subH (HSub.less (zbr (i := 0) rfl)) (PD.subH (HSub.turn (h' := .sl ov 2 62 ((zbb l names wanted).map Lbl.d)) rfl (Hp.eq_sl (show List.map Lbl.d o = List.map Lbl.d (zbb l names wanted) from congrArg _ (by rw [← hf, List.take_of_length_le (by omega)])))) ?_))))))))))
    exact zbn Tryz.results121 (.cons (zh rfl) .nil) rfl ⟨_, rfl, rfl⟩

theorem only_c (l : List Lbl) (names : List ByteArray) (hl : l.length ≤ 1000000) :
    CD Tryz.prog 55 [] [.sh 2 (l.map Lbl.d), .sh 1 (names.map D.s)] (zcU 2 62 ((zbb l names true).map Lbl.d)) := by
  refine zq Tryz.func55 rfl (N := 8) rfl rfl (fun C => ?_)
  refine jk [0, 1] rfl ?_
  refine JD.bd 0 rfl (fun bd0 => ?_)
  have nl0 := zS bd0
  refine JD.bd 1 rfl (fun bd1 => ?_)
  have nl1 := zS bd1
  refine jT rfl (oR 1 rfl (oZ rfl (jT rfl (oR 2 rfl (oE rfl (zN [] _ [] rfl rfl (.cons ArgC.id (.cons ArgC.id (.cons ArgC.id .nil))) zz Tryz.call121 (part_c l names true (by omega)) (.inl rfl)) ?_)))))
  rintro _ _ ⟨_, ⟨v1, rfl, rfl⟩, rfl⟩
  refine on rfl (oR 1 rfl (oZ rfl (zm rfl (PD.subH (HSub.less (zbr (i := 0) rfl)) ?_))))
  exact zbn Tryz.results55 (.cons (zh rfl) .nil) rfl ⟨_, rfl, rfl⟩

theorem without_c (l : List Lbl) (names : List ByteArray) (hl : l.length ≤ 1000000) :
    CD Tryz.prog 56 [] [.sh 2 (l.map Lbl.d), .sh 1 (names.map D.s)] (zcU 2 62 ((zbb l names false).map Lbl.d)) := by
  refine zq Tryz.func56 rfl (N := 8) rfl rfl (fun C => ?_)
  refine jk [0, 1] rfl ?_
  refine JD.bd 0 rfl (fun bd0 => ?_)
  have nl0 := zS bd0
  refine JD.bd 1 rfl (fun bd1 => ?_)
  have nl1 := zS bd1
  refine jT rfl (oR 1 rfl (oZ rfl (jT rfl (oR 2 rfl (oE rfl (zN [] _ [] rfl rfl (.cons ArgC.id (.cons ArgC.id (.cons ArgC.id .nil))) zz Tryz.call121 (part_c l names false (by omega)) (.inl rfl)) ?_)))))
  rintro _ _ ⟨_, ⟨v1, rfl, rfl⟩, rfl⟩
  refine on rfl (oR 1 rfl (oZ rfl (zm rfl (PD.subH (HSub.less (zbr (i := 0) rfl)) ?_))))
  exact zbn Tryz.results56 (.cons (zh rfl) .nil) rfl ⟨_, rfl, rfl⟩

theorem right_c (l : List Lbl)  :
    CD Tryz.prog 111 [] [.sh 2 (l.map Lbl.d)] (isR (dB (decide (zaH l = 0) && decide (zM (zJ l) l = 0)))) := by
  refine zq Tryz.func111 rfl (N := 17) rfl rfl (fun C => ?_)
  refine jk [0] rfl ?_
  refine JD.bd 0 rfl (fun bd0 => ?_)
  have nl0 := zS bd0
  refine jT rfl (oR 1 rfl (oZ rfl (jT rfl (oR 1 rfl (oE rfl (zN [] _ [] rfl rfl (.cons ArgC.id .nil) zz Tryz.call159 (tidy_c l) (.inl rfl)) ?_)))))
  rintro _ _ ⟨_, ⟨v1, rfl, rfl⟩, rfl⟩
  refine on rfl (oR 5 rfl (oZ rfl (jS rfl (jk [0, 3, 4] rfl ?_))))
  refine zal 2 ((decide (zaH l = (0 : Int)) && decide (zM (zJ l) l = 0))) [.sl v1 2 62 ((zJ l).map Lbl.d)] (fun _ hQ2 => ?_) ?_
  · skip
    by_cases hg3 : zaH l = (0 : Int)
    · skip
      refine za rfl (oR 1 rfl (oP rfl (zR rfl rfl (decide_eq_true hg3)) (oR 3 rfl (oF rfl (zN [] _ [.sl v1 2 62 ((zJ l).map Lbl.d)] rfl rfl (.cons (ArgC.own (j := 0) rfl rfl) (.cons ArgC.id .nil)) (zaV (j := 0) rfl zz) Tryz.call160 (sameLs_c (zJ l) l) (.inr (zbO rfl))) ?_))))
      rintro _ _ ⟨_, ⟨rfl, rfl⟩, rfl⟩
      refine on rfl (oR 2 rfl (ze rfl ?_))
      exact PD.sub ((2, dB (decide (zaH l = (0 : Int)) && decide (zM (zJ l) l = 0))) :: [(0, .sh 2 (l.map Lbl.d)), (3, .ov v1), (4, dI (zaH l))]) ⟨sc rfl (Cv.eq (congrArg (fun b => D.v (.bool b)) (by first | (simp [hg3]; done) | (simp_all; done)))), sk rfl, sk rfl, sk rfl, trivial⟩ hQ2
    · skip
      refine za rfl (oR 1 rfl (oP rfl (zR rfl rfl (decide_eq_false hg3)) (oR 6 rfl (ze rfl ?_))))
      exact PD.sub ((2, dB (decide (zaH l = (0 : Int)) && decide (zM (zJ l) l = 0))) :: [(0, .sh 2 (l.map Lbl.d)), (3, .ov v1), (4, dI (zaH l))]) ⟨sc rfl (Cv.eq (congrArg (fun b => D.v (.bool b)) (by first | (simp [hg3]; done) | (simp_all; done)))), sk rfl, sk rfl, sk rfl, trivial⟩ hQ2
  · skip
    refine zb (zm rfl ?_)
    exact zl Tryz.results111 (.cons (zx (zh rfl) (Cv.eq (congrArg (fun b => D.v (.bool b)) (by simp [*])))) .nil) rfl HSub.none ⟨rfl, rfl⟩
end Lp
