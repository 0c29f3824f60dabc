/- Walks, printed by a program of mine. -/
import Derived.Test.YtfjinapgehafiaaGreatPLbl
set_option linter.unusedSimpArgs false
set_option linter.unusedVariables false
set_option maxHeartbeats 4000000
set_option maxRecDepth 100000
namespace Lp
open Go Go.RowKit Go.Proofs

namespace HdYtfjinapgehafiaaGreatV6
theorem cv_207_5 {a : Int} (h : 0 ≤ a ∧ a ≤ 255) : ∀ w, (convert 207 5 (.int .u64 a)).run Tryz.prog w = .ok (.int .u8 a) w := fun w => by
  have e : IntKind.u8.wrap a = a := by simp [IntKind.wrap, IntKind.bits, IntKind.signed]; omega
  simp [convert, run_underlying (show Tryz.prog.underlying 207 = some _ by kernel_rfl), run_underlying (show Tryz.prog.underlying 5 = some _ by kernel_rfl), Conv.intToInt, e]
theorem zbb {a : Int} (h : 0 ≤ a ∧ a ≤ 18446744073709551615) : ∀ w, (convert 3 165 (.int .i64 a)).run Tryz.prog w = .ok (.int .u64 a) w := fun w => by
  have e : IntKind.u64.wrap a = a := by simp [IntKind.wrap, IntKind.bits, IntKind.signed]; omega
  simp [convert, run_underlying (show Tryz.prog.underlying 3 = some _ by kernel_rfl), run_underlying (show Tryz.prog.underlying 165 = some _ by kernel_rfl), Conv.intToInt, e]
theorem cv_5_3 {a : Int} (h : -9223372036854775808 ≤ a ∧ a ≤ 9223372036854775807) : ∀ w, (convert 5 3 (.int .u8 a)).run Tryz.prog w = .ok (.int .i64 a) w := fun w => by
  have e : IntKind.i64.wrap a = a := by exact w64 (by omega)
  simp [convert, run_underlying (show Tryz.prog.underlying 5 = some _ by kernel_rfl), run_underlying (show Tryz.prog.underlying 3 = some _ by kernel_rfl), Conv.intToInt, e]
theorem eqn_50 (x : Operand) (A : Option Addr) (n c : Nat) (w : World) : (do eqGuard .eql 50 x (.const (.slice none 0 0)) (.slice A n c) (.slice none 0 0); binOp .eql 50 (.slice A n c) (.slice none 0 0) : Sem Value).run Tryz.prog w = .ok (.bool A.isNone) w := by cases A <;> kernel_rfl
theorem zac (b o : Nat) : ∀ w, (Instr.fieldAt 62 (.pointer (some ⟨b, o, none⟩)) 0).run Tryz.prog w = .ok (.pointer (some ⟨b, o + 0, none⟩)) w := fun _ => by kernel_rfl
theorem zaC (b o : Nat) : ∀ w, (Instr.fieldAt 62 (.pointer (some ⟨b, o, none⟩)) 1).run Tryz.prog w = .ok (.pointer (some ⟨b, o + 1, none⟩)) w := fun _ => by kernel_rfl
theorem zbz : ∃ i, Tryz.prog.info? 62 = some i ∧ i.zero = some (.agg #[(.string ByteArray.empty), (.string ByteArray.empty)]) ∧ i.size = 2 ∧ i.bytes = 32 := zaQ (by kernel_rfl)
theorem zb0 : Tryz.prog.underlying 50 = some (.slice 62) := by kernel_rfl
end HdYtfjinapgehafiaaGreatV6
open HdYtfjinapgehafiaaGreatV6

theorem len64_c (x : Nat) (hx : x < 256) :
    CD Tryz.prog 182 [] [.v (.int .u64 ((x : Nat) : Int))] (fun r H' => ∃ k : Nat, r = dN k ∧ H' = []) := by
  refine zq Tryz.func182 rfl (N := 25) rfl rfl (fun C => ?_)
  refine jk [0] rfl (jT rfl (oR 1 rfl (oZ rfl (jS rfl (jT rfl (oR 1 rfl (oP rfl (zS rfl rfl rfl) (oZ rfl ?_))))))))
  refine jD rfl (fun hc1 => ?_) (fun hc1 => ?_)
  · skip
    exfalso; omega
  · skip
    refine zk rfl (zd (jS rfl (jT rfl (oR 1 rfl (oP rfl (zS rfl rfl rfl) (oZ rfl ?_))))))
    refine jD rfl (fun hc2 => ?_) (fun hc2 => ?_)
    · skip
      exfalso; omega
    · skip
      refine zk rfl (zd (jS rfl (jT rfl (oR 1 rfl (oP rfl (zS rfl rfl rfl) (oZ rfl ?_))))))
      refine jD rfl (fun hc3 => ?_) (fun hc3 => ?_)
      · skip
        exfalso; omega
      · skip
        refine zk rfl (zd (jT rfl (oR 2 rfl (oP rfl (zbn rfl (c := ((x : Nat) : Int)) (cv_207_5 (by omega))) ?_))))
        obtain ⟨u1, hu1⟩ := get_byte (⟨#[0, 1, 2, 2, 3, 3, 3, 3, 4, 4, 4, 4, 4, 4, 4, 4, 5, 5, 5, 5, 5, 5, 5, 5, 5, 5, 5, 5, 5, 5, 5, 5, 6, 6, 6, 6, 6, 6, 6, 6, 6, 6, 6, 6, 6, 6, 6, 6, 6, 6, 6, 6, 6, 6, 6, 6, 6, 6, 6, 6, 6, 6, 6, 6, 7, 7, 7, 7, 7, 7, 7, 7, 7, 7, 7, 7, 7, 7, 7, 7, 7, 7, 7, 7, 7, 7, 7, 7, 7, 7, 7, 7, 7, 7, 7, 7, 7, 7, 7, 7, 7, 7, 7, 7, 7, 7, 7, 7, 7, 7, 7, 7, 7, 7, 7, 7, 7, 7, 7, 7, 7, 7, 7, 7, 7, 7, 7, 7, 8, 8, 8, 8, 8, 8, 8, 8, 8, 8, 8, 8, 8, 8, 8, 8, 8, 8, 8, 8, 8, 8, 8, 8, 8, 8, 8, 8, 8, 8, 8, 8, 8, 8, 8, 8, 8, 8, 8, 8, 8, 8, 8, 8, 8, 8, 8, 8, 8, 8, 8, 8, 8, 8, 8, 8, 8, 8, 8, 8, 8, 8, 8, 8, 8, 8, 8, 8, 8, 8, 8, 8, 8, 8, 8, 8, 8, 8, 8, 8, 8, 8, 8, 8, 8, 8, 8, 8, 8, 8, 8, 8, 8, 8, 8, 8, 8, 8, 8, 8, 8, 8, 8, 8, 8, 8, 8, 8, 8, 8, 8, 8, 8, 8, 8, 8, 8, 8, 8, 8, 8, 8, 8, 8, 8, 8, 8, 8]⟩ : ByteArray) x (by show _ < 256; omega)
        have hlu1 := u1.toNat_lt
        refine oP rfl (p_index_str (k := x) rfl rfl Tryz.runUnderlying9 (by first | rfl | omega) hu1) (oP rfl (zbn rfl (c := ((u1.toNat : Nat) : Int)) (cv_5_3 (by omega))) (oP rfl (zQ (c := ((0 + u1.toNat : Nat) : Int)) rfl rfl (zD (by omega) (by omega))) (oR 1 rfl (oZ rfl (jk [2] rfl (zm rfl ?_))))))
        exact zj Tryz.results182 (.cons (zg rfl) .nil) rfl (HSub.fst 0 rfl) ⟨_, rfl, rfl⟩

theorem len_c (x : Nat) (hx : x < 256) :
    CD Tryz.prog 145 [] [.v (.int .u64 ((x : Nat) : Int))] (fun r H' => ∃ k : Nat, r = dN k ∧ H' = []) := by
  refine zq Tryz.func145 rfl (N := 8) rfl rfl (fun C => ?_)
  refine jk [0] rfl (jT rfl (oR 1 rfl (oZ rfl (jS rfl (jCf rfl (zk rfl (zd (jT rfl (oR 1 rfl (oE rfl (zH [] [] [] rfl rfl (.cons ArgC.id .nil) zu Tryz.call182 (len64_c x (by omega)) (.inl rfl)) ?_))))))))))
  rintro _ _ ⟨_, ⟨k, rfl, rfl⟩, rfl⟩
  refine on rfl (oR 1 rfl (oZ rfl (zm rfl ?_)))
  exact zj Tryz.results145 (.cons (zg rfl) .nil) rfl (HSub.fst 0 rfl) ⟨_, rfl, rfl⟩

theorem cloneL_c (l : List Lbl) (hl : l.length ≤ 1000000) :
    CD Tryz.prog 108 [] [.sh 2 (l.map Lbl.d)] (zcy 2 62 (l.map Lbl.d)) := by
  refine zq Tryz.func108 rfl (N := 8) rfl rfl (fun C => ?_)
  refine jk [0] rfl ?_
  refine JD.bd 0 rfl (fun bd0 => ?_)
  have nl0 := zO bd0
  refine jT rfl (oR 1 rfl (oZ rfl (jS rfl (jT rfl (oR 1 rfl (oE rfl (ef_isNil rfl (eqn_50 _)) ?_))))))
  rintro _ _ ⟨b1, rfl, rfl, hb1⟩
  refine oZ rfl ?_
  refine jC rfl (fun hc2 => ?_) (fun hc2 => ?_)
  · skip
    refine jT rfl (oR 1 rfl (oZ rfl (zm rfl (zc ?_))))
    refine PD.drop (PD.subH (HSub.nil 2 62) ?_)
    refine PD.subH (HSub.turn (h' := .sl (.slice none 0 0) 2 62 (l.map Lbl.d)) rfl (Hp.eq_sl (show List.map Lbl.d [] = List.map Lbl.d l from congrArg _ (by exact (List.map_eq_nil_iff.1 (hb1 hc2)).symm)))) ?_
    exact zbh Tryz.results108 (.cons (zr (zg rfl) (Cv.ov rfl)) .nil) rfl ⟨_, rfl, rfl⟩
  · skip
    refine zk rfl (zd (jT rfl (oE rfl (ef_buildSlice0 Tryz.runUnderlying50 Tryz.sizeOf62) ?_)))
    rintro _ _ ⟨g3, rfl, rfl⟩
    refine oR 1 rfl (oE rfl (z3 (f := Lbl.d) (l := []) (l' := l) (i := 0) rfl rfl rfl (SrcD.sh) zb0 zbz rfl rfl (by unfold maxLen; (try simp only [la, lc, ln, lm, lt', ld, ls, lr]); omega) (by (try simp only [la, lc, ln, lm, lt', ld, ls, lr]); omega)) ?_)
    rintro _ _ ⟨v4, rfl, rfl⟩
    refine on rfl (oR 1 rfl (oZ rfl (zm rfl (PD.subH (HSub.less (zbd (i := 0) rfl)) (PD.subH (HSub.turn (h' := .sl v4 2 62 (l.map Lbl.d)) rfl (Hp.eq_sl (show List.map Lbl.d ([] ++ l) = List.map Lbl.d l from congrArg _ (by rfl)))) ?_)))))
    exact zbh Tryz.results108 (.cons (zg rfl) .nil) rfl ⟨_, rfl, rfl⟩

theorem insortL_c (v : Value) (l : List Lbl) (a b : Nat) (ha : a ≤ 1000000) (hb : b ≤ l.length) (hl : l.length ≤ 1000000) :
    CD Tryz.prog 222 [.sl v 2 62 (l.map Lbl.d)] [.ov v, dN a, dN b, .fn 154 [] []] (fun r H' => r = .tup [] ∧ H' = [.sl v 2 62 ((isrt zC a b b (a + 1) l).map Lbl.d)]) := by
  refine zq Tryz.func222 rfl (N := 53) rfl rfl (fun C => ?_)
  refine jk [0, 1, 2, 3] rfl (jT rfl (oR 1 rfl (oP rfl (zQ (c := ((a + 1 : Nat) : Int)) rfl rfl (zD (by omega) (by omega))) (oR 1 rfl (oZ rfl (jB rfl (jl3 (fun (a_ : Nat) (b_ : Nat) (c_ : List Lbl) => [(0, .ov v), (1, dN a), (2, dN b), (3, .fn 154 [] []), (8, dN a_)]) (fun a_ b_ c_ => [.sl v 2 62 (c_.map Lbl.d)]) (fun a_ b_ c_ => (a + 1 ≤ a_) ∧ (b ≤ a_ + b_) ∧ ((c_).length = l.length) ∧ (isrt zC a b b_ (a_) c_ = isrt zC a b b (a + 1) l)) (fun a_ b_ c_ => b - a_) (a + 1) b l rfl (sa rfl) HSub.rfl' ⟨Nat.le_refl _, by show b ≤ a + 1 + b; omega, rfl, rfl⟩ ?_)))))))
  rintro i n L ⟨hi, hn, hL, hr⟩
  refine ja rfl (jn rfl (jS rfl (jT rfl (oR 2 rfl (oP rfl (zP rfl rfl rfl) (oZ rfl ?_))))))
  refine jD rfl (fun hc1 => ?_) (fun hc1 => ?_)
  · skip
    refine zk rfl (zd (jS rfl (jB rfl (jT rfl (oR 2 rfl (oZ rfl (jB rfl (jl2 (fun (a_ : Nat) (b_ : List Lbl) => [(0, .ov v), (1, dN a), (2, dN b), (3, .fn 154 [] []), (8, dN i), (12, dN i), (13, dN b), (14, dB (decide (((i : Nat) : Int) < ((b : Nat) : Int)))), (17, dN i), (9, dN a_)]) (fun a_ b_ => [.sl v 2 62 (b_.map Lbl.d)]) (fun a_ b_ => (a_ ≤ i) ∧ ((b_).length = l.length) ∧ (bub zC a (a_) b_ = bub zC a i L)) (fun a_ b_ => a_) i L rfl (sa rfl) HSub.rfl' ⟨Nat.le_refl _, hL, rfl⟩ ?_))))))))
    rintro j M ⟨hj, hlM, hM⟩
    refine ja rfl (jn rfl (jS rfl (jS rfl ?_)))
    by_cases hg2 : ((a : Nat) : Int) < ((j : Nat) : Int)
    · skip
      refine jk [0, 1, 2, 3, 8, 9, 12, 13, 14, 17] rfl (jn rfl ?_)
      obtain ⟨x1, hx1⟩ := zy M j (by (try simp only [ls]); omega)
      obtain ⟨x2, hx2⟩ := zy M (j - 1) (by (try simp only [ls]); omega)
      refine zT 14 [(18, dN j, none), (19, dN a, none), (20, dB true, none), (21, dB true, none), (22, .fn 154 [] [], none), (23, .ov v, none), (24, dN j, none), (25, .v (.pointer (some ⟨bl v, j * 2 + 0, none⟩)), none), (26, Lbl.d x1, none), (27, .ov v, none), (28, dN j, none), (29, dN (j - 1), none), (30, .v (.pointer (some ⟨bl v, (j - 1) * 2 + 0, none⟩)), none), (31, Lbl.d x2, none)] [.sl v 2 62 (M.map Lbl.d)] (Hn := [.sl v 2 62 (M.map Lbl.d)]) z7 rfl rfl rfl rfl HSub.rfl' rfl ⟨sa_p rfl rfl rfl (zb rfl), sa_p rfl rfl rfl (zb rfl), sa_p rfl rfl rfl (zat rfl rfl (decide_eq_true hg2)), sa_p rfl rfl rfl (zb rfl), zA rfl rfl rfl rfl rfl rfl (zb rfl).qu, zA rfl rfl rfl rfl rfl rfl (zb rfl).qu, zA rfl rfl rfl rfl rfl rfl (zb rfl).qu, zA rfl rfl rfl rfl rfl rfl (zh (k := j) (j := 0) rfl rfl rfl Tryz.runUnderlying50 Tryz.sizeOf62 (by first | rfl | omega) (zf hx1)).qu, zA rfl rfl rfl rfl rfl rfl (zV (d := Lbl.d x1) rfl (i := 0) rfl (zf hx1) Tryz.isAgg62 Tryz.sizeOf62 rfl rfl).qu, zA rfl rfl rfl rfl rfl rfl (zb rfl).qu, zA rfl rfl rfl rfl rfl rfl (zb rfl).qu, zA rfl rfl rfl rfl rfl rfl (zak (c := ((j - 1 : Nat) : Int)) rfl rfl (zD (by omega) (by omega))).qu, zA rfl rfl rfl rfl rfl rfl (zh (k := j - 1) (j := 0) rfl rfl rfl Tryz.runUnderlying50 Tryz.sizeOf62 (by first | rfl | omega) (zf hx2)).qu, zA rfl rfl rfl rfl rfl rfl (zV (d := Lbl.d x2) rfl (i := 0) rfl (zf hx2) Tryz.isAgg62 Tryz.sizeOf62 rfl rfl).qu, trivial⟩ ?_
      refine ok [0, 1, 2, 3, 8, 9, 12, 13, 14, 17, 18, 19, 20, 21, 22, 23, 24, 25, 26, 27, 28, 29, 30, 31] rfl (oF rfl (za1 [] _ [] rfl rfl rfl (.cons ArgC.id (.cons ArgC.id .nil)) zu Tryz.call154 (order_c x1 x2) (.inl rfl)) ?_)
      rintro _ _ ⟨_, ⟨rfl, rfl⟩, rfl⟩
      refine on rfl (oG rfl (zP rfl rfl rfl) (oR 1 rfl (oZ rfl ?_)))
      refine jD rfl (fun hc3 => ?_) (fun hc3 => ?_)
      · skip
        refine zk rfl (zd (jS rfl (jB rfl (jk [0, 1, 2, 3, 8, 9, 12, 13, 14, 17, 18, 19, 20, 21, 22, 23, 24, 25, 26, 27, 28, 29, 30, 31, 32, 33, 34] rfl (jn rfl ?_)))))
        refine za0 16 [(37, .q (.ov v)), (38, .q (dN j)), (39, .q (.ov v)), (40, .q (dN j)), (41, .q (dN (j - 1))), (42, .q (.ov v)), (43, .q (dN j)), (44, .q (dN (j - 1))), (45, .r (.v (.pointer (some ⟨bl v, (j - 1) * 2 + 0, none⟩)))), (46, .r (Lbl.d x2)), (47, .q (.ov v)), (48, .q (dN j)), (49, .r (.v (.pointer (some ⟨bl v, j * 2 + 0, none⟩)))), (50, .r (Lbl.d x1)), (51, .r (.v (.pointer (some ⟨bl v, j * 2 + 0, none⟩)))), (68, .s (fun γ => [.sl v 2 62 ((M.set j x2).map Lbl.d)]))] [] (Hn := fun γ => [.sl v 2 62 ((M.set j x2).map Lbl.d)]) z7 rfl rfl (by kernel_rfl) (by kernel_rfl) (by kernel_rfl) HSub.none (fun _ => rfl) (fun γ => ⟨so_p rfl rfl rfl (zb rfl), so_p rfl rfl rfl (zb rfl), so_p rfl rfl rfl (zb rfl), so_p rfl rfl rfl (zb rfl), so_p rfl rfl rfl (zak (c := ((j - 1 : Nat) : Int)) rfl rfl (zD (by omega) (by omega))), so_p rfl rfl rfl (zb rfl), so_p rfl rfl rfl (zb rfl), so_p rfl rfl rfl (zak (c := ((j - 1 : Nat) : Int)) rfl rfl (zD (by omega) (by omega))), so_r rfl rfl rfl rfl (zh (k := j - 1) (j := 0) rfl rfl rfl Tryz.runUnderlying50 Tryz.sizeOf62 (by first | rfl | omega) (zf hx2)), so_r rfl rfl rfl rfl (zV (d := Lbl.d x2) rfl (i := 0) rfl (zf hx2) Tryz.isAgg62 Tryz.sizeOf62 rfl rfl), so_p rfl rfl rfl (zb rfl), so_p rfl rfl rfl (zb rfl), so_r rfl rfl rfl rfl (zh (k := j) (j := 0) rfl rfl rfl Tryz.runUnderlying50 Tryz.sizeOf62 (by first | rfl | omega) (zf hx1)), so_r rfl rfl rfl rfl (zV (d := Lbl.d x1) rfl (i := 0) rfl (zf hx1) Tryz.isAgg62 Tryz.sizeOf62 rfl rfl), so_r rfl rfl rfl rfl (zh (k := j) (j := 0) rfl rfl rfl Tryz.runUnderlying50 Tryz.sizeOf62 (by first | rfl | omega) (zf hx1)), zc7 rfl rfl rfl rfl rfl ((zar (f := Lbl.d) (k := j) (z := 2) (o := 0) (i := 0) (a' := x2) rfl rfl hx1 rfl (CellD.agg) Tryz.sizeOf62 rfl rfl rfl).mono (by rintro _ _ ⟨_, rfl⟩; rfl)) HSub.none, trivial⟩) (fun γ => ?_)
        refine ok [0, 1, 2, 3, 8, 9, 12, 13, 14, 17, 18, 19, 20, 21, 22, 23, 24, 25, 26, 27, 28, 29, 30, 31, 32, 33, 34, 37, 38, 39, 40, 41, 42, 43, 44, 45, 46, 47, 48, 49, 50, 51] rfl ?_
        obtain ⟨x3, hx3⟩ := zy (M.set j x2) (j - 1) (by (try simp only [ls]); omega)
        refine oP rfl (zh (k := j - 1) (j := 0) rfl rfl rfl Tryz.runUnderlying50 Tryz.sizeOf62 (by first | rfl | omega) (zf hx3)) (oE rfl (zar (f := Lbl.d) (k := j - 1) (z := 2) (o := 0) (i := 0) (a' := x1) rfl rfl hx3 rfl (CellD.agg) Tryz.sizeOf62 rfl rfl rfl) ?_)
        rintro _ _ ⟨rfl, rfl⟩
        refine on rfl (zi rfl (zw (zd (za rfl (oR 1 rfl (oP rfl (zak (c := ((j - 1 : Nat) : Int)) rfl rfl (zD (by omega) (by omega))) (oR 1 rfl (zi rfl ?_))))))))
        exact pl2 (j - 1) ((M.set j x2).set (j - 1) x1) (sa rfl) HSub.rfl' ⟨by omega, by simp only [ls]; omega, by rw [← hM]; exact (bub_lt' (by omega) hx1 hx2 hc3).symm⟩ (by omega)
      · skip
        refine zK rfl (zp (zn (zl (zw (zd (za rfl (oR 1 rfl (oP rfl (zQ (c := ((i + 1 : Nat) : Int)) rfl rfl (zD (by omega) (by omega))) (oR 1 rfl (zi rfl ?_))))))))))
        exact pl3 (i + 1) (n - 1) M (sa rfl) HSub.rfl' ⟨by show a + 1 ≤ i + 1; omega, by show b ≤ i + 1 + (n - 1); omega, hlM, by show isrt zC a b (n - 1) (i + 1) M = _; have hb : bub zC a j M = M := bub_ge' hx1 hx2 hc3; rw [← hr]; obtain ⟨m, rfl⟩ : ∃ m, n = m + 1 := ⟨n - 1, by omega⟩; rw [zaT (by omega), ← hM, hb]; rfl⟩ (by omega)
    · skip
      refine jk [0, 1, 2, 3, 8, 9, 12, 13, 14, 17] rfl (jn rfl (zT 14 [(18, dN j, none), (19, dN a, none), (20, dB false, none), (21, dB false, none), (22, .v undef, none), (23, .v undef, none), (24, .v undef, none), (25, .v undef, none), (26, .v undef, none), (27, .v undef, none), (28, .v undef, none), (29, .v undef, none), (30, .v undef, none), (31, .v undef, none)] [.sl v 2 62 (M.map Lbl.d)] (Hn := [.sl v 2 62 (M.map Lbl.d)]) z7 rfl rfl rfl rfl HSub.rfl' rfl ⟨sa_p rfl rfl rfl (zb rfl), sa_p rfl rfl rfl (zb rfl), sa_p rfl rfl rfl (zat rfl rfl (decide_eq_false hg2)), sa_p rfl rfl rfl (zb rfl), sa_s rfl rfl rfl rfl rfl rfl (by decide), sa_s rfl rfl rfl rfl rfl rfl (by decide), sa_s rfl rfl rfl rfl rfl rfl (by decide), sa_s rfl rfl rfl rfl rfl rfl (by decide), sa_s rfl rfl rfl rfl rfl rfl (by decide), sa_s rfl rfl rfl rfl rfl rfl (by decide), sa_s rfl rfl rfl rfl rfl rfl (by decide), sa_s rfl rfl rfl rfl rfl rfl (by decide), sa_s rfl rfl rfl rfl rfl rfl (by decide), sa_s rfl rfl rfl rfl rfl rfl (by decide), trivial⟩ (ok [0, 1, 2, 3, 8, 9, 12, 13, 14, 17, 18, 19, 20, 21, 22, 23, 24, 25, 26, 27, 28, 29, 30, 31] rfl (oR 3 rfl (oZ rfl (jCf rfl (zK rfl (zp (zn (zl (zw (zd (za rfl (oR 1 rfl (oP rfl (zQ (c := ((i + 1 : Nat) : Int)) rfl rfl (zD (by omega) (by omega))) (oR 1 rfl ?_))))))))))))))))
      refine zi rfl ?_
      exact pl3 (i + 1) (n - 1) M (sa rfl) HSub.rfl' ⟨by show a + 1 ≤ i + 1; omega, by show b ≤ i + 1 + (n - 1); omega, hlM, by show isrt zC a b (n - 1) (i + 1) M = _; have hb : bub zC a j M = M := bub_end (by omega); rw [← hr]; obtain ⟨m, rfl⟩ : ∃ m, n = m + 1 := ⟨n - 1, by omega⟩; rw [zaT (by omega), ← hM, hb]; rfl⟩ (by omega)
  · skip
    refine zK rfl (zp (zn (zl (PD.norm [.sl v 2 62 ((isrt zC a b b (a + 1) l).map Lbl.d)] (by rw [← hr, zaH (by omega)]) ?_))))
    exact zby Tryz.results222 .nil rfl (HSub.fst 1 rfl) ⟨rfl, rfl⟩

theorem pdqL_c (v : Value) (l : List Lbl) (k : Nat) (hl : l.length ≤ 12) :
    CD Tryz.prog 205 [.sl v 2 62 (l.map Lbl.d)] [.ov v, dI 0, dN l.length, dN k, .fn 154 [] []] (fun r H' => r = .tup [] ∧ H' = [.sl v 2 62 ((zt zC l).map Lbl.d)]) := by
  refine zq Tryz.func205 rfl (N := 148) rfl rfl (fun C => ?_)
  refine jk [0, 1, 2, 3, 4] rfl (jT rfl (oR 1 rfl (oZ rfl (jT rfl (oR 1 rfl (oZ rfl (jB rfl (jl1 (fun (_ : Unit) => [(0, .ov v), (4, .fn 154 [] []), (1, dN 0), (2, dN l.length), (3, dN k), (10, dB true), (11, dB true)]) (fun _ => [.sl v 2 62 (l.map Lbl.d)]) (fun _ => True) (fun _ => 0) () rfl (sa rfl) HSub.rfl' trivial ?_))))))))
  rintro _ _
  refine ja rfl (jn rfl (jB rfl (jT rfl (oR 2 rfl (oP rfl (zak (c := (((l.length : Nat) : Int) - ((0 : Nat) : Int))) rfl rfl (zD (by omega) (by omega))) (oR 1 rfl (oZ rfl (jS rfl (jT rfl (oR 1 rfl (oP rfl (zao rfl rfl rfl) (oZ rfl ?_))))))))))))
  refine jD rfl (fun hc1 => ?_) (fun hc1 => ?_)
  · skip
    refine jT rfl (oR 4 rfl (oE rfl (zH [.sl v 2 62 (l.map Lbl.d)] [] [] rfl rfl (.cons ArgC.id (.cons ArgC.id (.cons ArgC.id (.cons ArgC.id .nil)))) zu Tryz.call222 (insortL_c v l 0 l.length (by omega) (by first | exact Nat.le_refl _ | omega) (by omega)) (.inl rfl)) ?_))
    rintro _ _ ⟨_, ⟨rfl, rfl⟩, rfl⟩
    refine on rfl (oZ rfl (zm rfl (zc (ze (zJ (ze (PD.norm [.sl v 2 62 ((zt zC l).map Lbl.d)] (by rw [isrt_all]) ?_)))))))
    exact zj Tryz.results205 .nil rfl (HSub.fst 1 rfl) ⟨rfl, rfl⟩
  · skip
    exfalso; omega

theorem sortL_c (v : Value) (l : List Lbl) (hl : l.length ≤ 12) :
    CD Tryz.prog 190 [.sl v 2 62 (l.map Lbl.d)] [.ov v, .fn 154 [] []] (fun r H' => r = .tup [] ∧ H' = [.sl v 2 62 ((zt zC l).map Lbl.d)]) := by
  refine zq Tryz.func190 rfl (N := 14) rfl rfl (fun C => ?_)
  refine jk [0, 1] rfl (jT rfl (oR 1 rfl (oP rfl (zN (n := l.length) (j := 0) rfl rfl Tryz.runUnderlying50 (List.length_map _)) (oR 1 rfl (oZ rfl (za rfl (oR 3 rfl (oP rfl (zbn rfl (c := ((l.length : Nat) : Int)) (zbb (by omega))) (oE rfl (zH [] [.sl v 2 62 (l.map Lbl.d)] [] rfl rfl (.cons ArgC.id .nil) zu Tryz.call145 (len_c l.length (by omega)) (.inl rfl)) ?_)))))))))
  rintro _ _ ⟨_, ⟨k, rfl, rfl⟩, rfl⟩
  refine on rfl (oR 1 rfl (oE rfl (zH [.sl v 2 62 (l.map Lbl.d)] [] [] rfl rfl (.cons ArgC.id (.cons ArgC.id (.cons ArgC.id (.cons ArgC.id (.cons ArgC.id .nil))))) zu Tryz.call205 (pdqL_c v l k (by omega)) (.inl rfl)) ?_))
  rintro _ _ ⟨_, ⟨rfl, rfl⟩, rfl⟩
  refine on rfl (zi rfl ?_)
  exact zby Tryz.results190 .nil rfl (HSub.fst 1 rfl) ⟨rfl, rfl⟩

theorem tidy_c (l : List Lbl)  :
    CD Tryz.prog 159 [] [.sh 2 (l.map Lbl.d)] (fun r H' => ∃ v0_, r = .tup [.ov v0_, dI (zaD l)] ∧ H' = [.sl v0_ 2 62 ((zF l).map Lbl.d)]) := by
  refine zq Tryz.func159 rfl (N := 53) rfl rfl (fun C => ?_)
  refine jk [0] rfl ?_
  refine JD.bd 0 rfl (fun bd0 => ?_)
  have nl0 := zO bd0
  have hil := zbl (c := zC) _ l rfl
  refine jT rfl (oR 2 rfl (oZ rfl (jS rfl (jT rfl (oR 1 rfl (oP rfl (z1 (n := l.length) rfl Tryz.runUnderlying50 (by simp only [lm, lc, ln])) (oP rfl (zat rfl rfl rfl) (oZ rfl ?_))))))))
  refine jD rfl (fun hc1 => ?_) (fun hc1 => ?_)
  · skip
    refine jT rfl (oR 2 rfl (oZ rfl (zm rfl (zc (PD.subH (HSub.nil 2 62) (PD.norm [.sl (.slice none 0 0) 2 62 ((zF l).map Lbl.d)] (by have hw : [] = zF l := (by first | exact (tidy_long hc1).1 | exact (tidy_long hc1).2); rw [show ([] : List D) = List.map Lbl.d (zF l) from congrArg (List.map Lbl.d) hw]) ?_))))))
    exact zj Tryz.results159 (.cons (zr (zg rfl) (Cv.ov rfl)) (.cons (zr (zg rfl) (Cv.eq (congrArg (fun n => D.v (.int .i64 n)) (by first | exact (tidy_long hc1).1 | exact (tidy_long hc1).2)))) .nil)) rfl (HSub.fst 1 rfl) ⟨(.slice none 0 0), rfl, rfl⟩
  · skip
    refine zk rfl (zd (jT rfl (oR 1 rfl (oE rfl (zH [] _ [] rfl rfl (.cons ArgC.id .nil) zu Tryz.call108 (cloneL_c l (by omega)) (.inl rfl)) ?_))))
    rintro _ _ ⟨_, ⟨v2, rfl, rfl⟩, rfl⟩
    refine on rfl (oR 1 rfl (oZ rfl (jT rfl (oR 1 rfl (oE rfl (zH [.sl v2 2 62 (l.map Lbl.d)] [] [] rfl rfl (.cons ArgC.id (.cons ArgC.id .nil)) zu Tryz.call190 (sortL_c v2 l (by omega)) (.inl rfl)) ?_)))))
    rintro _ _ ⟨_, ⟨rfl, rfl⟩, rfl⟩
    refine on rfl (oZ rfl (jS rfl (jT rfl (oR 1 rfl (oP rfl (zN (n := (zt zC l).length) (j := 0) rfl rfl Tryz.runUnderlying50 (List.length_map _)) (oR 1 rfl (oZ rfl (jB rfl (jl1 (fun (a_ : Nat) => [(4, .ov v2), (14, .ov v2), (15, dN ((zt zC l).length)), (16, dN a_)]) (fun a_ => [.sl v2 2 62 ((zt zC l).map Lbl.d)]) (fun a_ => (zco (zt zC l) = zbg (zt zC l) a_)) (fun a_ => l.length - a_) 0 rfl (sa rfl) HSub.rfl' rfl ?_)))))))))
    rintro k hk
    refine ja rfl (jn rfl (jT rfl (oP rfl (zP rfl rfl rfl) (oZ rfl (jS rfl ?_)))))
    refine jD rfl (fun hc3 => ?_) (fun hc3 => ?_)
    · skip
      refine zk rfl (zd (jS rfl (jB rfl (jT rfl (oR 1 rfl ?_)))))
      obtain ⟨x1, hx1⟩ := zy (zt zC l) k (by omega)
      refine oP rfl (zh (k := k) (j := 0) rfl rfl rfl Tryz.runUnderlying50 Tryz.sizeOf62 (by first | rfl | omega) (zf hx1)) (oP rfl (zV (d := Lbl.d x1) rfl (i := 0) rfl (zf hx1) Tryz.isAgg62 Tryz.sizeOf62 rfl rfl) (oE rfl (zap (zv := (.agg #[(.string ByteArray.empty), (.string ByteArray.empty)])) Tryz.zeroValue62 ⟨rfl, rfl, trivial⟩ (Cv.vagg (by decide))) ?_))
      rintro _ _ ⟨g4, rfl, rfl⟩
      refine oR 1 rfl (oE rfl (z2 (i := 0) (X' := Lbl.d x1) rfl rfl rfl (CellD.agg) Tryz.sizeOf62 rfl rfl rfl) ?_)
      rintro _ _ ⟨rfl, rfl⟩
      refine on rfl (oZ rfl (jS rfl ?_))
      rcases Bool.eq_false_or_eq_true (zbt x1.n) with hg5 | hg5
      · skip
        by_cases hg6 : x1.v = ByteArray.empty
        · skip
          refine jk [4, 5, 6, 14, 15, 16, 17, 18, 19, 20] rfl (jn rfl ?_)
          refine zT 27 [(21, dP g4 0, none), (22, .s x1.n, none), (23, dB true, none), (24, dB false, none), (25, dB false, none), (26, dP g4 1, none), (27, .s x1.v, none), (28, dB true, none), (29, dB true, none), (30, dB true, none), (31, .v undef, none), (32, .v undef, none), (33, .v undef, none), (34, .v undef, none), (35, dB true, none), (36, dB true, none), (37, .v undef, none), (38, .v undef, none), (39, .v undef, none), (40, .v undef, none), (41, .v undef, none), (42, .v undef, none), (43, .v undef, none), (44, .v undef, none), (45, .v undef, none), (46, .v undef, none), (47, .v undef, none)] [.bx g4 62 (Lbl.d x1), .sl v2 2 62 ((zt zC l).map Lbl.d)] (Hn := [.bx g4 62 (Lbl.d x1), .sl v2 2 62 ((zt zC l).map Lbl.d)]) z7 rfl rfl rfl rfl HSub.rfl' rfl ⟨sa_p rfl rfl rfl (zs rfl zac rfl), sa_p rfl rfl rfl (zI rfl (i := 0) rfl Tryz.isAgg9 rfl), sa_q rfl rfl rfl ((zaO rfl (.cons Cv.rfl' .nil) Tryz.call191 (zc5 x1.n) za2).cv (Cv.eq (congrArg (fun b => D.v (.bool b)) hg5))), sa_p rfl rfl rfl (zaV (q := true) rfl), sa_p rfl rfl rfl (zb rfl), zA rfl rfl rfl rfl rfl rfl (zs rfl zaC rfl).qu, zA rfl rfl rfl rfl rfl rfl (zI rfl (i := 0) rfl Tryz.isAgg9 rfl).qu, zA rfl rfl rfl rfl rfl rfl (za6 rfl rfl (decide_eq_true hg6)).qu, sa_p rfl rfl rfl (zbD rfl rfl), sa_p rfl rfl rfl (zb rfl), sa_s rfl rfl rfl rfl rfl rfl (by decide), sa_s rfl rfl rfl rfl rfl rfl (by decide), sa_s rfl rfl rfl rfl rfl rfl (by decide), sa_s rfl rfl rfl rfl rfl rfl (by decide), sa_p rfl rfl rfl (p_pick_t rfl rfl), sa_p rfl rfl rfl (zb rfl), sa_s rfl rfl rfl rfl rfl rfl (by decide), sa_s rfl rfl rfl rfl rfl rfl (by decide), sa_s rfl rfl rfl rfl rfl rfl (by decide), sa_s rfl rfl rfl rfl rfl rfl (by decide), sa_s rfl rfl rfl rfl rfl rfl (by decide), sa_s rfl rfl rfl rfl rfl rfl (by decide), sa_s rfl rfl rfl rfl rfl rfl (by decide), sa_s rfl rfl rfl rfl rfl rfl (by decide), sa_s rfl rfl rfl rfl rfl rfl (by decide), sa_s rfl rfl rfl rfl rfl rfl (by decide), sa_s rfl rfl rfl rfl rfl rfl (by decide), trivial⟩ ?_
          refine ok [4, 5, 6, 14, 15, 16, 17, 18, 19, 20, 21, 22, 23, 24, 25, 26, 27, 28, 29, 30, 31, 32, 33, 34, 35, 36, 37, 38, 39, 40, 41, 42, 43, 44, 45, 46, 47] rfl (oR 3 rfl (oZ rfl (jCt rfl (jT rfl (oR 2 rfl (oZ rfl (zm rfl (ze (zc (zJ (ze (zc (PD.subH (HSub.nil 2 62) (PD.norm [.sl (.slice none 0 0) 2 62 ((zF l).map Lbl.d), .bx g4 62 (Lbl.d x1), .sl v2 2 62 ((zt zC l).map Lbl.d)] (by have hw : [] = zF l := (by first | exact (zaF hk hx1 (zct hg6)).1 | exact (zaF hk hx1 (zct hg6)).2); rw [show ([] : List D) = List.map Lbl.d (zF l) from congrArg (List.map Lbl.d) hw]) ?_))))))))))))))
          exact zj Tryz.results159 (.cons (zr (zg rfl) (Cv.ov rfl)) (.cons (zr (zg rfl) (Cv.eq (congrArg (fun n => D.v (.int .i64 n)) (by first | exact (zaF hk hx1 (zct hg6)).1 | exact (zaF hk hx1 (zct hg6)).2)))) .nil)) rfl (HSub.fst 1 rfl) ⟨(.slice none 0 0), rfl, rfl⟩
        · skip
          by_cases hg7 : (60 : Int) < ((x1.v.size : Nat) : Int)
          · skip
            refine jk [4, 5, 6, 14, 15, 16, 17, 18, 19, 20] rfl (jn rfl ?_)
            refine zT 27 [(21, dP g4 0, none), (22, .s x1.n, none), (23, dB true, none), (24, dB false, none), (25, dB false, none), (26, dP g4 1, none), (27, .s x1.v, none), (28, dB false, none), (29, dB false, none), (30, dB false, none), (31, dP g4 1, none), (32, .s x1.v, none), (33, dN x1.v.size, none), (34, dB true, none), (35, dB true, none), (36, dB true, none), (37, .v undef, none), (38, .v undef, none), (39, .v undef, none), (40, .v undef, none), (41, .v undef, none), (42, .v undef, none), (43, .v undef, none), (44, .v undef, none), (45, .v undef, none), (46, .v undef, none), (47, .v undef, none)] [.bx g4 62 (Lbl.d x1), .sl v2 2 62 ((zt zC l).map Lbl.d)] (Hn := [.bx g4 62 (Lbl.d x1), .sl v2 2 62 ((zt zC l).map Lbl.d)]) z7 rfl rfl rfl rfl HSub.rfl' rfl ⟨sa_p rfl rfl rfl (zs rfl zac rfl), sa_p rfl rfl rfl (zI rfl (i := 0) rfl Tryz.isAgg9 rfl), sa_q rfl rfl rfl ((zaO rfl (.cons Cv.rfl' .nil) Tryz.call191 (zc5 x1.n) za2).cv (Cv.eq (congrArg (fun b => D.v (.bool b)) hg5))), sa_p rfl rfl rfl (zaV (q := true) rfl), sa_p rfl rfl rfl (zb rfl), zA rfl rfl rfl rfl rfl rfl (zs rfl zaC rfl).qu, zA rfl rfl rfl rfl rfl rfl (zI rfl (i := 0) rfl Tryz.isAgg9 rfl).qu, zA rfl rfl rfl rfl rfl rfl (za6 rfl rfl (decide_eq_false hg6)).qu, sa_p rfl rfl rfl (zbD rfl rfl), sa_p rfl rfl rfl (zb rfl), zA rfl rfl rfl rfl rfl rfl (zs rfl zaC rfl).qu, zA rfl rfl rfl rfl rfl rfl (zI rfl (i := 0) rfl Tryz.isAgg9 rfl).qu, zA rfl rfl rfl rfl rfl rfl (zbv rfl Tryz.runUnderlying9).qu, zA rfl rfl rfl rfl rfl rfl (zat rfl rfl (decide_eq_true hg7)).qu, sa_p rfl rfl rfl (zbD rfl rfl), sa_p rfl rfl rfl (zb rfl), sa_s rfl rfl rfl rfl rfl rfl (by decide), sa_s rfl rfl rfl rfl rfl rfl (by decide), sa_s rfl rfl rfl rfl rfl rfl (by decide), sa_s rfl rfl rfl rfl rfl rfl (by decide), sa_s rfl rfl rfl rfl rfl rfl (by decide), sa_s rfl rfl rfl rfl rfl rfl (by decide), sa_s rfl rfl rfl rfl rfl rfl (by decide), sa_s rfl rfl rfl rfl rfl rfl (by decide), sa_s rfl rfl rfl rfl rfl rfl (by decide), sa_s rfl rfl rfl rfl rfl rfl (by decide), sa_s rfl rfl rfl rfl rfl rfl (by decide), trivial⟩ ?_
            refine ok [4, 5, 6, 14, 15, 16, 17, 18, 19, 20, 21, 22, 23, 24, 25, 26, 27, 28, 29, 30, 31, 32, 33, 34, 35, 36, 37, 38, 39, 40, 41, 42, 43, 44, 45, 46, 47] rfl (oR 3 rfl (oZ rfl (jCt rfl (jT rfl (oR 2 rfl (oZ rfl (zm rfl (ze (zc (zJ (ze (zc (PD.subH (HSub.nil 2 62) (PD.norm [.sl (.slice none 0 0) 2 62 ((zF l).map Lbl.d), .bx g4 62 (Lbl.d x1), .sl v2 2 62 ((zt zC l).map Lbl.d)] (by have hw : [] = zF l := (by first | exact (zaF hk hx1 (zcs hg7)).1 | exact (zaF hk hx1 (zcs hg7)).2); rw [show ([] : List D) = List.map Lbl.d (zF l) from congrArg (List.map Lbl.d) hw]) ?_))))))))))))))
            exact zj Tryz.results159 (.cons (zr (zg rfl) (Cv.ov rfl)) (.cons (zr (zg rfl) (Cv.eq (congrArg (fun n => D.v (.int .i64 n)) (by first | exact (zaF hk hx1 (zcs hg7)).1 | exact (zaF hk hx1 (zcs hg7)).2)))) .nil)) rfl (HSub.fst 1 rfl) ⟨(.slice none 0 0), rfl, rfl⟩
          · skip
            by_cases hg8 : (0 : Int) < ((k : Nat) : Int)
            · skip
              refine jk [4, 5, 6, 14, 15, 16, 17, 18, 19, 20] rfl (jn rfl ?_)
              obtain ⟨x2, hx2⟩ := zy (zt zC l) (k - 1) (by omega)
              refine zT 27 [(21, dP g4 0, none), (22, .s x1.n, none), (23, dB true, none), (24, dB false, none), (25, dB false, none), (26, dP g4 1, none), (27, .s x1.v, none), (28, dB false, none), (29, dB false, none), (30, dB false, none), (31, dP g4 1, none), (32, .s x1.v, none), (33, dN x1.v.size, none), (34, dB false, none), (35, dB false, none), (36, dB false, none), (37, dN k, none), (38, dB true, none), (39, dB true, none), (40, .ov v2, none), (41, dN k, none), (42, dN (k - 1), none), (43, .v (.pointer (some ⟨bl v2, (k - 1) * 2 + 0, none⟩)), none), (44, .v (.pointer (some ⟨bl v2, (k - 1) * 2 + 0, none⟩)), none), (45, .s x2.n, none), (46, dP g4 0, none), (47, .s x1.n, none)] [.bx g4 62 (Lbl.d x1), .sl v2 2 62 ((zt zC l).map Lbl.d)] (Hn := [.bx g4 62 (Lbl.d x1), .sl v2 2 62 ((zt zC l).map Lbl.d)]) z7 rfl rfl rfl rfl HSub.rfl' rfl ⟨sa_p rfl rfl rfl (zs rfl zac rfl), sa_p rfl rfl rfl (zI rfl (i := 0) rfl Tryz.isAgg9 rfl), sa_q rfl rfl rfl ((zaO rfl (.cons Cv.rfl' .nil) Tryz.call191 (zc5 x1.n) za2).cv (Cv.eq (congrArg (fun b => D.v (.bool b)) hg5))), sa_p rfl rfl rfl (zaV (q := true) rfl), sa_p rfl rfl rfl (zb rfl), zA rfl rfl rfl rfl rfl rfl (zs rfl zaC rfl).qu, zA rfl rfl rfl rfl rfl rfl (zI rfl (i := 0) rfl Tryz.isAgg9 rfl).qu, zA rfl rfl rfl rfl rfl rfl (za6 rfl rfl (decide_eq_false hg6)).qu, sa_p rfl rfl rfl (zbD rfl rfl), sa_p rfl rfl rfl (zb rfl), zA rfl rfl rfl rfl rfl rfl (zs rfl zaC rfl).qu, zA rfl rfl rfl rfl rfl rfl (zI rfl (i := 0) rfl Tryz.isAgg9 rfl).qu, zA rfl rfl rfl rfl rfl rfl (zbv rfl Tryz.runUnderlying9).qu, zA rfl rfl rfl rfl rfl rfl (zat rfl rfl (decide_eq_false hg7)).qu, sa_p rfl rfl rfl (zbD rfl rfl), sa_p rfl rfl rfl (zb rfl), zA rfl rfl rfl rfl rfl rfl (zb rfl).qu, zA rfl rfl rfl rfl rfl rfl (zat rfl rfl (decide_eq_true hg8)).qu, zA rfl rfl rfl rfl rfl rfl (zb rfl).qu, zA rfl rfl rfl rfl rfl rfl (zb rfl).qu, zA rfl rfl rfl rfl rfl rfl (zb rfl).qu, zA rfl rfl rfl rfl rfl rfl (zak (c := ((k - 1 : Nat) : Int)) rfl rfl (zD (by omega) (by omega))).qu, zA rfl rfl rfl rfl rfl rfl (zh (k := k - 1) (j := 1) rfl rfl rfl Tryz.runUnderlying50 Tryz.sizeOf62 (by first | rfl | omega) (zf hx2)).qu, zA rfl rfl rfl rfl rfl rfl (zs rfl zac rfl).qu, zA rfl rfl rfl rfl rfl rfl (zZ rfl (i := 1) rfl (zf hx2) Tryz.isAgg9 rfl).qu, zA rfl rfl rfl rfl rfl rfl (zs rfl zac rfl).qu, zA rfl rfl rfl rfl rfl rfl (zI rfl (i := 0) rfl Tryz.isAgg9 rfl).qu, trivial⟩ ?_
              refine ok [4, 5, 6, 14, 15, 16, 17, 18, 19, 20, 21, 22, 23, 24, 25, 26, 27, 28, 29, 30, 31, 32, 33, 34, 35, 36, 37, 38, 39, 40, 41, 42, 43, 44, 45, 46, 47] rfl (oG rfl (za6 rfl rfl rfl) (oR 2 rfl (oZ rfl ?_)))
              refine jD rfl (fun hc9 => ?_) (fun hc9 => ?_)
              · skip
                refine jT rfl (oR 2 rfl (oZ rfl (zm rfl (ze (zc (zJ (ze (zc (PD.subH (HSub.nil 2 62) (PD.norm [.sl (.slice none 0 0) 2 62 ((zF l).map Lbl.d), .bx g4 62 (Lbl.d x1), .sl v2 2 62 ((zt zC l).map Lbl.d)] (by have hw : [] = zF l := (by first | exact (tidy_bad2 hk hx1 (zb7 hg8 hx2) hc9).1 | exact (tidy_bad2 hk hx1 (zb7 hg8 hx2) hc9).2); rw [show ([] : List D) = List.map Lbl.d (zF l) from congrArg (List.map Lbl.d) hw]) ?_))))))))))
                exact zj Tryz.results159 (.cons (zr (zg rfl) (Cv.ov rfl)) (.cons (zr (zg rfl) (Cv.eq (congrArg (fun n => D.v (.int .i64 n)) (by first | exact (tidy_bad2 hk hx1 (zb7 hg8 hx2) hc9).1 | exact (tidy_bad2 hk hx1 (zb7 hg8 hx2) hc9).2)))) .nil)) rfl (HSub.fst 1 rfl) ⟨(.slice none 0 0), rfl, rfl⟩
              · skip
                refine zk rfl (zw (zd (za rfl (oP rfl (zQ (c := ((k + 1 : Nat) : Int)) rfl rfl (zD (by omega) (by omega))) (oR 1 rfl (zi rfl ?_))))))
                exact pl1 (k + 1) (sa rfl) (HSub.lst 1 rfl) (tidy_step hk hx1 (okL_t hg5 hg6 hg7) (zb7 hg8 hx2) hc9) (by omega)
            · skip
              refine jk [4, 5, 6, 14, 15, 16, 17, 18, 19, 20] rfl (jn rfl ?_)
              refine zT 27 [(21, dP g4 0, none), (22, .s x1.n, none), (23, dB true, none), (24, dB false, none), (25, dB false, none), (26, dP g4 1, none), (27, .s x1.v, none), (28, dB false, none), (29, dB false, none), (30, dB false, none), (31, dP g4 1, none), (32, .s x1.v, none), (33, dN x1.v.size, none), (34, dB false, none), (35, dB false, none), (36, dB false, none), (37, dN k, none), (38, dB false, none), (39, dB false, none), (40, .v undef, none), (41, .v undef, none), (42, .v undef, none), (43, .v undef, none), (44, .v undef, none), (45, .v undef, none), (46, .v undef, none), (47, .v undef, none)] [.bx g4 62 (Lbl.d x1), .sl v2 2 62 ((zt zC l).map Lbl.d)] (Hn := [.bx g4 62 (Lbl.d x1), .sl v2 2 62 ((zt zC l).map Lbl.d)]) z7 rfl rfl rfl rfl HSub.rfl' rfl ⟨sa_p rfl rfl rfl (zs rfl zac rfl), sa_p rfl rfl rfl (zI rfl (i := 0) rfl Tryz.isAgg9 rfl), sa_q rfl rfl rfl ((zaO rfl (.cons Cv.rfl' .nil) Tryz.call191 (zc5 x1.n) za2).cv (Cv.eq (congrArg (fun b => D.v (.bool b)) hg5))), sa_p rfl rfl rfl (zaV (q := true) rfl), sa_p rfl rfl rfl (zb rfl), zA rfl rfl rfl rfl rfl rfl (zs rfl zaC rfl).qu, zA rfl rfl rfl rfl rfl rfl (zI rfl (i := 0) rfl Tryz.isAgg9 rfl).qu, zA rfl rfl rfl rfl rfl rfl (za6 rfl rfl (decide_eq_false hg6)).qu, sa_p rfl rfl rfl (zbD rfl rfl), sa_p rfl rfl rfl (zb rfl), zA rfl rfl rfl rfl rfl rfl (zs rfl zaC rfl).qu, zA rfl rfl rfl rfl rfl rfl (zI rfl (i := 0) rfl Tryz.isAgg9 rfl).qu, zA rfl rfl rfl rfl rfl rfl (zbv rfl Tryz.runUnderlying9).qu, zA rfl rfl rfl rfl rfl rfl (zat rfl rfl (decide_eq_false hg7)).qu, sa_p rfl rfl rfl (zbD rfl rfl), sa_p rfl rfl rfl (zb rfl), zA rfl rfl rfl rfl rfl rfl (zb rfl).qu, zA rfl rfl rfl rfl rfl rfl (zat rfl rfl (decide_eq_false hg8)).qu, zA rfl rfl rfl rfl rfl rfl (zb rfl).qu, sa_s rfl rfl rfl rfl rfl rfl (by decide), sa_s rfl rfl rfl rfl rfl rfl (by decide), sa_s rfl rfl rfl rfl rfl rfl (by decide), sa_s rfl rfl rfl rfl rfl rfl (by decide), sa_s rfl rfl rfl rfl rfl rfl (by decide), sa_s rfl rfl rfl rfl rfl rfl (by decide), sa_s rfl rfl rfl rfl rfl rfl (by decide), sa_s rfl rfl rfl rfl rfl rfl (by decide), trivial⟩ ?_
              refine ok [4, 5, 6, 14, 15, 16, 17, 18, 19, 20, 21, 22, 23, 24, 25, 26, 27, 28, 29, 30, 31, 32, 33, 34, 35, 36, 37, 38, 39, 40, 41, 42, 43, 44, 45, 46, 47] rfl (oR 3 rfl (oZ rfl (jCf rfl (zk rfl (zw (zd (za rfl (oP rfl (zQ (c := ((k + 1 : Nat) : Int)) rfl rfl (zD (by omega) (by omega))) (oR 1 rfl (zi rfl ?_))))))))))
              exact pl1 (k + 1) (sa rfl) (HSub.lst 1 rfl) (tidy_step0 hk hx1 (okL_t hg5 hg6 hg7) (prevN_zero hg8)) (by omega)
      · skip
        refine jk [4, 5, 6, 14, 15, 16, 17, 18, 19, 20] rfl (jn rfl ?_)
        refine zT 27 [(21, dP g4 0, none), (22, .s x1.n, none), (23, dB false, none), (24, dB true, none), (25, dB true, none), (26, .v undef, none), (27, .v undef, none), (28, .v undef, none), (29, dB true, none), (30, dB true, none), (31, .v undef, none), (32, .v undef, none), (33, .v undef, none), (34, .v undef, none), (35, dB true, none), (36, dB true, none), (37, .v undef, none), (38, .v undef, none), (39, .v undef, none), (40, .v undef, none), (41, .v undef, none), (42, .v undef, none), (43, .v undef, none), (44, .v undef, none), (45, .v undef, none), (46, .v undef, none), (47, .v undef, none)] [.bx g4 62 (Lbl.d x1), .sl v2 2 62 ((zt zC l).map Lbl.d)] (Hn := [.bx g4 62 (Lbl.d x1), .sl v2 2 62 ((zt zC l).map Lbl.d)]) z7 rfl rfl rfl rfl HSub.rfl' rfl ⟨sa_p rfl rfl rfl (zs rfl zac rfl), sa_p rfl rfl rfl (zI rfl (i := 0) rfl Tryz.isAgg9 rfl), sa_q rfl rfl rfl ((zaO rfl (.cons Cv.rfl' .nil) Tryz.call191 (zc5 x1.n) za2).cv (Cv.eq (congrArg (fun b => D.v (.bool b)) hg5))), sa_p rfl rfl rfl (zaV (q := false) rfl), sa_p rfl rfl rfl (zb rfl), sa_s rfl rfl rfl rfl rfl rfl (by decide), sa_s rfl rfl rfl rfl rfl rfl (by decide), sa_s rfl rfl rfl rfl rfl rfl (by decide), sa_p rfl rfl rfl (p_pick_t rfl rfl), sa_p rfl rfl rfl (zb rfl), sa_s rfl rfl rfl rfl rfl rfl (by decide), sa_s rfl rfl rfl rfl rfl rfl (by decide), sa_s rfl rfl rfl rfl rfl rfl (by decide), sa_s rfl rfl rfl rfl rfl rfl (by decide), sa_p rfl rfl rfl (p_pick_t rfl rfl), sa_p rfl rfl rfl (zb rfl), sa_s rfl rfl rfl rfl rfl rfl (by decide), sa_s rfl rfl rfl rfl rfl rfl (by decide), sa_s rfl rfl rfl rfl rfl rfl (by decide), sa_s rfl rfl rfl rfl rfl rfl (by decide), sa_s rfl rfl rfl rfl rfl rfl (by decide), sa_s rfl rfl rfl rfl rfl rfl (by decide), sa_s rfl rfl rfl rfl rfl rfl (by decide), sa_s rfl rfl rfl rfl rfl rfl (by decide), sa_s rfl rfl rfl rfl rfl rfl (by decide), sa_s rfl rfl rfl rfl rfl rfl (by decide), sa_s rfl rfl rfl rfl rfl rfl (by decide), trivial⟩ ?_
        refine ok [4, 5, 6, 14, 15, 16, 17, 18, 19, 20, 21, 22, 23, 24, 25, 26, 27, 28, 29, 30, 31, 32, 33, 34, 35, 36, 37, 38, 39, 40, 41, 42, 43, 44, 45, 46, 47] rfl (oR 3 rfl (oZ rfl (jCt rfl (jT rfl (oR 2 rfl (oZ rfl (zm rfl (ze (zc (zJ (ze (zc (PD.subH (HSub.nil 2 62) (PD.norm [.sl (.slice none 0 0) 2 62 ((zF l).map Lbl.d), .bx g4 62 (Lbl.d x1), .sl v2 2 62 ((zt zC l).map Lbl.d)] (by have hw : [] = zF l := (by first | exact (zaF hk hx1 (zcu hg5)).1 | exact (zaF hk hx1 (zcu hg5)).2); rw [show ([] : List D) = List.map Lbl.d (zF l) from congrArg (List.map Lbl.d) hw]) ?_))))))))))))))
        exact zj Tryz.results159 (.cons (zr (zg rfl) (Cv.ov rfl)) (.cons (zr (zg rfl) (Cv.eq (congrArg (fun n => D.v (.int .i64 n)) (by first | exact (zaF hk hx1 (zcu hg5)).1 | exact (zaF hk hx1 (zcu hg5)).2)))) .nil)) rfl (HSub.fst 1 rfl) ⟨(.slice none 0 0), rfl, rfl⟩
    · skip
      refine zK rfl (zp (zn (zl (zd (jT rfl (oR 3 rfl (oZ rfl (zm rfl (PD.norm [.sl v2 2 62 ((zF l).map Lbl.d)] (by have hw : (zt zC l) = zF l := (by first | exact (tidy_good hk (by omega) (by omega)).1 | exact (tidy_good hk (by omega) (by omega)).2); rw [hw]) ?_)))))))))
      exact zj Tryz.results159 (.cons (zg rfl) (.cons (zr (zg rfl) (Cv.eq (congrArg (fun n => D.v (.int .i64 n)) (by first | exact (tidy_good hk (by omega) (by omega)).1 | exact (tidy_good hk (by omega) (by omega)).2)))) .nil)) rfl (HSub.fst 1 rfl) ⟨v2, rfl, rfl⟩
end Lp
/-
  Ways that meet again, with ghosts; functions as values.
-/
set_option linter.unusedVariables false
namespace Lp
open Go Go.RowKit
section
variable {P : Program} {N : Nat} {C : Ctx} {c : Code} {K : Kd} {H : List Hp} {Q : zas}
/-- A piece of code whose ways meet again, each with ghosts of its own. -/
theorem zcF {G : Type} (L : G → Kd) (HI : G → List Hp) (I : G → Prop) (h : ∀ Q' : zas, (∀ g, I g → PD C Q' .normal (L g) (HI g)) → JD P N C c K H Q') (next : ∀ g, I g → PD C Q .normal (L g) (HI g)) : JD P N C c K H Q := h Q next
end
/-- as Mv, and what all could read they still can -/
structure Mvk (K : Kd) (H : List Hp) (K' : Kd) (H' : List Hp) : Prop where
  out : ∀ C w F ρ, KOk w F ρ K → Good C H w F → ∃ F', KOk w F' ρ K' ∧ Good C H' w F' ∧ Keep w F w F'
theorem frz_good {C : Ctx} {w : World} {F : Nat → Prop} {L H1 H1' : List Hp} (hh : HL L H1 H1') (g : Good C (L ++ H1) w F) : Good C H1' w (fun b => F b ∨ blks L b) := by
  have hap := List.pairwise_append.1 g.h.apart
  have hokL : ∀ h ∈ L, h.ok w F := fun h hh => g.h.ok h (List.mem_append_left _ hh)
  refine { g with fsub := fun b hb => .inl (g.fsub b hb), fnew := ?_, flt := ?_, h := ⟨pairwise_blk hh.blk hap.2.1, hh.out g.flt hokL (fun h hm => g.h.ok h (List.mem_append_right _ hm)), fun b hb => ?_⟩ }
  · rintro b (h | ⟨x, hx, e⟩)
    · exact g.fnew b h
    · exact .inr (g.h.mine b ⟨x, List.mem_append_left _ hx, e⟩).1
  · rintro b (h | ⟨x, hx, e⟩)
    · exact g.flt b h
    · exact Hp.lt (hokL x hx) e
  · obtain ⟨x, hx, e⟩ := blks_eq hh.blk hb
    have hm := g.h.mine b ⟨x, List.mem_append_right _ hx, e⟩
    refine ⟨hm.1, ?_⟩
    rintro (h | ⟨y, hy, e'⟩)
    · exact hm.2 h
    · exact hap.2.2 y hy x hx b e' e
theorem Mvk.freeze {K : Kd} (L : List Hp) {K' : Kd} {H1 H1' : List Hp} (hs : SubL L K' K) (hh : HL L H1 H1') : Mvk K (L ++ H1) K' H1' := ⟨fun C w F ρ hk g => by
  have hokL : ∀ h ∈ L, h.ok w F := fun h hh => g.h.ok h (List.mem_append_left _ hh)
  exact ⟨fun b => F b ∨ blks L b, hs.out g.flt hokL hk, frz_good hh g, ⟨fun _ h => .inl h, fun _ _ _ => rfl⟩⟩⟩
theorem Ef.mv {P : Program} {op : Op} {ty : TypeId} {K K' : Kd} {H H' : List Hp} {R : D → List Hp → Prop} (m : Mvk K H K' H') (h : Ef P op ty K' H' R) : Ef P op ty K H R := ⟨fun C ρ w F hk g => by
  obtain ⟨F1, hk1, g1, k1⟩ := m.out C w F ρ hk g
  exact (h.out C ρ w F1 hk1 g1).mono fun u w' ⟨F', d, H1, h1, h2, h3, h4⟩ => ⟨F', d, H1, h1, h2, h3, ⟨fun b hb => h4.sub b (k1.sub b hb), fun b hb hl => h4.same b (k1.sub b hb) hl⟩⟩⟩
theorem HL.rfl' (L : List Hp) : ∀ H : List Hp, HL L H H
  | [] => .nil
  | _ :: r => .same (HL.rfl' L r)
/-- what comes out as a row of the call's own is at once what all may read -/
theorem Ef.fz {P : Program} {op : Op} {ty : TypeId} {K : Kd} {H Hr : List Hp} {R : D → List Hp → Prop} {d : D} (h : Ef P op ty K H R) (hR : ∀ e He, R e He → ∃ L, He = L ++ Hr ∧ ArgC L e d) : Ef P op ty K H (fun e He => e = d ∧ He = Hr) := ⟨fun C ρ w F hk g => (h.out C ρ w F hk g).mono fun u w' ⟨F', e, He, hr, hrep, g', kp⟩ => by
  obtain ⟨L, rfl, hc⟩ := hR e He hr
  have hL : ∀ h ∈ L, h.ok w' F' := fun h hh => g'.h.ok h (List.mem_append_left _ hh)
  have hrep2 := hc.out w' F' u g'.flt hL hrep
  exact ⟨_, d, Hr, ⟨rfl, rfl⟩, hrep2, frz_good (HL.rfl' L Hr) g', ⟨fun b hb => .inl (kp.sub b hb), fun b hb hl => kp.same b hb hl⟩⟩⟩
section
variable {P : Program} {ty : TypeId} {K : Kd} {H : List Hp}
theorem p_makeFunc {f : FuncId} {xs ys : Array Operand} {ds es : List D} (hx : opsD K xs.toList = some ds) (hy : opsD K ys.toList = some es) : Pu P (.makeFunc (.func f) xs ys) ty K H (.fn f ds es) :=
  ⟨fun ρ w F hk _ _ => by
    have h1 := zbE hk hx
    have h2 := zbE hk hy
    refine EOp.of_run (v := .func (.func f) (xs.map (ev ρ)) (ys.map (ev ρ))) (w' := w) ?_ ⟨rfl, xs.toList.map (ev ρ), ys.toList.map (ev ρ), ?_, h1, h2⟩
    · simp [execOp, Instr.makeFunc, Sem.run_pure, zah]
    · congr 1 <;> (apply Array.ext'; simp)⟩
end
end Lp
/-
  The tail of a row of the call's own, as a slice: read, cut and grown.
-/
set_option linter.unusedVariables false
namespace Lp
open Go Go.RowKit

theorem Qu.ef {P : Program} {op : Op} {ty : TypeId} {K : Kd} {H : List Hp} {d : D} (h : Qu P op ty K H d) : Ef P op ty K H (fun d' H' => d' = d ∧ H' = H) := ⟨fun C ρ w F hk g => (h.out ρ w F hk g.flt g.h.ok).mono fun u w' ⟨E, hr⟩ => by
  obtain ⟨g', k⟩ := g.fn E
  exact ⟨_, d, H, ⟨rfl, rfl⟩, hr, g', k⟩⟩
theorem addr_add (g o j : Nat) : (⟨g, o, none⟩ : Addr).add j = ⟨g, o + j, none⟩ := by cases j <;> simp [Addr.add]
/-- a row is a tail of itself -/
theorem HSub.slo {H : List Hp} {v : Value} {z : Nat} {T : TypeId} {xs : List D} : HSub (.sl v z T xs :: H) (.slo v z T xs :: H) := ⟨fun C w F gd => by
  have key : (Hp.sl v z T xs).ok w F → (Hp.slo v z T xs).ok w F := by
    rintro ⟨us, hr, ho⟩
    refine ⟨us, hr, ?_⟩
    have hm := ho.1
    rcases hm.2 with ⟨e, h0⟩ | ⟨g, cap, cur, e, hb, hg, hc, rest⟩
    · exact ⟨Option.none, 0, by rw [e, h0], by omega, .inl rfl⟩
    · refine ⟨_, cap, e, hc, .inr ⟨g, [], by simp, ?_⟩⟩
      simp only [List.length_nil, Nat.zero_add, List.nil_append]
      rw [← e]; exact ho
  have hbl : ∀ b, (Hp.slo v z T xs).blk b → (Hp.sl v z T xs).blk b := by
    rintro b ⟨A, n, c, e, _, hb⟩
    show v.ownBlock = some b
    rw [e]; show some A.block = _; rw [hb]
  have ha := List.pairwise_cons.1 gd.h.apart
  exact { gd with h := ⟨List.pairwise_cons.2 ⟨fun h hh b hb => ha.1 h hh b (hbl b hb), ha.2⟩, fun h hh => by
    rcases List.mem_cons.1 hh with e | e
    · rw [e]; exact key (gd.h.ok _ List.mem_cons_self)
    · exact gd.h.ok h (List.mem_cons_of_mem _ e), fun b ⟨h, hh, hb⟩ => by
    rcases List.mem_cons.1 hh with e | e
    · rw [e] at hb; exact gd.h.mine b ⟨_, List.mem_cons_self, hbl b hb⟩
    · exact gd.h.mine b ⟨h, List.mem_cons_of_mem _ e, hb⟩⟩ }⟩
theorem cut0 {z n m c : Nat} {A : Option Addr} (h : c = 0 ∨ ∃ g o, A = some ⟨g, o, none⟩) : cut z (.slice A m c) 0 n = .slice A n c := by
  unfold cut
  simp only [Nat.zero_mul, Nat.sub_zero]
  rcases h with h | ⟨g, o, h⟩
  · rw [if_pos h]
  · subst h; rw [Option.map_some, addr_add]; simp
theorem TlOk.cut0 {w : World} {z n : Nat} {T : TypeId} {u : Value} {us : List Value} (h : TlOk w z T u us) : ∃ A c, u = .slice A us.length c ∧ us.length ≤ c ∧ Lp.cut z u 0 n = .slice A n c ∧ (0 < us.length → ∃ g o, A = some ⟨g, o, none⟩) := by
  obtain ⟨A, c, e, hle, h⟩ := h
  refine ⟨A, c, e, hle, ?_, fun hl => ?_⟩
  · rw [e]; refine Lp.cut0 ?_
    rcases h with h | ⟨g, p, h, _⟩
    · exact .inl h
    · exact .inr ⟨g, _, h⟩
  · rcases h with h | ⟨g, p, h, _⟩
    · omega
    · exact ⟨g, _, h⟩
section
variable {P : Program} {ty : TypeId} {K : Kd} {H : List Hp}
end

section
variable {P : Program} {ty : TypeId} {K : Kd} {H : List Hp} {α : Type} {f : α → D}
end
end Lp
/-
  Slices with room behind them in which what stands is known.
-/
set_option linter.unusedVariables false
namespace Lp
open Go Go.RowKit
theorem rep_shr {w : World} {F : Nat → Prop} {z n : Nat} {xs : List D} {a : Value} (h : D.rep w F (.shr z n xs) a) : ∃ A c, a = .slice A n c ∧ n ≤ xs.length ∧ D.rep w F (.sh z xs) (.slice A xs.length c) ∧ xs.length ≤ c := by
  obtain ⟨A, c, e, h0, h1, h2, h3⟩ := h
  exact ⟨A, c, e, h0, ⟨A, c, rfl, h1, h2, h3⟩, h1⟩
theorem rep_take {w : World} {F : Nat → Prop} {z n : Nat} {xs : List D} {A : Option Addr} {c : Nat} (hF : ∀ b, F b → b < w.heap.size) (h0 : n ≤ xs.length) (h : D.rep w F (.sh z xs) (.slice A xs.length c)) : D.rep w F (.sh z (xs.take n)) (.slice A n c) := by
  have hl : (xs.take n).length = n := by rw [List.length_take]; omega
  obtain ⟨us, hr, hsl, hblk, hmx⟩ := D.rep_sl hF h
  have hul := hr.len
  cases xs with
  | nil =>
    have : n = 0 := by simpa using h0
    subst this
    exact ⟨A, c, rfl, Nat.zero_le _, Nat.zero_le _, fun e => absurd rfl e⟩
  | cons x r =>
    obtain ⟨b', o', c', hv', hF'⟩ := hblk (by simp)
    injection hv' with e1 _ e2
    subst e1; subst e2
    have h2 := hsl.cut 0 n (Nat.zero_le _) (by omega)
    rw [cut0 (.inr ⟨_, _, rfl⟩), List.drop_zero] at h2
    have := D.sl_rep (hr.take n) h2 (fun _ g hg => by cases hg; exact hF') (by rw [List.length_take]; omega)
    exact this
/-- an argument with room behind it, read as what it is -/
theorem ArgC.shr {L : List Hp} {z n : Nat} {xs : List D} : ArgC L (.shr z n xs) (.sh z (xs.take n)) := ⟨fun w F u hF hL hr => by
  obtain ⟨A, c, rfl, h0, h, _⟩ := rep_shr hr
  exact D.keep (Keep.wide _) _ _ (rep_take hF h0 h)⟩
section
variable {P : Program} {ty : TypeId} {K : Kd} {H : List Hp}
end
/-- lists that are read otherwise, each -/
theorem CvL.map {α : Type} {f g : α → D} (h : ∀ x, Cv (f x) (g x)) : ∀ l : List α, CvL (l.map f) (l.map g)
  | [] => .nil
  | x :: r => .cons (h x) (CvL.map h r)
end Lp
/-
  Lists that are kept: rows of the call's own, any number of them.
-/
set_option linter.unusedVariables false
namespace Lp
open Go Go.RowKit
variable {P : Program} {ty : TypeId} {K : Kd} {H : List Hp}

structure Kp (α : Type) where
  v : Value
  l : List α
abbrev Kp.d {α : Type} (p : Kp α) : D := .ov p.v
abbrev Kp.h {α : Type} (z : Nat) (T : TypeId) (f : α → D) (p : Kp α) : Hp := .sl p.v z T (p.l.map f)
theorem ArgC.shs {L : List Hp} {z : Nat} {xs xs' : List D} (h : ArgCs L xs xs') : ArgC L (.sh z xs) (.sh z xs') := ⟨fun w F u hF hL hr => by
  obtain ⟨us, h1, h2, h3, h4⟩ := D.rep_sl hF hr
  refine D.sl_rep (h.repE hF hL h1) h2 (fun hn g hg => ?_) (by have := h1.len; omega)
  have hx : xs ≠ [] := by rintro rfl; cases h; exact hn rfl
  obtain ⟨b, o, c, rfl, hb⟩ := h3 hx
  simp only [Value.ownBlock] at hg
  injection hg with hg
  rw [← hg]; exact .inl hb⟩
theorem perm_t1 {A B T : List Hp} : ((A ++ B) ++ T).Perm ((A ++ T) ++ B) := by
  rw [List.append_assoc, List.append_assoc]
  exact List.perm_append_comm.append_left A
end Lp
/-
  Numbers with a limit, and what is reckoned with them (chapters 4 and 10), as plain data.
-/
set_option linter.unusedVariables false
namespace Lp
open Go
def zaq (v : Int) : Bool := decide (-1000000000000 ≤ v) && decide (v ≤ 1000000000000)
def zcj (v : Int) : Int × Int := if zaq v = true then (v, 0) else (0, 4)
end Lp
/- Walks, printed by a program of mine. -/
set_option linter.unusedSimpArgs false
set_option linter.unusedVariables false
set_option maxHeartbeats 4000000
set_option maxRecDepth 100000
namespace Lp
open Go Go.RowKit Go.Proofs

namespace HdYtfjinapgehafiaaGreatV60
end HdYtfjinapgehafiaaGreatV60
open HdYtfjinapgehafiaaGreatV60

theorem fRight_c (v : Int)  :
    CD Tryz.prog 44 [] [dI v] (isR (dB (zaq v))) := by
  refine zq Tryz.func44 rfl (N := 9) rfl rfl (fun C => ?_)
  refine jk [0] rfl (jT rfl (oR 1 rfl (oZ rfl (jS rfl (jk [0] rfl ?_)))))
  refine zai 2 ((decide (((-1000000000000) : Int) ≤ v) && decide (v ≤ (1000000000000 : Int)))) [] (fun _ hQ1 => ?_) ?_
  · skip
    by_cases hg2 : ((-1000000000000) : Int) ≤ v
    · skip
      refine za rfl (oR 1 rfl (oP rfl (zS rfl rfl (decide_eq_true hg2)) (oR 2 rfl (oG rfl (zao rfl rfl rfl) (oR 2 rfl (zi rfl ?_))))))
      exact PD.sub ((2, dB (decide (((-1000000000000) : Int) ≤ v) && decide (v ≤ (1000000000000 : Int)))) :: [(0, dI v)]) ⟨sc rfl (Cv.eq (congrArg (fun b => D.v (.bool b)) (by first | (simp [hg2]; done) | (simp_all; done)))), sk rfl, trivial⟩ hQ1
    · skip
      refine za rfl (oR 1 rfl (oP rfl (zS rfl rfl (decide_eq_false hg2)) (oR 5 rfl (zi rfl ?_))))
      exact PD.sub ((2, dB (decide (((-1000000000000) : Int) ≤ v) && decide (v ≤ (1000000000000 : Int)))) :: [(0, dI v)]) ⟨sc rfl (Cv.eq (congrArg (fun b => D.v (.bool b)) (by first | (simp [hg2]; done) | (simp_all; done)))), sk rfl, trivial⟩ hQ1
  · skip
    refine zd (zm rfl ?_)
    exact zj Tryz.results44 (.cons (zr (zg rfl) (Cv.eq (congrArg (fun b => D.v (.bool b)) (by unfold zaq; first | rfl | simp)))) .nil) rfl HSub.none ⟨rfl, rfl⟩

theorem within_c (v : Int)  :
    CD Tryz.prog 114 [] [dI v] (isR (.tup [dI ((zcj v).1), dI ((zcj v).2)])) := by
  refine zq Tryz.func114 rfl (N := 8) rfl rfl (fun C => ?_)
  refine jk [0] rfl (jT rfl (oR 2 rfl (oZ rfl (jS rfl (jT rfl (oR 1 rfl (oW rfl rfl acs Tryz.call44 (fRight_c v) (oP rfl (zaV rfl) (oZ rfl ?_)))))))))
  refine jC rfl (fun hc1 => ?_) (fun hc1 => ?_)
  · simp only [bA, bB, bC, bD, bE, bF, bG, bH, bI, bJ] at hc1
    refine jT rfl (oR 2 rfl (oZ rfl (zm rfl (zc ?_))))
    exact zj Tryz.results114 (.cons (zr (zg rfl) (Cv.eq (congrArg (fun n => D.v (.int .i64 n)) (by unfold zcj; simp [hc1])))) (.cons (zr (zg rfl) (Cv.eq (congrArg (fun n => D.v (.int .i64 n)) (by unfold zcj; simp [hc1])))) .nil)) rfl HSub.none ⟨rfl, rfl⟩
  · simp only [bA, bB, bC, bD, bE, bF, bG, bH, bI, bJ] at hc1
    refine zk rfl (zd (jT rfl (oR 3 rfl (oZ rfl (zm rfl ?_)))))
    exact zj Tryz.results114 (.cons (zr (zg rfl) (Cv.eq (congrArg (fun n => D.v (.int .i64 n)) (by unfold zcj; simp [hc1])))) (.cons (zr (zg rfl) (Cv.eq (congrArg (fun n => D.v (.int .i64 n)) (by unfold zcj; simp [hc1])))) .nil)) rfl HSub.none ⟨rfl, rfl⟩

theorem indexS_c (ns : List ByteArray) (n : ByteArray)  :
    CD Tryz.prog 164 [] [.sh 1 (ns.map D.s), .s n] (isR (dI (idxN n 0 ns))) := by
  refine zq Tryz.func164 rfl (N := 19) rfl rfl (fun C => ?_)
  refine jk [0, 1] rfl ?_
  refine JD.bd 0 rfl (fun bd0 => ?_)
  have nl0 := zO bd0
  refine JD.bd 1 rfl (fun bd1 => ?_)
  have sz1 : n.size ≤ 9223372036854775807 := bd1
  refine jT rfl (oR 1 rfl (oZ rfl (jS rfl (jT rfl (oR 1 rfl (oP rfl (z1 (n := ns.length) rfl Tryz.runUnderlying23 (by simp only [lm, lc, ln])) (oR 1 rfl (oZ rfl (jB rfl (jl1 (fun (a_ : Nat) => [(0, .sh 1 (ns.map D.s)), (1, .s n), (7, dN ns.length), (8, dN a_)]) (fun a_ => []) (fun a_ => (idxN n 0 ns = idxN n a_ (ns.drop a_))) (fun a_ => ns.length - a_) 0 rfl (sa rfl) HSub.rfl' rfl ?_))))))))))
  rintro k hf
  refine ja rfl (jn rfl (jT rfl (oP rfl (zP rfl rfl rfl) (oZ rfl (jS rfl ?_)))))
  refine jD rfl (fun hc1 => ?_) (fun hc1 => ?_)
  · skip
    refine zk rfl (zd (jS rfl (jB rfl (jT rfl (oR 2 rfl (oZ rfl (jT rfl (oR 3 rfl ?_))))))))
    obtain ⟨x1, hx1⟩ := zy ns k (by omega)
    refine oP rfl (zo (k := k) rfl rfl Tryz.runUnderlying23 Tryz.sizeOf9 (by first | rfl | omega) (zf hx1)) (oP rfl (zz rfl Tryz.isAgg9 rfl) (oP rfl (za6 rfl rfl rfl) (oZ rfl ?_)))
    refine jD rfl (fun hc2 => ?_) (fun hc2 => ?_)
    · skip
      refine jT rfl (oR 2 rfl (oZ rfl (zm rfl (ze (zc (zJ (ze (zc ?_))))))))
      exact zj Tryz.results164 (.cons (zr (zg rfl) (Cv.eq (congrArg (fun n => D.v (.int .i64 n)) (by exact idxN_at hx1 hf hc2)))) .nil) rfl HSub.none ⟨rfl, rfl⟩
    · skip
      refine zk rfl (zw (zd (za rfl (oP rfl (zQ (c := ((k + 1 : Nat) : Int)) rfl rfl (zD (by omega) (by omega))) (oR 1 rfl (zi rfl ?_))))))
      exact pl1 (k + 1) (sa rfl) HSub.rfl' (idxN_next hx1 hf hc2) (by omega)
  · skip
    refine zK rfl (zp (zn (zl (zd (jT rfl (oR 1 rfl (oZ rfl (zm rfl ?_))))))))
    exact zj Tryz.results164 (.cons (zr (zg rfl) (Cv.eq (congrArg (fun n => D.v (.int .i64 n)) (by exact idxN_end (by omega) hf)))) .nil) rfl HSub.none ⟨rfl, rfl⟩

theorem containsS_c (ns : List ByteArray) (n : ByteArray)  :
    CD Tryz.prog 117 [] [.sh 1 (ns.map D.s), .s n] (isR (dB (hasN ns n))) := by
  refine zq Tryz.func117 rfl (N := 9) rfl rfl (fun C => ?_)
  refine jk [0, 1] rfl ?_
  refine JD.bd 0 rfl (fun bd0 => ?_)
  have nl0 := zO bd0
  refine JD.bd 1 rfl (fun bd1 => ?_)
  have sz1 : n.size ≤ 9223372036854775807 := bd1
  refine jT rfl (oR 1 rfl (oZ rfl (jT rfl (oR 2 rfl (oW rfl rfl acs Tryz.call164 (indexS_c ns n) (oP rfl (zS rfl rfl rfl) (oR 1 rfl (oZ rfl (zm rfl ?_)))))))))
  exact zj Tryz.results117 (.cons (zr (zg rfl) (Cv.eq (congrArg (fun b => D.v (.bool b)) (by exact idxN_has n ns 0)))) .nil) rfl HSub.none ⟨rfl, rfl⟩

end Lp
