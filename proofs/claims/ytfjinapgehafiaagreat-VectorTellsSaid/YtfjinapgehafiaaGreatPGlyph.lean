/- Walks, printed by a program of mine. -/
import Derived.Test.YtfjinapgehafiaaGreatV28R
set_option linter.unusedSimpArgs false
set_option linter.unusedVariables false
set_option maxHeartbeats 4000000
set_option maxRecDepth 100000
namespace Lp
open Go Go.RowKit Go.Proofs

namespace HdYtfjinapgehafiaaGreatV1
theorem zax (b o : Nat) : ∀ w, (Instr.fieldAt 62 (.pointer (some ⟨b, o, none⟩)) 0).run Tryz.prog w = .ok (.pointer (some ⟨b, o + 0, none⟩)) w := fun _ => by kernel_rfl
theorem za3 (b o : Nat) : ∀ w, (Instr.fieldAt 62 (.pointer (some ⟨b, o, none⟩)) 1).run Tryz.prog w = .ok (.pointer (some ⟨b, o + 1, none⟩)) w := fun _ => by kernel_rfl
end HdYtfjinapgehafiaaGreatV1
open HdYtfjinapgehafiaaGreatV1

theorem ext_cmpstring (a b : ByteArray) (w : World) : (callFunc 221 #[.string a, .string b]).run Tryz.prog w = .ok (.value (.int .i64 (cmpS a b))) w := by
  rw [run_callFunc_extern Tryz.func221 (by kernel_rfl) (by kernel_rfl) (by kernel_rfl) (e := Extern.BytealgCompare.compare) (by kernel_rfl), Lib.run_compareString]
  rfl

theorem p_cmpstring {ty : TypeId} {K : Kd} {H : List Hp} {x y : Operand} {ats : Array TypeId} {a b : ByteArray} (hx : opS K x = some a) (hy : opS K y = some b) : Pu Tryz.prog (.call { callee := .value (.func 221), args := #[x, y], argTypes := ats }) ty K H (dI (cmpS a b)) :=
  ⟨fun ρ w F hk _ _ => e_ext (vs := [.string a, .string b]) (zI ρ [x, y]) (by rw [show (#[x, y] : Array Operand).toList = [x, y] from rfl, zcF ρ [x, y] [x, y] (fun _ h => h)]; simp [hk.opS hx, hk.opS hy]) (ext_cmpstring a b) ⟨rfl, rfl⟩⟩

theorem CompareString_c (a : ByteArray) (b : ByteArray)  :
    CD Tryz.prog 203 [] [.s a, .s b] (isR (dI (cmpS a b))) := by
  refine zy Tryz.func203 rfl (N := 8) rfl rfl (fun C => ?_)
  refine jk [0, 1] rfl ?_
  refine JD.bd 0 rfl (fun bd0 => ?_)
  have sz0 : a.size ≤ 9223372036854775807 := bd0
  refine JD.bd 1 rfl (fun bd1 => ?_)
  have sz1 : b.size ≤ 9223372036854775807 := bd1
  refine jT rfl (oR 1 rfl (oZ rfl (jT rfl (oR 2 rfl (oP rfl (p_cmpstring rfl rfl) (oR 1 rfl (oZ rfl (zs rfl ?_))))))))
  exact zj Tryz.results203 (.cons (zB (zf rfl) (Cv.eq (congrArg (fun n => D.v (.int .i64 n)) (by rfl)))) .nil) rfl HSub.none ⟨rfl, rfl⟩

theorem Compare_c (a : ByteArray) (b : ByteArray)  :
    CD Tryz.prog 188 [] [.s a, .s b] (isR (dI (cmpS a b))) := by
  refine zy Tryz.func188 rfl (N := 8) rfl rfl (fun C => ?_)
  refine jk [0, 1] rfl ?_
  refine JD.bd 0 rfl (fun bd0 => ?_)
  have sz0 : a.size ≤ 9223372036854775807 := bd0
  refine JD.bd 1 rfl (fun bd1 => ?_)
  have sz1 : b.size ≤ 9223372036854775807 := bd1
  refine jT rfl (oR 1 rfl (oZ rfl (jT rfl (oR 2 rfl (oW rfl rfl acs Tryz.call203 (CompareString_c a b) (oR 1 rfl (oZ rfl (zs rfl ?_))))))))
  exact zj Tryz.results188 (.cons (zf rfl) .nil) rfl HSub.none ⟨rfl, rfl⟩

theorem Or_c (ns : List Int)  :
    CD Tryz.prog 146 [] [.sh 1 (ns.map dI)] (isR (dI (zbg ns))) := by
  refine zy Tryz.func146 rfl (N := 18) rfl rfl (fun C => ?_)
  refine jk [0] rfl ?_
  refine JD.bd 0 rfl (fun bd0 => ?_)
  have nl0 := zZ bd0
  refine jT rfl (oR 1 rfl (oZ rfl (jT rfl (oR 1 rfl (oZ rfl (jS rfl (jT rfl (oR 1 rfl (oP rfl (zae (n := ns.length) rfl Tryz.runUnderlying122 (by simp only [lm, lc, ln])) (oR 1 rfl (oZ rfl (jB rfl (jl1 (fun (a_ : Nat) => [(3, dI 0), (6, .sh 1 (ns.map dI)), (7, dN ns.length), (8, dN a_)]) (fun a_ => []) (fun a_ => (a_ ≤ ns.length) ∧ (zbg ns = zbg (ns.drop a_))) (fun a_ => ns.length - a_) 0 rfl (sa rfl) HSub.rfl' ⟨Nat.zero_le _, by simp⟩ ?_)))))))))))))
  rintro k ⟨hk, hf⟩
  refine ja rfl (jn rfl (jT rfl (oP rfl (zL rfl rfl rfl) (oZ rfl (jS rfl ?_)))))
  refine jD rfl (fun hc1 => ?_) (fun hc1 => ?_)
  · skip
    refine zq rfl (zc (jS rfl (jB rfl (jT rfl ?_))))
    obtain ⟨x1, hx1⟩ := zG ns k (by omega)
    refine oP rfl (zC (k := k) rfl rfl Tryz.runUnderlying122 Tryz.sizeOf3 (by first | rfl | omega) (zt hx1)) (oP rfl (zH rfl Tryz.isAgg3 rfl) (oR 1 rfl (oZ rfl (jT rfl (oR 2 rfl (oP rfl (zau rfl rfl rfl) (oZ rfl ?_)))))))
    refine jD rfl (fun hc2 => ?_) (fun hc2 => ?_)
    · skip
      refine jT rfl (oR 2 rfl (oZ rfl (zs rfl (zi (ze (zQ (zi (ze ?_))))))))
      exact zj Tryz.results146 (.cons (zB (zf rfl) (Cv.eq (congrArg (fun n => D.v (.int .i64 n)) (by exact (firstNZ_at hx1 hf (by assumption)).symm)))) .nil) rfl HSub.none ⟨rfl, rfl⟩
    · skip
      refine zq rfl (zw (zc (za rfl (oP rfl (zS (c := ((k + 1 : Nat) : Int)) rfl rfl (zF (by omega) (by omega))) (oR 1 rfl (zg rfl ?_))))))
      exact pl1 (k + 1) (sa rfl) HSub.rfl' ⟨by omega, firstNZ_next hx1 hf (by omega)⟩ (by omega)
  · skip
    refine zE rfl (zr (zn (zh (zc (jT rfl (oR 2 rfl (oZ rfl (zs rfl ?_))))))))
    exact zj Tryz.results146 (.cons (zB (zf rfl) (Cv.eq (congrArg (fun n => D.v (.int .i64 n)) (by rw [hf, List.drop_eq_nil_of_le (by omega)]; rfl)))) .nil) rfl HSub.none ⟨rfl, rfl⟩

theorem order_c (a : Lbl) (b : Lbl)  :
    CD Tryz.prog 154 [] [Lbl.d a, Lbl.d b] (isR (dI (zN a b))) := by
  refine zy Tryz.func154 rfl (N := 17) rfl rfl (fun C => ?_)
  refine jk [0, 1] rfl ?_
  refine JD.bd 0 rfl (fun bd0 => ?_)
  refine JD.bd 1 rfl (fun bd1 => ?_)
  refine jT rfl (oE rfl (zdj rfl (CellD.agg)) ?_)
  rintro _ _ ⟨g1, rfl, rfl⟩
  refine oE rfl (zdj rfl (CellD.agg)) ?_
  rintro _ _ ⟨g2, rfl, rfl⟩
  refine oR 1 rfl (oZ rfl (jS rfl (jk [0, 1, 2, 3, 4] rfl (jn rfl (z3 9 [(5, dP g1 0, none), (6, .s a.n, none), (7, dP g2 0, none), (8, .s b.n, none), (9, dI (cmpS a.n b.n), none), (10, dP g1 1, none), (11, .s a.v, none), (12, dP g2 1, none), (13, .s b.v, none)] [.bx g2 62 (Lbl.d b), .bx g1 62 (Lbl.d a)] (Hn := [.bx g2 62 (Lbl.d b), .bx g1 62 (Lbl.d a)]) zah rfl rfl rfl rfl HSub.rfl' rfl ⟨sa_p rfl rfl rfl (zl rfl zax rfl), sa_p rfl rfl rfl (zz rfl (i := 1) rfl Tryz.isAgg9 rfl), sa_p rfl rfl rfl (zl rfl zax rfl), sa_p rfl rfl rfl (zz rfl (i := 0) rfl Tryz.isAgg9 rfl), sa_q rfl rfl rfl (zbw rfl (.cons Cv.rfl' (.cons Cv.rfl' .nil)) Tryz.call188 (Compare_c a.n b.n) zbn), sa_p rfl rfl rfl (zl rfl za3 rfl), sa_p rfl rfl rfl (zz rfl (i := 1) rfl Tryz.isAgg9 rfl), sa_p rfl rfl rfl (zl rfl za3 rfl), sa_p rfl rfl rfl (zz rfl (i := 0) rfl Tryz.isAgg9 rfl), trivial⟩ (ok [0, 1, 2, 3, 4, 5, 6, 7, 8, 9, 10, 11, 12, 13] rfl (oW rfl rfl acs Tryz.call188 (Compare_c a.v b.v) (oE rfl (zJ [.tmp 9, .tmp 14] rfl rfl (.cons (CellD.v rfl) (.cons (CellD.v rfl) .nil)) rfl Tryz.runUnderlying122 Tryz.sizeOf3 Tryz.zeroValue3 rfl rfl rfl rfl) ?_))))))))
  rintro _ _ ⟨g3, rfl, rfl⟩
  refine oE rfl (zx [] _ [.sl (vS g3 2 2) 1 3 ([dI (cmpS a.n b.n), dI (cmpS a.v b.v)])] rfl rfl (.cons (ArgC.own (j := 0) rfl rfl) .nil) (zaf (j := 0) rfl zo) Tryz.call146 (Or_c [cmpS a.n b.n, cmpS a.v b.v]) (.inr (za5 rfl))) ?_
  rintro _ _ ⟨_, ⟨rfl, rfl⟩, rfl⟩
  refine on rfl (oR 1 rfl (oZ rfl (jk [4] rfl (zs rfl ?_))))
  exact zj Tryz.results154 (.cons (zB (zf rfl) (Cv.eq (congrArg (fun n => D.v (.int .i64 n)) (by rw [firstNZ_two]; rfl)))) .nil) rfl HSub.none ⟨rfl, rfl⟩

theorem CompareFunc_c (a b : List Lbl)  :
    CD Tryz.prog 153 [] [.sh 2 (a.map Lbl.d), .sh 2 (b.map Lbl.d), .fn 154 [] []] (isR (dI (z1 a b))) := by
  refine zy Tryz.func153 rfl (N := 39) rfl rfl (fun C => ?_)
  refine jk [0, 1, 2] rfl ?_
  refine JD.bd 0 rfl (fun bd0 => ?_)
  have nl0 := zZ bd0
  refine JD.bd 1 rfl (fun bd1 => ?_)
  have nl1 := zZ bd1
  refine jT rfl (oR 1 rfl (oZ rfl (jS rfl (jT rfl (oR 1 rfl (oP rfl (zae (n := a.length) rfl Tryz.runUnderlying50 (by simp only [lm, lc, ln])) (oR 1 rfl (oZ rfl (jB rfl (jl1 (fun (a_ : Nat) => [(0, .sh 2 (a.map Lbl.d)), (1, .sh 2 (b.map Lbl.d)), (2, .fn 154 [] []), (11, .sh 2 (a.map Lbl.d)), (12, dN a.length), (13, dN a_)]) (fun a_ => []) (fun a_ => (a_ ≤ a.length) ∧ (z1 a b = z1 (a.drop a_) (b.drop a_))) (fun a_ => a.length - a_) 0 rfl (sa rfl) HSub.rfl' ⟨Nat.zero_le _, by simp⟩ ?_))))))))))
  rintro k ⟨hk, hf⟩
  refine ja rfl (jn rfl (jT rfl (oP rfl (zL rfl rfl rfl) (oZ rfl (jS rfl ?_)))))
  refine jD rfl (fun hc1 => ?_) (fun hc1 => ?_)
  · skip
    refine zq rfl (zc (jS rfl (jB rfl (jT rfl (oR 1 rfl ?_)))))
    obtain ⟨x1, hx1⟩ := zG a k (by omega)
    refine oP rfl (zC (k := k) rfl rfl Tryz.runUnderlying50 Tryz.sizeOf62 (by first | rfl | omega) (zt hx1)) (oP rfl (zar (d := Lbl.d x1) rfl Tryz.isAgg62 Tryz.sizeOf62 rfl rfl) (oE rfl (zaL (zv := (.agg #[(.string ByteArray.empty), (.string ByteArray.empty)])) Tryz.zeroValue62 ⟨rfl, rfl, trivial⟩ (Cv.vagg (by decide))) ?_))
    rintro _ _ ⟨g2, rfl, rfl⟩
    refine oR 1 rfl (oE rfl (z4 (i := 0) (X' := Lbl.d x1) rfl rfl rfl (CellD.agg) Tryz.sizeOf62 rfl rfl rfl) ?_)
    rintro _ _ ⟨rfl, rfl⟩
    refine on rfl (oZ rfl (jS rfl (jT rfl (oR 2 rfl (oP rfl (zae (n := b.length) rfl Tryz.runUnderlying50 (by simp only [lm, lc, ln])) (oP rfl (z8 rfl rfl rfl) (oZ rfl ?_)))))))
    refine jD rfl (fun hc3 => ?_) (fun hc3 => ?_)
    · skip
      refine jT rfl (oR 1 rfl (oZ rfl (zs rfl (ze (zi (ze (zQ (zi (ze ?_)))))))))
      exact zj Tryz.results153 (.cons (zB (zf rfl) (Cv.eq (congrArg (fun n => D.v (.int .i64 n)) (by exact (cmpLs_right hx1 (by omega) hf).symm)))) .nil) rfl HSub.none ⟨rfl, rfl⟩
    · skip
      refine zq rfl (zc (jT rfl (oR 2 rfl ?_)))
      obtain ⟨x2, hx2⟩ := zG b k (by omega)
      refine oP rfl (zC (k := k) rfl rfl Tryz.runUnderlying50 Tryz.sizeOf62 (by first | rfl | omega) (zt hx2)) (oP rfl (zar (d := Lbl.d x2) rfl Tryz.isAgg62 Tryz.sizeOf62 rfl rfl) (oE rfl (zaL (zv := (.agg #[(.string ByteArray.empty), (.string ByteArray.empty)])) Tryz.zeroValue62 ⟨rfl, rfl, trivial⟩ (Cv.vagg (by decide))) ?_))
      rintro _ _ ⟨g4, rfl, rfl⟩
      refine oE rfl (z4 (i := 0) (X' := Lbl.d x2) rfl rfl rfl (CellD.agg) Tryz.sizeOf62 rfl rfl rfl) ?_
      rintro _ _ ⟨rfl, rfl⟩
      refine on rfl (oZ rfl (jT rfl (oR 1 rfl (oP rfl (za0 (d := Lbl.d x1) rfl (i := 1) rfl Tryz.isAgg62 Tryz.sizeOf62 rfl rfl) (oP rfl (za0 (d := Lbl.d x2) rfl (i := 0) rfl Tryz.isAgg62 Tryz.sizeOf62 rfl rfl) (oE rfl (zdd [] _ [] rfl rfl rfl (.cons ArgC.id (.cons ArgC.id .nil)) zo Tryz.call154 (order_c x1 x2) (.inl rfl)) ?_))))))
      rintro _ _ ⟨_, ⟨rfl, rfl⟩, rfl⟩
      refine on rfl (oR 1 rfl (oZ rfl (jT rfl (oR 1 rfl (oP rfl (zau rfl rfl rfl) (oZ rfl ?_))))))
      refine jD rfl (fun hc5 => ?_) (fun hc5 => ?_)
      · skip
        refine jT rfl (oR 2 rfl (oZ rfl (zs rfl (zi (ze (zQ (zi (ze ?_))))))))
        exact zj Tryz.results153 (.cons (zB (zf rfl) (Cv.eq (congrArg (fun n => D.v (.int .i64 n)) (by exact (cmpLs_at hx1 hx2 hf (by assumption)).symm)))) .nil) rfl HSub.none ⟨rfl, rfl⟩
      · skip
        refine zq rfl (zw (zc (za rfl (oP rfl (zS (c := ((k + 1 : Nat) : Int)) rfl rfl (zF (by omega) (by omega))) (oR 1 rfl (zg rfl ?_))))))
        exact pl1 (k + 1) (sa rfl) HSub.none ⟨by omega, cmpLs_next hx1 hx2 hf (by omega)⟩ (by omega)
  · skip
    refine zE rfl (zr (zn (zh (zc (jS rfl (jT rfl (oR 1 rfl (oP rfl (zae (n := a.length) rfl Tryz.runUnderlying50 (by simp only [lm, lc, ln])) (oR 1 rfl (oP rfl (zae (n := b.length) rfl Tryz.runUnderlying50 (by simp only [lm, lc, ln])) (oP rfl (zL rfl rfl rfl) (oZ rfl (jk [38] rfl ?_)))))))))))))
    refine jD rfl (fun hc6 => ?_) (fun hc6 => ?_)
    · skip
      refine jT rfl (oR 1 rfl (oZ rfl (zs rfl (ze ?_))))
      exact zj Tryz.results153 (.cons (zB (zf rfl) (Cv.eq (congrArg (fun n => D.v (.int .i64 n)) (by rw [cmpLs_end (by omega) hf (by omega)]; first | rw [if_pos (by omega)] | rw [if_neg (by omega)])))) .nil) rfl HSub.none ⟨rfl, rfl⟩
    · skip
      refine zq rfl (zc (jT rfl (oR 1 rfl (oZ rfl (zs rfl ?_)))))
      exact zj Tryz.results153 (.cons (zB (zf rfl) (Cv.eq (congrArg (fun n => D.v (.int .i64 n)) (by rw [cmpLs_end (by omega) hf (by omega)]; first | rw [if_pos (by omega)] | rw [if_neg (by omega)])))) .nil) rfl HSub.none ⟨rfl, rfl⟩

theorem Compare2_c (a : List Lbl) (b : List Lbl)  :
    CD Tryz.prog 106 [] [.sh 2 (a.map Lbl.d), .sh 2 (b.map Lbl.d)] (isR (dI (z1 a b))) := by
  refine zy Tryz.func106 rfl (N := 8) rfl rfl (fun C => ?_)
  refine jk [0, 1] rfl ?_
  refine JD.bd 0 rfl (fun bd0 => ?_)
  have nl0 := zZ bd0
  refine JD.bd 1 rfl (fun bd1 => ?_)
  have nl1 := zZ bd1
  refine jT rfl (oR 1 rfl (oZ rfl (jT rfl (oR 2 rfl (oW rfl rfl acs Tryz.call153 (CompareFunc_c a b) (oR 1 rfl (oZ rfl (zs rfl ?_))))))))
  exact zj Tryz.results106 (.cons (zf rfl) .nil) rfl HSub.none ⟨rfl, rfl⟩

theorem texts_c (a : ByteArray) (b : ByteArray)  :
    CD Tryz.prog 120 [] [.s a, .s b] (isR (dI (cmpS a b))) := by
  refine zy Tryz.func120 rfl (N := 13) rfl rfl (fun C => ?_)
  refine jk [0, 1] rfl ?_
  refine JD.bd 0 rfl (fun bd0 => ?_)
  have sz0 : a.size ≤ 9223372036854775807 := bd0
  refine JD.bd 1 rfl (fun bd1 => ?_)
  have sz1 : b.size ≤ 9223372036854775807 := bd1
  refine jT rfl (oR 1 rfl (oZ rfl (jS rfl (jB rfl (jT rfl (oR 2 rfl (oP rfl (p_lts rfl rfl rfl) (oR 1 rfl (oZ rfl ?_)))))))))
  refine jD rfl (fun hc1 => ?_) (fun hc1 => ?_)
  · skip
    refine jT rfl (oR 1 rfl (oZ rfl (zs rfl (zi (ze ?_)))))
    exact zj Tryz.results120 (.cons (zB (zf rfl) (Cv.eq (congrArg (fun n => D.v (.int .i64 n)) (by rcases cmpS_cases a b with h | h | h <;> rw [h] <;> omega)))) .nil) rfl HSub.none ⟨rfl, rfl⟩
  · skip
    refine jT rfl (oR 2 rfl (oP rfl (p_gts rfl rfl rfl) (oR 1 rfl (oZ rfl (jk [4, 9] rfl ?_)))))
    refine jD rfl (fun hc2 => ?_) (fun hc2 => ?_)
    · skip
      refine jT rfl (oR 1 rfl (oZ rfl (zs rfl (zi (ze ?_)))))
      exact zj Tryz.results120 (.cons (zB (zf rfl) (Cv.eq (congrArg (fun n => D.v (.int .i64 n)) (by rcases cmpS_cases a b with h | h | h <;> rw [h] <;> omega)))) .nil) rfl HSub.none ⟨rfl, rfl⟩
    · skip
      refine zq rfl (zw (zc (jT rfl (oR 1 rfl (oZ rfl (zs rfl ?_))))))
      exact zj Tryz.results120 (.cons (zB (zf rfl) (Cv.eq (congrArg (fun n => D.v (.int .i64 n)) (by rcases cmpS_cases a b with h | h | h <;> rw [h] <;> omega)))) .nil) rfl HSub.none ⟨rfl, rfl⟩

theorem zb7 (a : List Lbl) (b : List Lbl)  :
    CD Tryz.prog 54 [] [.sh 2 (a.map Lbl.d), .sh 2 (b.map Lbl.d)] (isR (dI (z1 a b))) := by
  refine zy Tryz.func54 rfl (N := 58) rfl rfl (fun C => ?_)
  refine jk [0, 1] rfl ?_
  refine JD.bd 0 rfl (fun bd0 => ?_)
  have nl0 := zZ bd0
  refine JD.bd 1 rfl (fun bd1 => ?_)
  have nl1 := zZ bd1
  refine jT rfl (oR 1 rfl (oZ rfl (jS rfl (jT rfl (oR 1 rfl (oZ rfl (jB rfl (jl1 (fun (a_ : Nat) => [(0, .sh 2 (a.map Lbl.d)), (1, .sh 2 (b.map Lbl.d)), (5, dN a_)]) (fun a_ => []) (fun a_ => (a_ ≤ a.length) ∧ (a_ ≤ b.length) ∧ (z1 a b = z1 (a.drop a_) (b.drop a_))) (fun a_ => a.length - a_) 0 rfl (sa rfl) HSub.rfl' ⟨Nat.zero_le _, Nat.zero_le _, by simp⟩ ?_))))))))
  rintro k ⟨hk, hk2, hf⟩
  refine ja rfl (jn rfl (jS rfl (jS rfl (jk [0, 1, 5] rfl ?_))))
  refine zab 16 ((decide (((k : Nat) : Int) < ((a.length : Nat) : Int)) && decide (((k : Nat) : Int) < ((b.length : Nat) : Int)))) [] (fun _ hQ1 => ?_) ?_
  · skip
    by_cases hg2 : ((k : Nat) : Int) < ((a.length : Nat) : Int)
    · skip
      refine za rfl (oR 2 rfl (oP rfl (zae (n := a.length) rfl Tryz.runUnderlying50 (by simp only [lm, lc, ln])) (oP rfl (zL rfl rfl (decide_eq_true hg2)) (oR 3 rfl (oG rfl (zae (n := b.length) rfl Tryz.runUnderlying50 (by simp only [lm, lc, ln])) (oG rfl (zL rfl rfl rfl) (oR 1 rfl (zg rfl ?_))))))))
      exact PD.sub ((16, dB (decide (((k : Nat) : Int) < ((a.length : Nat) : Int)) && decide (((k : Nat) : Int) < ((b.length : Nat) : Int)))) :: [(0, .sh 2 (a.map Lbl.d)), (1, .sh 2 (b.map Lbl.d)), (5, dN k)]) ⟨sc rfl (Cv.eq (congrArg (fun b => D.v (.bool b)) (by first | (simp [hg2]; done) | (simp_all; done)))), sk rfl, sk rfl, sk rfl, trivial⟩ hQ1
    · skip
      refine za rfl (oR 2 rfl (oP rfl (zae (n := a.length) rfl Tryz.runUnderlying50 (by simp only [lm, lc, ln])) (oP rfl (zL rfl rfl (decide_eq_false hg2)) (oR 6 rfl (zg rfl ?_)))))
      exact PD.sub ((16, dB (decide (((k : Nat) : Int) < ((a.length : Nat) : Int)) && decide (((k : Nat) : Int) < ((b.length : Nat) : Int)))) :: [(0, .sh 2 (a.map Lbl.d)), (1, .sh 2 (b.map Lbl.d)), (5, dN k)]) ⟨sc rfl (Cv.eq (congrArg (fun b => D.v (.bool b)) (by first | (simp [hg2]; done) | (simp_all; done)))), sk rfl, sk rfl, sk rfl, trivial⟩ hQ1
  · skip
    refine zc ?_
    refine jC rfl (fun hc3 => ?_) (fun hc3 => ?_)
    · simp only [bA, bB, bC, bD, bE, bF, bG, bH, bI, bJ] at hc3
      refine zq rfl (zc (jS rfl (jB rfl (jS rfl (jk [0, 1, 5, 16] rfl (jn rfl ?_))))))
      obtain ⟨x1, hx1⟩ := zG a k (by omega)
      obtain ⟨x2, hx2⟩ := zG b k (by omega)
      refine z3 10 [(19, .sh 2 (a.map Lbl.d), none), (20, dN k, none), (21, .el (Lbl.d x1) 0, none), (22, .el (Lbl.d x1) 0, none), (23, .s x1.n, none), (24, .sh 2 (b.map Lbl.d), none), (25, dN k, none), (26, .el (Lbl.d x2) 0, none), (27, .el (Lbl.d x2) 0, none), (28, .s x2.n, none)] [] (Hn := []) zah rfl rfl rfl rfl HSub.rfl' rfl ⟨sa_p rfl rfl rfl (zm rfl), sa_p rfl rfl rfl (zm rfl), sa_p rfl rfl rfl (zC (k := k) rfl rfl Tryz.runUnderlying50 Tryz.sizeOf62 (by first | rfl | omega) (zt hx1)), sa_p rfl rfl rfl (zD rfl zax rfl), sa_p rfl rfl rfl (zH rfl Tryz.isAgg9 rfl), sa_p rfl rfl rfl (zm rfl), sa_p rfl rfl rfl (zm rfl), sa_p rfl rfl rfl (zC (k := k) rfl rfl Tryz.runUnderlying50 Tryz.sizeOf62 (by first | rfl | omega) (zt hx2)), sa_p rfl rfl rfl (zD rfl zax rfl), sa_p rfl rfl rfl (zH rfl Tryz.isAgg9 rfl), trivial⟩ (ok [0, 1, 5, 16, 19, 20, 21, 22, 23, 24, 25, 26, 27, 28] rfl (oW rfl rfl acs Tryz.call120 (texts_c x1.n x2.n) (oR 1 rfl (oZ rfl (jS rfl (jT rfl (oR 1 rfl (oP rfl (zV rfl rfl rfl) (oZ rfl ?_)))))))))
      refine jD rfl (fun hc4 => ?_) (fun hc4 => ?_)
      · skip
        refine jk [0, 1, 5, 6, 16, 19, 20, 21, 22, 23, 24, 25, 26, 27, 28, 29, 30, 31] rfl (jn rfl (z3 10 [(32, .sh 2 (a.map Lbl.d), none), (33, dN k, none), (34, .el (Lbl.d x1) 0, none), (35, .el (Lbl.d x1) 1, none), (36, .s x1.v, none), (37, .sh 2 (b.map Lbl.d), none), (38, dN k, none), (39, .el (Lbl.d x2) 0, none), (40, .el (Lbl.d x2) 1, none), (41, .s x2.v, none)] [] (Hn := []) zah rfl rfl rfl rfl HSub.rfl' rfl ⟨sa_p rfl rfl rfl (zm rfl), sa_p rfl rfl rfl (zm rfl), sa_p rfl rfl rfl (zC (k := k) rfl rfl Tryz.runUnderlying50 Tryz.sizeOf62 (by first | rfl | omega) (zt hx1)), sa_p rfl rfl rfl (zD rfl za3 rfl), sa_p rfl rfl rfl (zH rfl Tryz.isAgg9 rfl), sa_p rfl rfl rfl (zm rfl), sa_p rfl rfl rfl (zm rfl), sa_p rfl rfl rfl (zC (k := k) rfl rfl Tryz.runUnderlying50 Tryz.sizeOf62 (by first | rfl | omega) (zt hx2)), sa_p rfl rfl rfl (zD rfl za3 rfl), sa_p rfl rfl rfl (zH rfl Tryz.isAgg9 rfl), trivial⟩ (ok [0, 1, 5, 6, 16, 19, 20, 21, 22, 23, 24, 25, 26, 27, 28, 29, 30, 31, 32, 33, 34, 35, 36, 37, 38, 39, 40, 41] rfl (oW rfl rfl acs Tryz.call120 (texts_c x1.v x2.v) (oR 1 rfl (oZ rfl (jT rfl (oR 1 rfl (oP rfl (zau rfl rfl rfl) (oZ rfl ?_))))))))))
        refine jD rfl (fun hc5 => ?_) (fun hc5 => ?_)
        · skip
          refine jT rfl (oR 2 rfl (oZ rfl (zs rfl (zi (ze (zQ (zi (ze ?_))))))))
          exact zj Tryz.results54 (.cons (zB (zf rfl) (Cv.eq (congrArg (fun n => D.v (.int .i64 n)) (by rw [cmpLs_at hx1 hx2 hf (by unfold zN or2; split <;> omega)]; unfold zN or2; first | rw [if_pos (by omega)] | rw [if_neg (by omega)])))) .nil) rfl HSub.none ⟨rfl, rfl⟩
        · skip
          refine zq rfl (zw (zc (za rfl (oR 1 rfl (oP rfl (zS (c := ((k + 1 : Nat) : Int)) rfl rfl (zF (by omega) (by omega))) (oR 1 rfl (zg rfl ?_)))))))
          exact pl1 (k + 1) (sa rfl) HSub.rfl' ⟨by omega, by omega, cmpLs_next hx1 hx2 hf (by unfold zN or2; split <;> omega)⟩ (by omega)
      · skip
        refine zq rfl (zc (jT rfl (oR 1 rfl (oP rfl (zau rfl rfl rfl) (oZ rfl ?_)))))
        refine jD rfl (fun hc6 => ?_) (fun hc6 => ?_)
        · skip
          refine jT rfl (oR 2 rfl (oZ rfl (zs rfl (zi (ze (zQ (zi (ze ?_))))))))
          exact zj Tryz.results54 (.cons (zB (zf rfl) (Cv.eq (congrArg (fun n => D.v (.int .i64 n)) (by rw [cmpLs_at hx1 hx2 hf (by unfold zN or2; split <;> omega)]; unfold zN or2; first | rw [if_pos (by omega)] | rw [if_neg (by omega)])))) .nil) rfl HSub.none ⟨rfl, rfl⟩
        · skip
          refine zq rfl (zw (zc (za rfl (oR 1 rfl (oP rfl (zS (c := ((k + 1 : Nat) : Int)) rfl rfl (zF (by omega) (by omega))) (oR 1 rfl (zg rfl ?_)))))))
          exact pl1 (k + 1) (sa rfl) HSub.rfl' ⟨by omega, by omega, cmpLs_next hx1 hx2 hf (by unfold zN or2; split <;> omega)⟩ (by omega)
    · simp only [bA, bB, bC, bD, bE, bF, bG, bH, bI, bJ] at hc3
      refine zE rfl (zr (zn (zh (zc (jS rfl (jB rfl (jT rfl (oR 1 rfl (oP rfl (zae (n := a.length) rfl Tryz.runUnderlying50 (by simp only [lm, lc, ln])) (oR 1 rfl (oP rfl (zae (n := b.length) rfl Tryz.runUnderlying50 (by simp only [lm, lc, ln])) (oP rfl (zL rfl rfl rfl) (oR 1 rfl (oZ rfl ?_))))))))))))))
      refine jD rfl (fun hc7 => ?_) (fun hc7 => ?_)
      · skip
        refine jT rfl (oR 1 rfl (oZ rfl (jk [4] rfl (zs rfl (zi (ze ?_))))))
        exact zj Tryz.results54 (.cons (zB (zf rfl) (Cv.eq (congrArg (fun n => D.v (.int .i64 n)) (by rw [hf]; first | rw [cmpLs_nil (by omega) (by omega) (by omega)] | rw [cmpLs_nil_l (by omega) (by omega)] | rw [cmpLs_nil_r (by omega) (by omega)])))) .nil) rfl HSub.none ⟨rfl, rfl⟩
      · skip
        refine jT rfl (oR 1 rfl (oP rfl (zae (n := a.length) rfl Tryz.runUnderlying50 (by simp only [lm, lc, ln])) (oR 1 rfl (oP rfl (zae (n := b.length) rfl Tryz.runUnderlying50 (by simp only [lm, lc, ln])) (oP rfl (zaz rfl rfl rfl) (oR 1 rfl (oZ rfl (jk [52] rfl ?_))))))))
        refine jD rfl (fun hc8 => ?_) (fun hc8 => ?_)
        · skip
          refine jT rfl (oR 1 rfl (oZ rfl (zs rfl (zi (ze ?_)))))
          exact zj Tryz.results54 (.cons (zB (zf rfl) (Cv.eq (congrArg (fun n => D.v (.int .i64 n)) (by rw [hf]; first | rw [cmpLs_nil (by omega) (by omega) (by omega)] | rw [cmpLs_nil_l (by omega) (by omega)] | rw [cmpLs_nil_r (by omega) (by omega)])))) .nil) rfl HSub.none ⟨rfl, rfl⟩
        · skip
          refine zq rfl (zw (zc (jT rfl (oR 1 rfl (oZ rfl (zs rfl ?_))))))
          exact zj Tryz.results54 (.cons (zB (zf rfl) (Cv.eq (congrArg (fun n => D.v (.int .i64 n)) (by rw [hf]; first | rw [cmpLs_nil (by omega) (by omega) (by omega)] | rw [cmpLs_nil_l (by omega) (by omega)] | rw [cmpLs_nil_r (by omega) (by omega)])))) .nil) rfl HSub.none ⟨rfl, rfl⟩
end Lp
/-
  Runes and names, as data.
-/
set_option linter.unusedVariables false
namespace Lp
open Go

def zag (r : Int) : Int :=
  if r < 0 ∨ r = 65533 then 0 else if (97 ≤ r ∧ r ≤ 122) ∨ (65 ≤ r ∧ r ≤ 90) ∨ r = 95 ∨ 128 ≤ r then 1 else if 48 ≤ r ∧ r ≤ 57 then 2 else if r = 32 ∨ r = 9 ∨ r = 10 then 3 else 4
abbrev dR (n : Int) : D := .v (.int .i32 n)
def zcQ : Nat → List Int → Bool
  | n, [] => decide (1 ≤ n) && decide (n ≤ 30)
  | n, r :: rs => if zag r ≠ 1 ∧ (zag r ≠ 2 ∨ n = 0) then false else zcQ (n + 1) rs
def zb8 (s : ByteArray) : Bool := zcQ 0 (zaZ s)
theorem nameR_bad {n : Nat} {r : Int} {rs : List Int} (h : zag r ≠ 1 ∧ (zag r ≠ 2 ∨ n = 0)) : zcQ n (r :: rs) = false := by unfold zcQ; rw [if_pos h]
theorem nameR_next {n : Nat} {r : Int} {rs : List Int} (h : ¬ (zag r ≠ 1 ∧ (zag r ≠ 2 ∨ n = 0))) : zcQ n (r :: rs) = zcQ (n + 1) rs := by
  show (if zag r ≠ 1 ∧ (zag r ≠ 2 ∨ n = 0) then false else zcQ (n + 1) rs) = _
  rw [if_neg h]
/-- all are letters or digits -/
def zcT (rs : List Int) : Bool := rs.all fun r => decide (zag r = 1 ∨ zag r = 2)
theorem wordR_cons {r : Int} {rs : List Int} : zcT (r :: rs) = (decide (zag r = 1 ∨ zag r = 2) && zcT rs) := rfl
theorem nameR_word : ∀ (rs : List Int) (n : Nat), 1 ≤ n → zcQ n rs = (zcT rs && decide (n + rs.length ≤ 30))
  | [], n, h => by simp [zcQ, zcT, h]
  | r :: rs, n, h => by
    by_cases hr : zag r = 1 ∨ zag r = 2
    · rw [nameR_next (by omega), nameR_word rs (n + 1) (by omega), wordR_cons, decide_eq_true hr, Bool.true_and]
      congr 1; rw [decide_eq_decide, List.length_cons]; omega
    · rw [nameR_bad (by omega), wordR_cons, decide_eq_false hr]; rfl
theorem zb2 (rs : List Int) : zcQ 0 rs = (decide (1 ≤ rs.length) && decide (rs.length ≤ 30) && decide (zag (rs.getD 0 0) = 1) && zcT rs) := by
  cases rs with
  | nil => simp [zcQ]
  | cons r rs =>
    by_cases hr : zag r = 1
    · rw [nameR_next (by omega), nameR_word rs 1 (by omega), wordR_cons, decide_eq_true (show zag r = 1 ∨ zag r = 2 from .inl hr), Bool.true_and, Bool.and_comm (zcT rs)]
      have e1 : decide (zag ((r :: rs).getD 0 0) = 1) = true := decide_eq_true hr
      rw [e1, Bool.and_true]
      congr 1
      rw [Bool.eq_iff_iff]; simp [Nat.add_comm]
    · rw [nameR_bad (by omega)]
      have e1 : decide (zag ((r :: rs).getD 0 0) = 1) = false := decide_eq_false hr
      rw [e1, Bool.and_false]; rfl
theorem wordR_take {rs : List Int} {k : Nat} {x : Int} (hx : rs[k]? = some x) (h : zcT (rs.take k) = true) (hk : zag x = 1 ∨ zag x = 2) : zcT (rs.take (k + 1)) = true := by
  unfold zcT at *; exact zbR hx h (by simpa using hk)
theorem wordR_bad {rs : List Int} {k : Nat} {x : Int} (hx : rs[k]? = some x) (hk : ¬ (zag x = 1 ∨ zag x = 2)) : zcT rs = false := by
  unfold zcT; rw [List.all_eq_false]; exact ⟨x, List.mem_of_getElem? hx, by simpa using hk⟩
end Lp
