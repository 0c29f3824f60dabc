/- Walks, printed by a program of mine. -/
import Derived.Lib.AppendStr
import Derived.Lib.UnsafeStr
import Derived.Test.YtfjinapgehafiaaGreatDZ
set_option linter.unusedSimpArgs false
set_option linter.unusedVariables false
set_option maxHeartbeats 4000000
set_option maxRecDepth 100000
namespace Lp
open Go Go.RowKit Go.Proofs

namespace HdYtfjinapgehafiaaGreatV1
theorem zaa (b o : Nat) : ∀ w, (Instr.fieldAt 62 (.pointer (some ⟨b, o, none⟩)) 0).run Tryz.prog w = .ok (.pointer (some ⟨b, o + 0, none⟩)) w := fun _ => by kernel_rfl
theorem zat (b o : Nat) : ∀ w, (Instr.fieldAt 62 (.pointer (some ⟨b, o, none⟩)) 1).run Tryz.prog w = .ok (.pointer (some ⟨b, o + 1, none⟩)) w := fun _ => by kernel_rfl
end HdYtfjinapgehafiaaGreatV1
open HdYtfjinapgehafiaaGreatV1

theorem ext_cmpstring (a b : ByteArray) (w : World) : (callFunc 221 #[.string a, .string b]).run Tryz.prog w = .ok (.value (.int .i64 (cmpS a b))) w := by
  rw [run_callFunc_extern Tryz.func221 (by kernel_rfl) (by kernel_rfl) (by kernel_rfl) (e := Extern.BytealgCompare.compare) (by kernel_rfl), Lib.run_compareString]
  rfl

theorem p_cmpstring {ty : TypeId} {K : Kd} {H : List Hp} {x y : Operand} {ats : Array TypeId} {a b : ByteArray} (hx : opS K x = some a) (hy : opS K y = some b) : Pu Tryz.prog (.call { callee := .value (.func 221), args := #[x, y], argTypes := ats }) ty K H (dI (cmpS a b)) :=
  ⟨fun ρ w F hk _ _ => e_ext (vs := [.string a, .string b]) (zy ρ [x, y]) (by rw [show (#[x, y] : Array Operand).toList = [x, y] from rfl, zcu ρ [x, y] [x, y] (fun _ h => h)]; simp [hk.opS hx, hk.opS hy]) (ext_cmpstring a b) ⟨rfl, rfl⟩⟩

theorem CompareString_c (a : ByteArray) (b : ByteArray)  :
    CD Tryz.prog 203 [] [.s a, .s b] (isR (dI (cmpS a b))) := by
  refine zr Tryz.func203 rfl (N := 8) rfl rfl (fun C => ?_)
  refine jk [0, 1] rfl ?_
  refine JD.bd 0 rfl (fun bd0 => ?_)
  have sz0 : a.size ≤ 9223372036854775807 := bd0
  refine JD.bd 1 rfl (fun bd1 => ?_)
  have sz1 : b.size ≤ 9223372036854775807 := bd1
  refine jT rfl (oR 1 rfl (oZ rfl (jT rfl (oR 2 rfl (oP rfl (p_cmpstring rfl rfl) (oR 1 rfl (oZ rfl (zm rfl ?_))))))))
  exact zj Tryz.results203 (.cons (zs (zh rfl) (Cv.eq (congrArg (fun n => D.v (.int .i64 n)) (by rfl)))) .nil) rfl HSub.none ⟨rfl, rfl⟩

theorem Compare_c (a : ByteArray) (b : ByteArray)  :
    CD Tryz.prog 188 [] [.s a, .s b] (isR (dI (cmpS a b))) := by
  refine zr Tryz.func188 rfl (N := 8) rfl rfl (fun C => ?_)
  refine jk [0, 1] rfl ?_
  refine JD.bd 0 rfl (fun bd0 => ?_)
  have sz0 : a.size ≤ 9223372036854775807 := bd0
  refine JD.bd 1 rfl (fun bd1 => ?_)
  have sz1 : b.size ≤ 9223372036854775807 := bd1
  refine jT rfl (oR 1 rfl (oZ rfl (jT rfl (oR 2 rfl (oW rfl rfl acs Tryz.call203 (CompareString_c a b) (oR 1 rfl (oZ rfl (zm rfl ?_))))))))
  exact zj Tryz.results188 (.cons (zh rfl) .nil) rfl HSub.none ⟨rfl, rfl⟩

theorem isNaN_c (x : Int)  :
    CD Tryz.prog 183 [] [dI x] (isR (dB false)) := by
  refine zr Tryz.func183 rfl (N := 6) rfl rfl (fun C => ?_)
  refine jk [0] rfl (jT rfl (oR 1 rfl (oZ rfl (jT rfl (oR 2 rfl (oP rfl (zbX rfl rfl (decide_eq_false (fun h => h rfl))) (oR 1 rfl (oZ rfl (zm rfl ?_)))))))))
  exact zj Tryz.results183 (.cons (zh rfl) .nil) rfl HSub.none ⟨rfl, rfl⟩

theorem cmpI_c (x : Int) (y : Int)  :
    CD Tryz.prog 147 [] [dI x, dI y] (isR (dI (cmpI x y))) := by
  refine zr Tryz.func147 rfl (N := 20) rfl rfl (fun C => ?_)
  refine jk [0, 1] rfl (jT rfl (oR 1 rfl (oZ rfl (jT rfl (oR 1 rfl (oW rfl rfl acs Tryz.call183 (isNaN_c x) (oR 1 rfl (oZ rfl (jT rfl (oR 1 rfl (oW rfl rfl acs Tryz.call183 (isNaN_c y) (oR 1 rfl (oZ rfl (jS rfl (jT rfl (oR 1 rfl (oZ rfl (jCf rfl (zk rfl (zc (jS rfl (jT rfl (oR 1 rfl (oZ rfl (jCf rfl (zk rfl (zc (jS rfl (jT rfl (oR 2 rfl (oP rfl (zP rfl rfl rfl) (oZ rfl (jk [0, 1, 4, 16] rfl ?_)))))))))))))))))))))))))))))))))
  refine jD rfl (fun hc1 => ?_) (fun hc1 => ?_)
  · skip
    refine jT rfl (oR 1 rfl (oZ rfl (zm rfl (zd ?_))))
    exact zj Tryz.results147 (.cons (zs (zh rfl) (Cv.eq (congrArg (fun n => D.v (.int .i64 n)) (by unfold cmpI; simp [*])))) .nil) rfl HSub.none ⟨rfl, rfl⟩
  · skip
    refine zk rfl (zc (jS rfl (jT rfl (oR 2 rfl (oP rfl (zao rfl rfl rfl) (oZ rfl ?_))))))
    refine jD rfl (fun hc2 => ?_) (fun hc2 => ?_)
    · skip
      refine jT rfl (oR 1 rfl (oZ rfl (zm rfl (zd ?_))))
      exact zj Tryz.results147 (.cons (zs (zh rfl) (Cv.eq (congrArg (fun n => D.v (.int .i64 n)) (by unfold cmpI; simp [*])))) .nil) rfl HSub.none ⟨rfl, rfl⟩
    · skip
      refine zk rfl (zc (jT rfl (oR 1 rfl (oZ rfl (zm rfl ?_)))))
      exact zj Tryz.results147 (.cons (zs (zh rfl) (Cv.eq (congrArg (fun n => D.v (.int .i64 n)) (by unfold cmpI; simp [*])))) .nil) rfl HSub.none ⟨rfl, rfl⟩

theorem Or_c (ns : List Int)  :
    CD Tryz.prog 146 [] [.sh 1 (ns.map dI)] (isR (dI (zaP ns))) := by
  refine zr Tryz.func146 rfl (N := 18) rfl rfl (fun C => ?_)
  refine jk [0] rfl ?_
  refine JD.bd 0 rfl (fun bd0 => ?_)
  have nl0 := zO bd0
  refine jT rfl (oR 1 rfl (oZ rfl (jT rfl (oR 1 rfl (oZ rfl (jS rfl (jT rfl (oR 1 rfl (oP rfl (z1 (n := ns.length) rfl Tryz.runUnderlying122 (by simp only [lm, lc, ln])) (oR 1 rfl (oZ rfl (jB rfl (jl1 (fun (a_ : Nat) => [(3, dI 0), (6, .sh 1 (ns.map dI)), (7, dN ns.length), (8, dN a_)]) (fun a_ => []) (fun a_ => (a_ ≤ ns.length) ∧ (zaP ns = zaP (ns.drop a_))) (fun a_ => ns.length - a_) 0 rfl (sa rfl) HSub.rfl' ⟨Nat.zero_le _, by simp⟩ ?_)))))))))))))
  rintro k ⟨hk, hf⟩
  refine ja rfl (jn rfl (jT rfl (oP rfl (zP rfl rfl rfl) (oZ rfl (jS rfl ?_)))))
  refine jD rfl (fun hc1 => ?_) (fun hc1 => ?_)
  · skip
    refine zk rfl (zc (jS rfl (jB rfl (jT rfl ?_))))
    obtain ⟨x1, hx1⟩ := zx ns k (by omega)
    refine oP rfl (zq (k := k) rfl rfl Tryz.runUnderlying122 Tryz.sizeOf3 (by first | rfl | omega) (zf hx1)) (oP rfl (zz rfl Tryz.isAgg3 rfl) (oR 1 rfl (oZ rfl (jT rfl (oR 2 rfl (oP rfl (zbX rfl rfl rfl) (oZ rfl ?_)))))))
    refine jD rfl (fun hc2 => ?_) (fun hc2 => ?_)
    · skip
      refine jT rfl (oR 2 rfl (oZ rfl (zm rfl (ze (zd (zL (ze (zd ?_))))))))
      exact zj Tryz.results146 (.cons (zs (zh rfl) (Cv.eq (congrArg (fun n => D.v (.int .i64 n)) (by exact (firstNZ_at hx1 hf (by assumption)).symm)))) .nil) rfl HSub.none ⟨rfl, rfl⟩
    · skip
      refine zk rfl (zp (zc (za rfl (oP rfl (zN (c := ((k + 1 : Nat) : Int)) rfl rfl (zC (by omega) (by omega))) (oR 1 rfl (zg rfl ?_))))))
      exact pl1 (k + 1) (sa rfl) HSub.rfl' ⟨by omega, firstNZ_next hx1 hf (by omega)⟩ (by omega)
  · skip
    refine zJ rfl (zo (zn (zl (zc (jT rfl (oR 2 rfl (oZ rfl (zm rfl ?_))))))))
    exact zj Tryz.results146 (.cons (zs (zh rfl) (Cv.eq (congrArg (fun n => D.v (.int .i64 n)) (by rw [hf, List.drop_eq_nil_of_le (by omega)]; rfl)))) .nil) rfl HSub.none ⟨rfl, rfl⟩

theorem order_c (a : Lbl) (b : Lbl)  :
    CD Tryz.prog 154 [] [Lbl.d a, Lbl.d b] (isR (dI (zB a b))) := by
  refine zr Tryz.func154 rfl (N := 17) rfl rfl (fun C => ?_)
  refine jk [0, 1] rfl ?_
  refine JD.bd 0 rfl (fun bd0 => ?_)
  refine JD.bd 1 rfl (fun bd1 => ?_)
  refine jT rfl (oE rfl (zbN rfl (CellD.agg)) ?_)
  rintro _ _ ⟨g1, rfl, rfl⟩
  refine oE rfl (zbN rfl (CellD.agg)) ?_
  rintro _ _ ⟨g2, rfl, rfl⟩
  refine oR 1 rfl (oZ rfl (jS rfl (jk [0, 1, 2, 3, 4] rfl (jn rfl (zS 9 [(5, dP g1 0, none), (6, .s a.n, none), (7, dP g2 0, none), (8, .s b.n, none), (9, dI (cmpS a.n b.n), none), (10, dP g1 1, none), (11, .s a.v, none), (12, dP g2 1, none), (13, .s b.v, none)] [.bx g2 62 (Lbl.d b), .bx g1 62 (Lbl.d a)] (Hn := [.bx g2 62 (Lbl.d b), .bx g1 62 (Lbl.d a)]) z4 rfl rfl rfl rfl HSub.rfl' rfl ⟨sa_p rfl rfl rfl (zt rfl zaa rfl), sa_p rfl rfl rfl (zH rfl (i := 1) rfl Tryz.isAgg9 rfl), sa_p rfl rfl rfl (zt rfl zaa rfl), sa_p rfl rfl rfl (zH rfl (i := 0) rfl Tryz.isAgg9 rfl), sa_q rfl rfl rfl (zaH rfl (.cons Cv.rfl' (.cons Cv.rfl' .nil)) Tryz.call188 (Compare_c a.n b.n) zaL), sa_p rfl rfl rfl (zt rfl zat rfl), sa_p rfl rfl rfl (zH rfl (i := 1) rfl Tryz.isAgg9 rfl), sa_p rfl rfl rfl (zt rfl zat rfl), sa_p rfl rfl rfl (zH rfl (i := 0) rfl Tryz.isAgg9 rfl), trivial⟩ (ok [0, 1, 2, 3, 4, 5, 6, 7, 8, 9, 10, 11, 12, 13] rfl (oW rfl rfl acs Tryz.call188 (Compare_c a.v b.v) (oE rfl (zad [.tmp 9, .tmp 14] rfl rfl (.cons (CellD.v rfl) (.cons (CellD.v rfl) .nil)) rfl Tryz.runUnderlying122 Tryz.sizeOf3 Tryz.zeroValue3 rfl rfl rfl rfl) ?_))))))))
  rintro _ _ ⟨g3, rfl, rfl⟩
  refine oE rfl (zK [] _ [.sl (vS g3 2 2) 1 3 ([dI (cmpS a.n b.n), dI (cmpS a.v b.v)])] rfl rfl (.cons (ArgC.own (j := 0) rfl rfl) .nil) (zaE (j := 0) rfl zw) Tryz.call146 (Or_c [cmpS a.n b.n, cmpS a.v b.v]) (.inr (zbm rfl))) ?_
  rintro _ _ ⟨_, ⟨rfl, rfl⟩, rfl⟩
  refine on rfl (oR 1 rfl (oZ rfl (jk [4] rfl (zm rfl ?_))))
  exact zj Tryz.results154 (.cons (zs (zh rfl) (Cv.eq (congrArg (fun n => D.v (.int .i64 n)) (by rw [firstNZ_two]; rfl)))) .nil) rfl HSub.none ⟨rfl, rfl⟩

theorem CompareFunc_c (a b : List Lbl)  :
    CD Tryz.prog 153 [] [.sh 2 (a.map Lbl.d), .sh 2 (b.map Lbl.d), .fn 154 [] []] (isR (dI (zI a b))) := by
  refine zr Tryz.func153 rfl (N := 39) rfl rfl (fun C => ?_)
  refine jk [0, 1, 2] rfl ?_
  refine JD.bd 0 rfl (fun bd0 => ?_)
  have nl0 := zO bd0
  refine JD.bd 1 rfl (fun bd1 => ?_)
  have nl1 := zO bd1
  refine jT rfl (oR 1 rfl (oZ rfl (jS rfl (jT rfl (oR 1 rfl (oP rfl (z1 (n := a.length) rfl Tryz.runUnderlying50 (by simp only [lm, lc, ln])) (oR 1 rfl (oZ rfl (jB rfl (jl1 (fun (a_ : Nat) => [(0, .sh 2 (a.map Lbl.d)), (1, .sh 2 (b.map Lbl.d)), (2, .fn 154 [] []), (11, .sh 2 (a.map Lbl.d)), (12, dN a.length), (13, dN a_)]) (fun a_ => []) (fun a_ => (a_ ≤ a.length) ∧ (zI a b = zI (a.drop a_) (b.drop a_))) (fun a_ => a.length - a_) 0 rfl (sa rfl) HSub.rfl' ⟨Nat.zero_le _, by simp⟩ ?_))))))))))
  rintro k ⟨hk, hf⟩
  refine ja rfl (jn rfl (jT rfl (oP rfl (zP rfl rfl rfl) (oZ rfl (jS rfl ?_)))))
  refine jD rfl (fun hc1 => ?_) (fun hc1 => ?_)
  · skip
    refine zk rfl (zc (jS rfl (jB rfl (jT rfl (oR 1 rfl ?_)))))
    obtain ⟨x1, hx1⟩ := zx a k (by omega)
    refine oP rfl (zq (k := k) rfl rfl Tryz.runUnderlying50 Tryz.sizeOf62 (by first | rfl | omega) (zf hx1)) (oP rfl (zaz (d := Lbl.d x1) rfl Tryz.isAgg62 Tryz.sizeOf62 rfl rfl) (oE rfl (zau (zv := (.agg #[(.string ByteArray.empty), (.string ByteArray.empty)])) Tryz.zeroValue62 ⟨rfl, rfl, trivial⟩ (Cv.vagg (by decide))) ?_))
    rintro _ _ ⟨g2, rfl, rfl⟩
    refine oR 1 rfl (oE rfl (z2 (i := 0) (X' := Lbl.d x1) rfl rfl rfl (CellD.agg) Tryz.sizeOf62 rfl rfl rfl) ?_)
    rintro _ _ ⟨rfl, rfl⟩
    refine on rfl (oZ rfl (jS rfl (jT rfl (oR 2 rfl (oP rfl (z1 (n := b.length) rfl Tryz.runUnderlying50 (by simp only [lm, lc, ln])) (oP rfl (zR rfl rfl rfl) (oZ rfl ?_)))))))
    refine jD rfl (fun hc3 => ?_) (fun hc3 => ?_)
    · skip
      refine jT rfl (oR 1 rfl (oZ rfl (zm rfl (zd (ze (zd (zL (ze (zd ?_)))))))))
      exact zj Tryz.results153 (.cons (zs (zh rfl) (Cv.eq (congrArg (fun n => D.v (.int .i64 n)) (by exact (cmpLs_right hx1 (by omega) hf).symm)))) .nil) rfl HSub.none ⟨rfl, rfl⟩
    · skip
      refine zk rfl (zc (jT rfl (oR 2 rfl ?_)))
      obtain ⟨x2, hx2⟩ := zx b k (by omega)
      refine oP rfl (zq (k := k) rfl rfl Tryz.runUnderlying50 Tryz.sizeOf62 (by first | rfl | omega) (zf hx2)) (oP rfl (zaz (d := Lbl.d x2) rfl Tryz.isAgg62 Tryz.sizeOf62 rfl rfl) (oE rfl (zau (zv := (.agg #[(.string ByteArray.empty), (.string ByteArray.empty)])) Tryz.zeroValue62 ⟨rfl, rfl, trivial⟩ (Cv.vagg (by decide))) ?_))
      rintro _ _ ⟨g4, rfl, rfl⟩
      refine oE rfl (z2 (i := 0) (X' := Lbl.d x2) rfl rfl rfl (CellD.agg) Tryz.sizeOf62 rfl rfl rfl) ?_
      rintro _ _ ⟨rfl, rfl⟩
      refine on rfl (oZ rfl (jT rfl (oR 1 rfl (oP rfl (zbg (d := Lbl.d x1) rfl (i := 1) rfl Tryz.isAgg62 Tryz.sizeOf62 rfl rfl) (oP rfl (zbg (d := Lbl.d x2) rfl (i := 0) rfl Tryz.isAgg62 Tryz.sizeOf62 rfl rfl) (oE rfl (zbb [] _ [] rfl rfl rfl (.cons ArgC.id (.cons ArgC.id .nil)) zw Tryz.call154 (order_c x1 x2) (.inl rfl)) ?_))))))
      rintro _ _ ⟨_, ⟨rfl, rfl⟩, rfl⟩
      refine on rfl (oR 1 rfl (oZ rfl (jT rfl (oR 1 rfl (oP rfl (zbX rfl rfl rfl) (oZ rfl ?_))))))
      refine jD rfl (fun hc5 => ?_) (fun hc5 => ?_)
      · skip
        refine jT rfl (oR 2 rfl (oZ rfl (zm rfl (ze (zd (zL (ze (zd ?_))))))))
        exact zj Tryz.results153 (.cons (zs (zh rfl) (Cv.eq (congrArg (fun n => D.v (.int .i64 n)) (by exact (cmpLs_at hx1 hx2 hf (by assumption)).symm)))) .nil) rfl HSub.none ⟨rfl, rfl⟩
      · skip
        refine zk rfl (zp (zc (za rfl (oP rfl (zN (c := ((k + 1 : Nat) : Int)) rfl rfl (zC (by omega) (by omega))) (oR 1 rfl (zg rfl ?_))))))
        exact pl1 (k + 1) (sa rfl) HSub.none ⟨by omega, cmpLs_next hx1 hx2 hf (by omega)⟩ (by omega)
  · skip
    refine zJ rfl (zo (zn (zl (zc (jS rfl (jT rfl (oR 1 rfl (oP rfl (z1 (n := a.length) rfl Tryz.runUnderlying50 (by simp only [lm, lc, ln])) (oR 1 rfl (oP rfl (z1 (n := b.length) rfl Tryz.runUnderlying50 (by simp only [lm, lc, ln])) (oP rfl (zP rfl rfl rfl) (oZ rfl (jk [38] rfl ?_)))))))))))))
    refine jD rfl (fun hc6 => ?_) (fun hc6 => ?_)
    · skip
      refine jT rfl (oR 1 rfl (oZ rfl (zm rfl (zd ?_))))
      exact zj Tryz.results153 (.cons (zs (zh rfl) (Cv.eq (congrArg (fun n => D.v (.int .i64 n)) (by rw [cmpLs_end (by omega) hf (by omega)]; first | rw [if_pos (by omega)] | rw [if_neg (by omega)])))) .nil) rfl HSub.none ⟨rfl, rfl⟩
    · skip
      refine zk rfl (zc (jT rfl (oR 1 rfl (oZ rfl (zm rfl ?_)))))
      exact zj Tryz.results153 (.cons (zs (zh rfl) (Cv.eq (congrArg (fun n => D.v (.int .i64 n)) (by rw [cmpLs_end (by omega) hf (by omega)]; first | rw [if_pos (by omega)] | rw [if_neg (by omega)])))) .nil) rfl HSub.none ⟨rfl, rfl⟩

theorem zcf (a : List Lbl) (b : List Lbl)  :
    CD Tryz.prog 106 [] [.sh 2 (a.map Lbl.d), .sh 2 (b.map Lbl.d)] (isR (dI (zI a b))) := by
  refine zr Tryz.func106 rfl (N := 8) rfl rfl (fun C => ?_)
  refine jk [0, 1] rfl ?_
  refine JD.bd 0 rfl (fun bd0 => ?_)
  have nl0 := zO bd0
  refine JD.bd 1 rfl (fun bd1 => ?_)
  have nl1 := zO bd1
  refine jT rfl (oR 1 rfl (oZ rfl (jT rfl (oR 2 rfl (oW rfl rfl acs Tryz.call153 (CompareFunc_c a b) (oR 1 rfl (oZ rfl (zm rfl ?_))))))))
  exact zj Tryz.results106 (.cons (zh rfl) .nil) rfl HSub.none ⟨rfl, rfl⟩

theorem texts_c (a : ByteArray) (b : ByteArray)  :
    CD Tryz.prog 120 [] [.s a, .s b] (isR (dI (cmpS a b))) := by
  refine zr Tryz.func120 rfl (N := 13) rfl rfl (fun C => ?_)
  refine jk [0, 1] rfl ?_
  refine JD.bd 0 rfl (fun bd0 => ?_)
  have sz0 : a.size ≤ 9223372036854775807 := bd0
  refine JD.bd 1 rfl (fun bd1 => ?_)
  have sz1 : b.size ≤ 9223372036854775807 := bd1
  refine jT rfl (oR 1 rfl (oZ rfl (jS rfl (jB rfl (jT rfl (oR 2 rfl (oP rfl (p_lts rfl rfl rfl) (oR 1 rfl (oZ rfl ?_)))))))))
  refine jD rfl (fun hc1 => ?_) (fun hc1 => ?_)
  · skip
    refine jT rfl (oR 1 rfl (oZ rfl (zm rfl (ze (zd ?_)))))
    exact zj Tryz.results120 (.cons (zs (zh rfl) (Cv.eq (congrArg (fun n => D.v (.int .i64 n)) (by rcases cmpS_cases a b with h | h | h <;> rw [h] <;> omega)))) .nil) rfl HSub.none ⟨rfl, rfl⟩
  · skip
    refine jT rfl (oR 2 rfl (oP rfl (p_gts rfl rfl rfl) (oR 1 rfl (oZ rfl (jk [4, 9] rfl ?_)))))
    refine jD rfl (fun hc2 => ?_) (fun hc2 => ?_)
    · skip
      refine jT rfl (oR 1 rfl (oZ rfl (zm rfl (ze (zd ?_)))))
      exact zj Tryz.results120 (.cons (zs (zh rfl) (Cv.eq (congrArg (fun n => D.v (.int .i64 n)) (by rcases cmpS_cases a b with h | h | h <;> rw [h] <;> omega)))) .nil) rfl HSub.none ⟨rfl, rfl⟩
    · skip
      refine zk rfl (zp (zc (jT rfl (oR 1 rfl (oZ rfl (zm rfl ?_))))))
      exact zj Tryz.results120 (.cons (zs (zh rfl) (Cv.eq (congrArg (fun n => D.v (.int .i64 n)) (by rcases cmpS_cases a b with h | h | h <;> rw [h] <;> omega)))) .nil) rfl HSub.none ⟨rfl, rfl⟩

theorem refCompare_c (a : List Lbl) (b : List Lbl)  :
    CD Tryz.prog 54 [] [.sh 2 (a.map Lbl.d), .sh 2 (b.map Lbl.d)] (isR (dI (zI a b))) := by
  refine zr Tryz.func54 rfl (N := 58) rfl rfl (fun C => ?_)
  refine jk [0, 1] rfl ?_
  refine JD.bd 0 rfl (fun bd0 => ?_)
  have nl0 := zO bd0
  refine JD.bd 1 rfl (fun bd1 => ?_)
  have nl1 := zO bd1
  refine jT rfl (oR 1 rfl (oZ rfl (jS rfl (jT rfl (oR 1 rfl (oZ rfl (jB rfl (jl1 (fun (a_ : Nat) => [(0, .sh 2 (a.map Lbl.d)), (1, .sh 2 (b.map Lbl.d)), (5, dN a_)]) (fun a_ => []) (fun a_ => (a_ ≤ a.length) ∧ (a_ ≤ b.length) ∧ (zI a b = zI (a.drop a_) (b.drop a_))) (fun a_ => a.length - a_) 0 rfl (sa rfl) HSub.rfl' ⟨Nat.zero_le _, Nat.zero_le _, by simp⟩ ?_))))))))
  rintro k ⟨hk, hk2, hf⟩
  refine ja rfl (jn rfl (jS rfl (jS rfl (jk [0, 1, 5] rfl ?_))))
  refine zag 16 ((decide (((k : Nat) : Int) < ((a.length : Nat) : Int)) && decide (((k : Nat) : Int) < ((b.length : Nat) : Int)))) [] (fun _ hQ1 => ?_) ?_
  · skip
    by_cases hg2 : ((k : Nat) : Int) < ((a.length : Nat) : Int)
    · skip
      refine za rfl (oR 2 rfl (oP rfl (z1 (n := a.length) rfl Tryz.runUnderlying50 (by simp only [lm, lc, ln])) (oP rfl (zP rfl rfl (decide_eq_true hg2)) (oR 3 rfl (oG rfl (z1 (n := b.length) rfl Tryz.runUnderlying50 (by simp only [lm, lc, ln])) (oG rfl (zP rfl rfl rfl) (oR 1 rfl (zg rfl ?_))))))))
      exact PD.sub ((16, dB (decide (((k : Nat) : Int) < ((a.length : Nat) : Int)) && decide (((k : Nat) : Int) < ((b.length : Nat) : Int)))) :: [(0, .sh 2 (a.map Lbl.d)), (1, .sh 2 (b.map Lbl.d)), (5, dN k)]) ⟨sc rfl (Cv.eq (congrArg (fun b => D.v (.bool b)) (by first | (simp [hg2]; done) | (simp_all; done)))), sk rfl, sk rfl, sk rfl, trivial⟩ hQ1
    · skip
      refine za rfl (oR 2 rfl (oP rfl (z1 (n := a.length) rfl Tryz.runUnderlying50 (by simp only [lm, lc, ln])) (oP rfl (zP rfl rfl (decide_eq_false hg2)) (oR 6 rfl (zg rfl ?_)))))
      exact PD.sub ((16, dB (decide (((k : Nat) : Int) < ((a.length : Nat) : Int)) && decide (((k : Nat) : Int) < ((b.length : Nat) : Int)))) :: [(0, .sh 2 (a.map Lbl.d)), (1, .sh 2 (b.map Lbl.d)), (5, dN k)]) ⟨sc rfl (Cv.eq (congrArg (fun b => D.v (.bool b)) (by first | (simp [hg2]; done) | (simp_all; done)))), sk rfl, sk rfl, sk rfl, trivial⟩ hQ1
  · skip
    refine zc ?_
    refine jC rfl (fun hc3 => ?_) (fun hc3 => ?_)
    · simp only [bA, bB, bC, bD, bE, bF, bG, bH, bI, bJ] at hc3
      refine zk rfl (zc (jS rfl (jB rfl (jS rfl (jk [0, 1, 5, 16] rfl (jn rfl ?_))))))
      obtain ⟨x1, hx1⟩ := zx a k (by omega)
      obtain ⟨x2, hx2⟩ := zx b k (by omega)
      refine zS 10 [(19, .sh 2 (a.map Lbl.d), none), (20, dN k, none), (21, .el (Lbl.d x1) 0, none), (22, .el (Lbl.d x1) 0, none), (23, .s x1.n, none), (24, .sh 2 (b.map Lbl.d), none), (25, dN k, none), (26, .el (Lbl.d x2) 0, none), (27, .el (Lbl.d x2) 0, none), (28, .s x2.n, none)] [] (Hn := []) z4 rfl rfl rfl rfl HSub.rfl' rfl ⟨sa_p rfl rfl rfl (zb rfl), sa_p rfl rfl rfl (zb rfl), sa_p rfl rfl rfl (zq (k := k) rfl rfl Tryz.runUnderlying50 Tryz.sizeOf62 (by first | rfl | omega) (zf hx1)), sa_p rfl rfl rfl (zA rfl zaa rfl), sa_p rfl rfl rfl (zz rfl Tryz.isAgg9 rfl), sa_p rfl rfl rfl (zb rfl), sa_p rfl rfl rfl (zb rfl), sa_p rfl rfl rfl (zq (k := k) rfl rfl Tryz.runUnderlying50 Tryz.sizeOf62 (by first | rfl | omega) (zf hx2)), sa_p rfl rfl rfl (zA rfl zaa rfl), sa_p rfl rfl rfl (zz rfl Tryz.isAgg9 rfl), trivial⟩ (ok [0, 1, 5, 16, 19, 20, 21, 22, 23, 24, 25, 26, 27, 28] rfl (oW rfl rfl acs Tryz.call120 (texts_c x1.n x2.n) (oR 1 rfl (oZ rfl (jS rfl (jT rfl (oR 1 rfl (oP rfl (zM rfl rfl rfl) (oZ rfl ?_)))))))))
      refine jD rfl (fun hc4 => ?_) (fun hc4 => ?_)
      · skip
        refine jk [0, 1, 5, 6, 16, 19, 20, 21, 22, 23, 24, 25, 26, 27, 28, 29, 30, 31] rfl (jn rfl (zS 10 [(32, .sh 2 (a.map Lbl.d), none), (33, dN k, none), (34, .el (Lbl.d x1) 0, none), (35, .el (Lbl.d x1) 1, none), (36, .s x1.v, none), (37, .sh 2 (b.map Lbl.d), none), (38, dN k, none), (39, .el (Lbl.d x2) 0, none), (40, .el (Lbl.d x2) 1, none), (41, .s x2.v, none)] [] (Hn := []) z4 rfl rfl rfl rfl HSub.rfl' rfl ⟨sa_p rfl rfl rfl (zb rfl), sa_p rfl rfl rfl (zb rfl), sa_p rfl rfl rfl (zq (k := k) rfl rfl Tryz.runUnderlying50 Tryz.sizeOf62 (by first | rfl | omega) (zf hx1)), sa_p rfl rfl rfl (zA rfl zat rfl), sa_p rfl rfl rfl (zz rfl Tryz.isAgg9 rfl), sa_p rfl rfl rfl (zb rfl), sa_p rfl rfl rfl (zb rfl), sa_p rfl rfl rfl (zq (k := k) rfl rfl Tryz.runUnderlying50 Tryz.sizeOf62 (by first | rfl | omega) (zf hx2)), sa_p rfl rfl rfl (zA rfl zat rfl), sa_p rfl rfl rfl (zz rfl Tryz.isAgg9 rfl), trivial⟩ (ok [0, 1, 5, 6, 16, 19, 20, 21, 22, 23, 24, 25, 26, 27, 28, 29, 30, 31, 32, 33, 34, 35, 36, 37, 38, 39, 40, 41] rfl (oW rfl rfl acs Tryz.call120 (texts_c x1.v x2.v) (oR 1 rfl (oZ rfl (jT rfl (oR 1 rfl (oP rfl (zbX rfl rfl rfl) (oZ rfl ?_))))))))))
        refine jD rfl (fun hc5 => ?_) (fun hc5 => ?_)
        · skip
          refine jT rfl (oR 2 rfl (oZ rfl (zm rfl (ze (zd (zL (ze (zd ?_))))))))
          exact zj Tryz.results54 (.cons (zs (zh rfl) (Cv.eq (congrArg (fun n => D.v (.int .i64 n)) (by rw [cmpLs_at hx1 hx2 hf (by unfold zB or2; split <;> omega)]; unfold zB or2; first | rw [if_pos (by omega)] | rw [if_neg (by omega)])))) .nil) rfl HSub.none ⟨rfl, rfl⟩
        · skip
          refine zk rfl (zp (zc (za rfl (oR 1 rfl (oP rfl (zN (c := ((k + 1 : Nat) : Int)) rfl rfl (zC (by omega) (by omega))) (oR 1 rfl (zg rfl ?_)))))))
          exact pl1 (k + 1) (sa rfl) HSub.rfl' ⟨by omega, by omega, cmpLs_next hx1 hx2 hf (by unfold zB or2; split <;> omega)⟩ (by omega)
      · skip
        refine zk rfl (zc (jT rfl (oR 1 rfl (oP rfl (zbX rfl rfl rfl) (oZ rfl ?_)))))
        refine jD rfl (fun hc6 => ?_) (fun hc6 => ?_)
        · skip
          refine jT rfl (oR 2 rfl (oZ rfl (zm rfl (ze (zd (zL (ze (zd ?_))))))))
          exact zj Tryz.results54 (.cons (zs (zh rfl) (Cv.eq (congrArg (fun n => D.v (.int .i64 n)) (by rw [cmpLs_at hx1 hx2 hf (by unfold zB or2; split <;> omega)]; unfold zB or2; first | rw [if_pos (by omega)] | rw [if_neg (by omega)])))) .nil) rfl HSub.none ⟨rfl, rfl⟩
        · skip
          refine zk rfl (zp (zc (za rfl (oR 1 rfl (oP rfl (zN (c := ((k + 1 : Nat) : Int)) rfl rfl (zC (by omega) (by omega))) (oR 1 rfl (zg rfl ?_)))))))
          exact pl1 (k + 1) (sa rfl) HSub.rfl' ⟨by omega, by omega, cmpLs_next hx1 hx2 hf (by unfold zB or2; split <;> omega)⟩ (by omega)
    · simp only [bA, bB, bC, bD, bE, bF, bG, bH, bI, bJ] at hc3
      refine zJ rfl (zo (zn (zl (zc (jS rfl (jB rfl (jT rfl (oR 1 rfl (oP rfl (z1 (n := a.length) rfl Tryz.runUnderlying50 (by simp only [lm, lc, ln])) (oR 1 rfl (oP rfl (z1 (n := b.length) rfl Tryz.runUnderlying50 (by simp only [lm, lc, ln])) (oP rfl (zP rfl rfl rfl) (oR 1 rfl (oZ rfl ?_))))))))))))))
      refine jD rfl (fun hc7 => ?_) (fun hc7 => ?_)
      · skip
        refine jT rfl (oR 1 rfl (oZ rfl (jk [4] rfl (zm rfl (ze (zd ?_))))))
        exact zj Tryz.results54 (.cons (zs (zh rfl) (Cv.eq (congrArg (fun n => D.v (.int .i64 n)) (by rw [hf]; first | rw [cmpLs_nil (by omega) (by omega) (by omega)] | rw [cmpLs_nil_l (by omega) (by omega)] | rw [cmpLs_nil_r (by omega) (by omega)])))) .nil) rfl HSub.none ⟨rfl, rfl⟩
      · skip
        refine jT rfl (oR 1 rfl (oP rfl (z1 (n := a.length) rfl Tryz.runUnderlying50 (by simp only [lm, lc, ln])) (oR 1 rfl (oP rfl (z1 (n := b.length) rfl Tryz.runUnderlying50 (by simp only [lm, lc, ln])) (oP rfl (zao rfl rfl rfl) (oR 1 rfl (oZ rfl (jk [52] rfl ?_))))))))
        refine jD rfl (fun hc8 => ?_) (fun hc8 => ?_)
        · skip
          refine jT rfl (oR 1 rfl (oZ rfl (zm rfl (ze (zd ?_)))))
          exact zj Tryz.results54 (.cons (zs (zh rfl) (Cv.eq (congrArg (fun n => D.v (.int .i64 n)) (by rw [hf]; first | rw [cmpLs_nil (by omega) (by omega) (by omega)] | rw [cmpLs_nil_l (by omega) (by omega)] | rw [cmpLs_nil_r (by omega) (by omega)])))) .nil) rfl HSub.none ⟨rfl, rfl⟩
        · skip
          refine zk rfl (zp (zc (jT rfl (oR 1 rfl (oZ rfl (zm rfl ?_))))))
          exact zj Tryz.results54 (.cons (zs (zh rfl) (Cv.eq (congrArg (fun n => D.v (.int .i64 n)) (by rw [hf]; first | rw [cmpLs_nil (by omega) (by omega) (by omega)] | rw [cmpLs_nil_l (by omega) (by omega)] | rw [cmpLs_nil_r (by omega) (by omega)])))) .nil) rfl HSub.none ⟨rfl, rfl⟩
end Lp
/-
  BYTES: rows of bytes, texts appended to them; a strings.Builder.
-/
set_option linter.unusedVariables false
namespace Lp
open Go Go.RowKit
open Go.Lib (strCells strCells_eq byteCells byteCells_length run_append_own_string)

section
variable {P : Program} {ty : TypeId} {K : Kd} {H : List Hp}
/-! ### a range over a text -/
theorem ef_range {x : Operand} {t : TypeId} {s : ByteArray} (hx : opS K x = some s) (ht : ∀ w, (underlying t).run P w = .ok .string w) : Ef P (.range t x) ty K H (fun d H' => ∃ g, d = .v (.pointer (some ⟨g, 0, none⟩)) ∧ H' = .it g s 0 :: H) :=
  ⟨fun C ρ w F hk gd => by
    have e := hk.opS hx
    refine EOp.of_run (v := .pointer (some ⟨w.heap.size, 0, none⟩)) (w' := w.alloc (.stringIter s 0)) (by simp [execOp, zac, e, Instr.range, ht]) ?_
    have E := Ext.alloc w (.stringIter s 0)
    have g' := gd.ext E
    refine ⟨F, _, _, ⟨w.heap.size, rfl, rfl⟩, rfl, g'.more (heap_alloc_new w _) (fun b hb => ?_), Keep.ext E⟩
    cases hb
    exact ⟨gd.size, fun hF => by have := gd.flt _ hF; omega, fun hB => by have := zc3 gd.h hB; omega⟩⟩
def decR (s : ByteArray) (p : Nat) : Nat := (Utf8.decode s p).1
def decW (s : ByteArray) (p : Nat) : Nat := (Utf8.decode s p).2
theorem zcz {x : Operand} {s : ByteArray} {g p i : Nat} (hx : opD K x = some (.v (.pointer (some ⟨g, 0, none⟩)))) (hm : nth H i = some (.it g s p)) (hp : p < s.size) :
    Ef P (.next x true) ty K H (fun d H' => d = .tup [.v (.bool true), .v (.int .i64 (p : Int)), .v (.int .i32 (decR s p : Int))] ∧ H' = H.set i (.it g s (p + decW s p))) :=
  ⟨fun C ρ w F hk gd => by
    have e : ev ρ x = _ := hk.op hx
    have hb : w.heap[g]? = some (.stringIter s p) := gd.h.ok _ (zV hm)
    have hlt := (Array.getElem?_eq_some_iff.1 hb).1
    refine EOp.of_run (v := .tuple #[.bool true, .int .i64 (p : Int), .int .i32 (decR s p : Int)]) (w' := { w with heap := w.heap.setIfInBounds g (.stringIter s (p + decW s p)) }) ?_ ?_
    · simp [execOp, zac, e, Instr.next, getObj, setObj, Sem.run, hb, hp, decR, decW, goInt]
    have := gd.turn (h' := .it g s (p + decW s p)) (w' := { w with heap := w.heap.setIfInBounds g (.stringIter s (p + decW s p)) }) hm (fun b _ hn => by
        have : ¬ g = b := hn
        simp only [Array.getElem?_setIfInBounds]; rw [if_neg this]) (by simp) rfl rfl rfl (fun b hb => .inl hb) (fun _ => by
        show _ = _
        simp only [Array.getElem?_setIfInBounds, if_true, hlt])
    exact ⟨F, _, _, ⟨rfl, rfl⟩, ⟨_, rfl, _, _, rfl, rfl, _, _, rfl, rfl, _, _, rfl, rfl, rfl⟩, this.1, this.2⟩⟩
theorem p_next_f {x : Operand} {s : ByteArray} {g p i : Nat} (hx : opD K x = some (.v (.pointer (some ⟨g, 0, none⟩)))) (hm : nth H i = some (.it g s p)) (hp : s.size ≤ p) : Pu P (.next x true) ty K H (.tup [.v (.bool false)]) :=
  ⟨fun ρ w F hk _ hH => by
    have e : ev ρ x = _ := hk.op hx
    have hb : w.heap[g]? = some (.stringIter s p) := hH _ (zV hm)
    refine EOp.of_run (v := .tuple #[.bool false]) (w' := w) ?_ ⟨rfl, _, rfl, _, _, rfl, rfl, rfl⟩
    simp [execOp, zac, e, Instr.next, getObj, Sem.run, hb, show ¬ p < s.size by omega]⟩
theorem zaj (s : ByteArray) (p : Nat) : 1 ≤ decW s p := by
  unfold decW Utf8.decode
  simp only
  (repeat' split) <;> simp
theorem zaU (s : ByteArray) (p : Nat) (h : p < s.size) : p + decW s p ≤ s.size := by
  unfold decW Utf8.decode
  simp only [Bool.and_eq_true, decide_eq_true_eq]
  (repeat' split) <;> simp <;> omega
/-- the zaI of a text, from a place on -/
def zbQ (s : ByteArray) (p : Nat) : List Int := if h : p < s.size then (decR s p : Int) :: zbQ s (p + decW s p) else []
termination_by s.size - p
decreasing_by have := zaj s p; omega
theorem zb9 {s : ByteArray} {p : Nat} (h : p < s.size) : zbQ s p = (decR s p : Int) :: zbQ s (p + decW s p) := by
  conv => lhs; unfold zbQ
  rw [dif_pos h]
theorem runesAt_ge {s : ByteArray} {p : Nat} (h : s.size ≤ p) : zbQ s p = [] := by
  unfold zbQ; rw [dif_neg (by omega)]
def zaI (s : ByteArray) : List Int := zbQ s 0
theorem decR_lt (s : ByteArray) (p : Nat) : decR s p < 1114112 := by
  unfold decR Utf8.decode
  simp only [Bool.and_eq_true, decide_eq_true_eq]
  have hv : ∀ c, Utf8.valid c = true → c < 1114112 := by
    intro c; unfold Utf8.valid; simp; intros; omega
  (repeat' split)
  all_goals first
    | (simp only [Utf8.runeError]; omega)
    | (simp only; omega)
    | (rename_i h; have := hv _ h.2; simp only; omega)
end
end Lp
/-
  Merging lists of rows, as plain data: which list's head comes first; what a merge is; the tree of a tournament.
-/
set_option linter.unusedVariables false
namespace Lp
open Go

def hd (ll : LLs) (k : Nat) : Option RowD := (ll[k]?).bind List.head?
/-! ### less is an order -/
theorem or2_neg {a b : Int} : or2 (-a) (-b) = - or2 a b := by unfold or2; split <;> split <;> omega
theorem cmpI_neg (a b : Int) : cmpI b a = - cmpI a b := by unfold cmpI; split <;> split <;> (try split) <;> omega
theorem cmpLbl_neg (a b : Lbl) : zB b a = - zB a b := by unfold zB; rw [zcX a.n, zcX a.v, or2_neg]
theorem zcC : ∀ a b : List Lbl, zI b a = - zI a b
  | [], [] => rfl
  | [], _ :: _ => rfl
  | _ :: _, [] => rfl
  | a :: r, b :: s => by
    unfold zI
    rw [cmpLbl_neg a b, zcC r s]
    split <;> split <;> omega
theorem cmpRow_neg (o : Int) (a b : RowD) : zF o b a = - zF o a b := by
  unfold zF
  rw [zcC a.ls b.ls]
  split
  · rw [cmpI_neg a.v b.v, or2_neg]
  · split
    · rw [cmpI_neg b.v a.v, or2_neg]
    · rfl
/-- Three that are compared: a sign is handed on. -/
structure Tr (c : Int) (d : Int) (e : Int) : Prop where
  le : c ≤ 0 → d ≤ 0 → e ≤ 0
  lt1 : c < 0 → d ≤ 0 → e < 0
  lt2 : c ≤ 0 → d < 0 → e < 0
  e1 : c = 0 → e = d
  e2 : d = 0 → e = c
theorem cmpS_tr (a b c : ByteArray) : Tr (cmpS a b) (cmpS b c) (cmpS a c) := by
  have n1 := zcX a b
  have n2 := zcX b c
  have t := cmpS_trans a b c
  refine ⟨t, fun h1 h2 => ?_, fun h1 h2 => ?_, fun h => ?_, fun h => ?_⟩
  · have := t (by omega) h2
    rcases Int.lt_or_eq_of_le this with h | h
    · exact h
    · rw [zbJ] at h; subst h; omega
  · have := t h1 (by omega)
    rcases Int.lt_or_eq_of_le this with h | h
    · exact h
    · rw [zbJ] at h; subst h; omega
  · rw [zbJ] at h; rw [h]
  · rw [zbJ] at h; rw [h]
theorem cmpI_tr (a b c : Int) : Tr (cmpI a b) (cmpI b c) (cmpI a c) := by
  unfold cmpI
  refine ⟨?_, ?_, ?_, ?_, ?_⟩ <;> (repeat' split) <;> omega
theorem or2_tr {a b c d e f : Int} (h : Tr a b c) (h' : Tr d e f) : Tr (or2 a d) (or2 b e) (or2 c f) := by
  obtain ⟨h1, h2, h3, h4, h5⟩ := h
  obtain ⟨k1, k2, k3, k4, k5⟩ := h'
  unfold or2
  by_cases ha : a = 0
  · have hc := h4 ha
    subst hc
    rw [if_neg (by omega)]
    by_cases hb : c = 0
    · rw [if_neg (by omega), if_neg (by omega)]; exact ⟨k1, k2, k3, k4, k5⟩
    · rw [if_pos hb, if_pos hb]
      exact ⟨fun _ h => h, fun _ h => by omega, fun _ h => h, fun _ => rfl, fun h => by omega⟩
  · by_cases hb : b = 0
    · have hc := h5 hb
      subst hc
      rw [if_pos ha, if_neg (by omega), if_pos ha]
      exact ⟨fun h _ => h, fun h _ => h, fun h _ => by omega, fun h => by omega, fun _ => rfl⟩
    · rw [if_pos ha, if_pos hb]
      have : a ≤ 0 → b ≤ 0 → c < 0 := fun p q => h2 (by omega) q
      refine ⟨fun p q => ?_, fun p q => ?_, fun p q => ?_, fun h => by omega, fun h => by omega⟩
      · rw [if_pos (by have := this p q; omega)]; exact h1 p q
      · have := this (by omega) q; rw [if_pos (by omega)]; exact this
      · have := this p (by omega); rw [if_pos (by omega)]; exact this
theorem cmpLbl_tr (a b c : Lbl) : Tr (zB a b) (zB b c) (zB a c) := or2_tr (cmpS_tr _ _ _) (cmpS_tr _ _ _)
theorem Tr.zero : Tr 0 0 0 := ⟨fun h _ => h, fun h _ => h, fun _ h => h, fun _ => rfl, fun _ => rfl⟩
theorem zcB : ∀ a b c : List Lbl, Tr (zI a b) (zI b c) (zI a c)
  | [], [], [] => Tr.zero
  | [], [], _ :: _ => by constructor <;> (intros; simp_all [zI])
  | [], _ :: _, [] => by constructor <;> (intros; simp_all [zI])
  | _ :: _, [], [] => by constructor <;> (intros; simp_all [zI])
  | [], _ :: _, _ :: _ => by
    constructor <;> intros <;> simp_all [zI]
  | _ :: _, [], _ :: _ => by constructor <;> (intros; simp_all [zI])
  | _ :: _, _ :: _, [] => by constructor <;> (intros; simp_all [zI])
  | a :: r, b :: s, c :: t => by
    have h := cmpLbl_tr a b c
    have ih := zcB r s t
    have e : ∀ x y : Lbl, ∀ p q : List Lbl, zI (x :: p) (y :: q) = or2 (zB x y) (zI p q) := by
      intro x y p q
      conv => lhs; unfold zI
      rfl
    rw [e, e, e]
    exact or2_tr h ih
theorem cmpRow_tr (o : Int) (a b c : RowD) : Tr (zF o a b) (zF o b c) (zF o a c) := by
  unfold zF
  split
  · exact or2_tr (cmpI_tr _ _ _) (zcB _ _ _)
  · split
    · have := cmpI_tr c.v b.v a.v
      refine or2_tr ⟨fun h1 h2 => this.le h2 h1, fun h1 h2 => this.lt2 h2 h1, fun h1 h2 => this.lt1 h2 h1, this.e2, this.e1⟩ (zcB _ _ _)
    · exact zcB _ _ _

end Lp
/-
  Runes and names, as data.
-/
set_option linter.unusedVariables false
namespace Lp
open Go

def zY (r : Int) : Int :=
  if r < 0 ∨ r = 65533 then 0 else if (97 ≤ r ∧ r ≤ 122) ∨ (65 ≤ r ∧ r ≤ 90) ∨ r = 95 ∨ 128 ≤ r then 1 else if 48 ≤ r ∧ r ≤ 57 then 2 else if r = 32 ∨ r = 9 ∨ r = 10 then 3 else 4
abbrev dR (n : Int) : D := .v (.int .i32 n)
def zck : Nat → List Int → Bool
  | n, [] => decide (1 ≤ n) && decide (n ≤ 30)
  | n, r :: rs => if zY r ≠ 1 ∧ (zY r ≠ 2 ∨ n = 0) then false else zck (n + 1) rs
def zbl (s : ByteArray) : Bool := zck 0 (zaI s)
theorem nameR_bad {n : Nat} {r : Int} {rs : List Int} (h : zY r ≠ 1 ∧ (zY r ≠ 2 ∨ n = 0)) : zck n (r :: rs) = false := by unfold zck; rw [if_pos h]
theorem nameR_next {n : Nat} {r : Int} {rs : List Int} (h : ¬ (zY r ≠ 1 ∧ (zY r ≠ 2 ∨ n = 0))) : zck n (r :: rs) = zck (n + 1) rs := by
  show (if zY r ≠ 1 ∧ (zY r ≠ 2 ∨ n = 0) then false else zck (n + 1) rs) = _
  rw [if_neg h]
/-- all are letters or digits -/
def zcm (rs : List Int) : Bool := rs.all fun r => decide (zY r = 1 ∨ zY r = 2)
theorem wordR_cons {r : Int} {rs : List Int} : zcm (r :: rs) = (decide (zY r = 1 ∨ zY r = 2) && zcm rs) := rfl
theorem nameR_word : ∀ (rs : List Int) (n : Nat), 1 ≤ n → zck n rs = (zcm rs && decide (n + rs.length ≤ 30))
  | [], n, h => by simp [zck, zcm, h]
  | r :: rs, n, h => by
    by_cases hr : zY r = 1 ∨ zY r = 2
    · rw [nameR_next (by omega), nameR_word rs (n + 1) (by omega), wordR_cons, decide_eq_true hr, Bool.true_and]
      congr 1; rw [decide_eq_decide, List.length_cons]; omega
    · rw [nameR_bad (by omega), wordR_cons, decide_eq_false hr]; rfl
theorem zbz (rs : List Int) : zck 0 rs = (decide (1 ≤ rs.length) && decide (rs.length ≤ 30) && decide (zY (rs.getD 0 0) = 1) && zcm rs) := by
  cases rs with
  | nil => simp [zck]
  | cons r rs =>
    by_cases hr : zY r = 1
    · rw [nameR_next (by omega), nameR_word rs 1 (by omega), wordR_cons, decide_eq_true (show zY r = 1 ∨ zY r = 2 from .inl hr), Bool.true_and, Bool.and_comm (zcm rs)]
      have e1 : decide (zY ((r :: rs).getD 0 0) = 1) = true := decide_eq_true hr
      rw [e1, Bool.and_true]
      congr 1
      rw [Bool.eq_iff_iff]; simp [Nat.add_comm]
    · rw [nameR_bad (by omega)]
      have e1 : decide (zY ((r :: rs).getD 0 0) = 1) = false := decide_eq_false hr
      rw [e1, Bool.and_false]; rfl
theorem wordR_take {rs : List Int} {k : Nat} {x : Int} (hx : rs[k]? = some x) (h : zcm (rs.take k) = true) (hk : zY x = 1 ∨ zY x = 2) : zcm (rs.take (k + 1)) = true := by
  unfold zcm at *; exact zbp hx h (by simpa using hk)
theorem wordR_bad {rs : List Int} {k : Nat} {x : Int} (hx : rs[k]? = some x) (hk : ¬ (zY x = 1 ∨ zY x = 2)) : zcm rs = false := by
  unfold zcm; rw [List.all_eq_false]; exact ⟨x, List.mem_of_getElem? hx, by simpa using hk⟩
end Lp
