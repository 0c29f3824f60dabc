/- Walks, printed by a program of mine. -/
import Derived.Test.YtfjinapgehafiaaGreatDZ
set_option linter.unusedSimpArgs false
set_option linter.unusedVariables false
set_option maxHeartbeats 4000000
set_option maxRecDepth 100000
namespace Lp
open Go Go.RowKit Go.Proofs

namespace HdYtfjinapgehafiaaGreatV60
end HdYtfjinapgehafiaaGreatV60
open HdYtfjinapgehafiaaGreatV60

theorem fRight_c (v : Int)  :
    CD Tryz.prog 44 [] [dI v] (isR (dB (zaD v))) := by
  refine zq Tryz.func44 rfl (N := 9) rfl rfl (fun C => ?_)
  refine jk [0] rfl (jT rfl (oR 1 rfl (oZ rfl (jS rfl (jk [0] rfl ?_)))))
  refine zal 2 ((decide (((-1000000000000) : Int) ≤ v) && decide (v ≤ (1000000000000 : Int)))) [] (fun _ hQ1 => ?_) ?_
  · skip
    by_cases hg2 : ((-1000000000000) : Int) ≤ v
    · skip
      refine za rfl (oR 1 rfl (oP rfl (zV rfl rfl (decide_eq_true hg2)) (oR 2 rfl (oG rfl (zaA rfl rfl rfl) (oR 2 rfl (ze rfl ?_))))))
      exact PD.sub ((2, dB (decide (((-1000000000000) : Int) ≤ v) && decide (v ≤ (1000000000000 : Int)))) :: [(0, dI v)]) ⟨sc rfl (Cv.eq (congrArg (fun b => D.v (.bool b)) (by first | (simp [hg2]; done) | (simp_all; done)))), sk rfl, trivial⟩ hQ1
    · skip
      refine za rfl (oR 1 rfl (oP rfl (zV rfl rfl (decide_eq_false hg2)) (oR 5 rfl (ze rfl ?_))))
      exact PD.sub ((2, dB (decide (((-1000000000000) : Int) ≤ v) && decide (v ≤ (1000000000000 : Int)))) :: [(0, dI v)]) ⟨sc rfl (Cv.eq (congrArg (fun b => D.v (.bool b)) (by first | (simp [hg2]; done) | (simp_all; done)))), sk rfl, trivial⟩ hQ1
  · skip
    refine zb (zm rfl ?_)
    exact zl Tryz.results44 (.cons (zx (zh rfl) (Cv.eq (congrArg (fun b => D.v (.bool b)) (by unfold zaD; first | rfl | simp)))) .nil) rfl HSub.none ⟨rfl, rfl⟩

theorem within_c (v : Int)  :
    CD Tryz.prog 114 [] [dI v] (isR (.tup [dI ((zcP v).1), dI ((zcP v).2)])) := by
  refine zq Tryz.func114 rfl (N := 8) rfl rfl (fun C => ?_)
  refine jk [0] rfl (jT rfl (oR 2 rfl (oZ rfl (jS rfl (jT rfl (oR 1 rfl (oW rfl rfl acs Tryz.call44 (fRight_c v) (oP rfl (zbc rfl) (oZ rfl ?_)))))))))
  refine jC rfl (fun hc1 => ?_) (fun hc1 => ?_)
  · simp only [bA, bB, bC, bD, bE, bF, bG, bH, bI, bJ] at hc1
    refine jT rfl (oR 2 rfl (oZ rfl (zm rfl (zd ?_))))
    exact zl Tryz.results114 (.cons (zx (zh rfl) (Cv.eq (congrArg (fun n => D.v (.int .i64 n)) (by unfold zcP; simp [hc1])))) (.cons (zx (zh rfl) (Cv.eq (congrArg (fun n => D.v (.int .i64 n)) (by unfold zcP; simp [hc1])))) .nil)) rfl HSub.none ⟨rfl, rfl⟩
  · simp only [bA, bB, bC, bD, bE, bF, bG, bH, bI, bJ] at hc1
    refine zj rfl (zb (jT rfl (oR 3 rfl (oZ rfl (zm rfl ?_)))))
    exact zl Tryz.results114 (.cons (zx (zh rfl) (Cv.eq (congrArg (fun n => D.v (.int .i64 n)) (by unfold zcP; simp [hc1])))) (.cons (zx (zh rfl) (Cv.eq (congrArg (fun n => D.v (.int .i64 n)) (by unfold zcP; simp [hc1])))) .nil)) rfl HSub.none ⟨rfl, rfl⟩

theorem indexS_c (ns : List ByteArray) (n : ByteArray)  :
    CD Tryz.prog 164 [] [.sh 1 (ns.map D.s), .s n] (isR (dI (idxN n 0 ns))) := by
  refine zq Tryz.func164 rfl (N := 19) rfl rfl (fun C => ?_)
  refine jk [0, 1] rfl ?_
  refine JD.bd 0 rfl (fun bd0 => ?_)
  have nl0 := zS bd0
  refine JD.bd 1 rfl (fun bd1 => ?_)
  have sz1 : n.size ≤ 9223372036854775807 := bd1
  refine jT rfl (oR 1 rfl (oZ rfl (jS rfl (jT rfl (oR 1 rfl (oP rfl (z6 (n := ns.length) rfl Tryz.runUnderlying23 (by simp only [lm, lc, ln])) (oR 1 rfl (oZ rfl (jB rfl (jl1 (fun (a_ : Nat) => [(0, .sh 1 (ns.map D.s)), (1, .s n), (7, dN ns.length), (8, dN a_)]) (fun a_ => []) (fun a_ => (idxN n 0 ns = idxN n a_ (ns.drop a_))) (fun a_ => ns.length - a_) 0 rfl (sa rfl) HSub.rfl' rfl ?_))))))))))
  rintro k hf
  refine ja rfl (jn rfl (jT rfl (oP rfl (zQ rfl rfl rfl) (oZ rfl (jS rfl ?_)))))
  refine jD rfl (fun hc1 => ?_) (fun hc1 => ?_)
  · skip
    refine zj rfl (zb (jS rfl (jB rfl (jT rfl (oR 2 rfl (oZ rfl (jT rfl (oR 3 rfl ?_))))))))
    obtain ⟨x1, hx1⟩ := zy ns k (by omega)
    refine oP rfl (zr (k := k) rfl rfl Tryz.runUnderlying23 Tryz.sizeOf9 (by first | rfl | omega) (zg hx1)) (oP rfl (zH rfl Tryz.isAgg9 rfl) (oP rfl (zbo rfl rfl rfl) (oZ rfl ?_)))
    refine jD rfl (fun hc2 => ?_) (fun hc2 => ?_)
    · skip
      refine jT rfl (oR 2 rfl (oZ rfl (zm rfl (zf (zd (zP (zf (zd ?_))))))))
      exact zl Tryz.results164 (.cons (zx (zh rfl) (Cv.eq (congrArg (fun n => D.v (.int .i64 n)) (by exact idxN_at hx1 hf hc2)))) .nil) rfl HSub.none ⟨rfl, rfl⟩
    · skip
      refine zj rfl (zp (zb (za rfl (oP rfl (zO (c := ((k + 1 : Nat) : Int)) rfl rfl (zB (by omega) (by omega))) (oR 1 rfl (ze rfl ?_))))))
      exact pl1 (k + 1) (sa rfl) HSub.rfl' (idxN_next hx1 hf hc2) (by omega)
  · skip
    refine zL rfl (zo (zn (zk (zb (jT rfl (oR 1 rfl (oZ rfl (zm rfl ?_))))))))
    exact zl Tryz.results164 (.cons (zx (zh rfl) (Cv.eq (congrArg (fun n => D.v (.int .i64 n)) (by exact idxN_end (by omega) hf)))) .nil) rfl HSub.none ⟨rfl, rfl⟩

theorem containsS_c (ns : List ByteArray) (n : ByteArray)  :
    CD Tryz.prog 117 [] [.sh 1 (ns.map D.s), .s n] (isR (dB (hasN ns n))) := by
  refine zq Tryz.func117 rfl (N := 9) rfl rfl (fun C => ?_)
  refine jk [0, 1] rfl ?_
  refine JD.bd 0 rfl (fun bd0 => ?_)
  have nl0 := zS bd0
  refine JD.bd 1 rfl (fun bd1 => ?_)
  have sz1 : n.size ≤ 9223372036854775807 := bd1
  refine jT rfl (oR 1 rfl (oZ rfl (jT rfl (oR 2 rfl (oW rfl rfl acs Tryz.call164 (indexS_c ns n) (oP rfl (zV rfl rfl rfl) (oR 1 rfl (oZ rfl (zm rfl ?_)))))))))
  exact zl Tryz.results117 (.cons (zx (zh rfl) (Cv.eq (congrArg (fun b => D.v (.bool b)) (by exact idxN_has n ns 0)))) .nil) rfl HSub.none ⟨rfl, rfl⟩

end Lp
/- Walks, printed by a program of mine. -/
set_option linter.unusedSimpArgs false
set_option linter.unusedVariables false
set_option maxHeartbeats 4000000
set_option maxRecDepth 100000
namespace Lp
open Go Go.RowKit Go.Proofs

namespace HdYtfjinapgehafiaaGreatV1
theorem zak (b o : Nat) : ∀ w, (Instr.fieldAt 62 (.pointer (some ⟨b, o, none⟩)) 0).run Tryz.prog w = .ok (.pointer (some ⟨b, o + 0, none⟩)) w := fun _ => by kernel_rfl
theorem zaC (b o : Nat) : ∀ w, (Instr.fieldAt 62 (.pointer (some ⟨b, o, none⟩)) 1).run Tryz.prog w = .ok (.pointer (some ⟨b, o + 1, none⟩)) w := fun _ => by kernel_rfl
end HdYtfjinapgehafiaaGreatV1
open HdYtfjinapgehafiaaGreatV1

theorem ext_cmpstring (a b : ByteArray) (w : World) : (callFunc 221 #[.string a, .string b]).run Tryz.prog w = .ok (.value (.int .i64 (cmpS a b))) w := by
  rw [run_callFunc_extern Tryz.func221 (by kernel_rfl) (by kernel_rfl) (by kernel_rfl) (e := Extern.BytealgCompare.compare) (by kernel_rfl), Lib.run_compareString]
  rfl

theorem p_cmpstring {ty : TypeId} {K : Kd} {H : List Hp} {x y : Operand} {ats : Array TypeId} {a b : ByteArray} (hx : opS K x = some a) (hy : opS K y = some b) : Pu Tryz.prog (.call { callee := .value (.func 221), args := #[x, y], argTypes := ats }) ty K H (dI (cmpS a b)) :=
  ⟨fun ρ w F hk _ _ => e_ext (vs := [.string a, .string b]) (zA ρ [x, y]) (by rw [show (#[x, y] : Array Operand).toList = [x, y] from rfl, zcG ρ [x, y] [x, y] (fun _ h => h)]; simp [hk.opS hx, hk.opS hy]) (ext_cmpstring a b) ⟨rfl, rfl⟩⟩

theorem CompareString_c (a : ByteArray) (b : ByteArray)  :
    CD Tryz.prog 203 [] [.s a, .s b] (isR (dI (cmpS a b))) := by
  refine zq Tryz.func203 rfl (N := 8) rfl rfl (fun C => ?_)
  refine jk [0, 1] rfl ?_
  refine JD.bd 0 rfl (fun bd0 => ?_)
  have sz0 : a.size ≤ 9223372036854775807 := bd0
  refine JD.bd 1 rfl (fun bd1 => ?_)
  have sz1 : b.size ≤ 9223372036854775807 := bd1
  refine jT rfl (oR 1 rfl (oZ rfl (jT rfl (oR 2 rfl (oP rfl (p_cmpstring rfl rfl) (oR 1 rfl (oZ rfl (zm rfl ?_))))))))
  exact zl Tryz.results203 (.cons (zx (zh rfl) (Cv.eq (congrArg (fun n => D.v (.int .i64 n)) (by rfl)))) .nil) rfl HSub.none ⟨rfl, rfl⟩

theorem Compare_c (a : ByteArray) (b : ByteArray)  :
    CD Tryz.prog 188 [] [.s a, .s b] (isR (dI (cmpS a b))) := by
  refine zq Tryz.func188 rfl (N := 8) rfl rfl (fun C => ?_)
  refine jk [0, 1] rfl ?_
  refine JD.bd 0 rfl (fun bd0 => ?_)
  have sz0 : a.size ≤ 9223372036854775807 := bd0
  refine JD.bd 1 rfl (fun bd1 => ?_)
  have sz1 : b.size ≤ 9223372036854775807 := bd1
  refine jT rfl (oR 1 rfl (oZ rfl (jT rfl (oR 2 rfl (oW rfl rfl acs Tryz.call203 (CompareString_c a b) (oR 1 rfl (oZ rfl (zm rfl ?_))))))))
  exact zl Tryz.results188 (.cons (zh rfl) .nil) rfl HSub.none ⟨rfl, rfl⟩

theorem isNaN_c (x : Int)  :
    CD Tryz.prog 183 [] [dI x] (isR (dB false)) := by
  refine zq Tryz.func183 rfl (N := 6) rfl rfl (fun C => ?_)
  refine jk [0] rfl (jT rfl (oR 1 rfl (oZ rfl (jT rfl (oR 2 rfl (oP rfl (zbH rfl rfl (decide_eq_false (fun h => h rfl))) (oR 1 rfl (oZ rfl (zm rfl ?_)))))))))
  exact zl Tryz.results183 (.cons (zh rfl) .nil) rfl HSub.none ⟨rfl, rfl⟩

theorem cmpI_c (x : Int) (y : Int)  :
    CD Tryz.prog 147 [] [dI x, dI y] (isR (dI (cmpI x y))) := by
  refine zq Tryz.func147 rfl (N := 20) rfl rfl (fun C => ?_)
  refine jk [0, 1] rfl (jT rfl (oR 1 rfl (oZ rfl (jT rfl (oR 1 rfl (oW rfl rfl acs Tryz.call183 (isNaN_c x) (oR 1 rfl (oZ rfl (jT rfl (oR 1 rfl (oW rfl rfl acs Tryz.call183 (isNaN_c y) (oR 1 rfl (oZ rfl (jS rfl (jT rfl (oR 1 rfl (oZ rfl (jCf rfl (zj rfl (zb (jS rfl (jT rfl (oR 1 rfl (oZ rfl (jCf rfl (zj rfl (zb (jS rfl (jT rfl (oR 2 rfl (oP rfl (zQ rfl rfl rfl) (oZ rfl (jk [0, 1, 4, 16] rfl ?_)))))))))))))))))))))))))))))))))
  refine jD rfl (fun hc1 => ?_) (fun hc1 => ?_)
  · skip
    refine jT rfl (oR 1 rfl (oZ rfl (zm rfl (zd ?_))))
    exact zl Tryz.results147 (.cons (zx (zh rfl) (Cv.eq (congrArg (fun n => D.v (.int .i64 n)) (by unfold cmpI; simp [*])))) .nil) rfl HSub.none ⟨rfl, rfl⟩
  · skip
    refine zj rfl (zb (jS rfl (jT rfl (oR 2 rfl (oP rfl (zah rfl rfl rfl) (oZ rfl ?_))))))
    refine jD rfl (fun hc2 => ?_) (fun hc2 => ?_)
    · skip
      refine jT rfl (oR 1 rfl (oZ rfl (zm rfl (zd ?_))))
      exact zl Tryz.results147 (.cons (zx (zh rfl) (Cv.eq (congrArg (fun n => D.v (.int .i64 n)) (by unfold cmpI; simp [*])))) .nil) rfl HSub.none ⟨rfl, rfl⟩
    · skip
      refine zj rfl (zb (jT rfl (oR 1 rfl (oZ rfl (zm rfl ?_)))))
      exact zl Tryz.results147 (.cons (zx (zh rfl) (Cv.eq (congrArg (fun n => D.v (.int .i64 n)) (by unfold cmpI; simp [*])))) .nil) rfl HSub.none ⟨rfl, rfl⟩

theorem Or_c (ns : List Int)  :
    CD Tryz.prog 146 [] [.sh 1 (ns.map dI)] (isR (dI (zaZ ns))) := by
  refine zq Tryz.func146 rfl (N := 18) rfl rfl (fun C => ?_)
  refine jk [0] rfl ?_
  refine JD.bd 0 rfl (fun bd0 => ?_)
  have nl0 := zS bd0
  refine jT rfl (oR 1 rfl (oZ rfl (jT rfl (oR 1 rfl (oZ rfl (jS rfl (jT rfl (oR 1 rfl (oP rfl (z6 (n := ns.length) rfl Tryz.runUnderlying122 (by simp only [lm, lc, ln])) (oR 1 rfl (oZ rfl (jB rfl (jl1 (fun (a_ : Nat) => [(3, dI 0), (6, .sh 1 (ns.map dI)), (7, dN ns.length), (8, dN a_)]) (fun a_ => []) (fun a_ => (a_ ≤ ns.length) ∧ (zaZ ns = zaZ (ns.drop a_))) (fun a_ => ns.length - a_) 0 rfl (sa rfl) HSub.rfl' ⟨Nat.zero_le _, by simp⟩ ?_)))))))))))))
  rintro k ⟨hk, hf⟩
  refine ja rfl (jn rfl (jT rfl (oP rfl (zQ rfl rfl rfl) (oZ rfl (jS rfl ?_)))))
  refine jD rfl (fun hc1 => ?_) (fun hc1 => ?_)
  · skip
    refine zj rfl (zb (jS rfl (jB rfl (jT rfl ?_))))
    obtain ⟨x1, hx1⟩ := zy ns k (by omega)
    refine oP rfl (zr (k := k) rfl rfl Tryz.runUnderlying122 Tryz.sizeOf3 (by first | rfl | omega) (zg hx1)) (oP rfl (zH rfl Tryz.isAgg3 rfl) (oR 1 rfl (oZ rfl (jT rfl (oR 2 rfl (oP rfl (zbH rfl rfl rfl) (oZ rfl ?_)))))))
    refine jD rfl (fun hc2 => ?_) (fun hc2 => ?_)
    · skip
      refine jT rfl (oR 2 rfl (oZ rfl (zm rfl (zf (zd (zP (zf (zd ?_))))))))
      exact zl Tryz.results146 (.cons (zx (zh rfl) (Cv.eq (congrArg (fun n => D.v (.int .i64 n)) (by exact (firstNZ_at hx1 hf (by assumption)).symm)))) .nil) rfl HSub.none ⟨rfl, rfl⟩
    · skip
      refine zj rfl (zp (zb (za rfl (oP rfl (zO (c := ((k + 1 : Nat) : Int)) rfl rfl (zB (by omega) (by omega))) (oR 1 rfl (ze rfl ?_))))))
      exact pl1 (k + 1) (sa rfl) HSub.rfl' ⟨by omega, firstNZ_next hx1 hf (by omega)⟩ (by omega)
  · skip
    refine zL rfl (zo (zn (zk (zb (jT rfl (oR 2 rfl (oZ rfl (zm rfl ?_))))))))
    exact zl Tryz.results146 (.cons (zx (zh rfl) (Cv.eq (congrArg (fun n => D.v (.int .i64 n)) (by rw [hf, List.drop_eq_nil_of_le (by omega)]; rfl)))) .nil) rfl HSub.none ⟨rfl, rfl⟩

theorem order_c (a : Lbl) (b : Lbl)  :
    CD Tryz.prog 154 [] [Lbl.d a, Lbl.d b] (isR (dI (zD a b))) := by
  refine zq Tryz.func154 rfl (N := 17) rfl rfl (fun C => ?_)
  refine jk [0, 1] rfl ?_
  refine JD.bd 0 rfl (fun bd0 => ?_)
  refine JD.bd 1 rfl (fun bd1 => ?_)
  refine jT rfl (oE rfl (zbW rfl (CellD.agg)) ?_)
  rintro _ _ ⟨g1, rfl, rfl⟩
  refine oE rfl (zbW rfl (CellD.agg)) ?_
  rintro _ _ ⟨g2, rfl, rfl⟩
  refine oR 1 rfl (oZ rfl (jS rfl (jk [0, 1, 2, 3, 4] rfl (jn rfl (zW 9 [(5, dP g1 0, none), (6, .s a.n, none), (7, dP g2 0, none), (8, .s b.n, none), (9, dI (cmpS a.n b.n), none), (10, dP g1 1, none), (11, .s a.v, none), (12, dP g2 1, none), (13, .s b.v, none)] [.bx g2 62 (Lbl.d b), .bx g1 62 (Lbl.d a)] (Hn := [.bx g2 62 (Lbl.d b), .bx g1 62 (Lbl.d a)]) mixed rfl rfl rfl rfl HSub.rfl' rfl ⟨sa_p rfl rfl rfl (zw rfl zak rfl), sa_p rfl rfl rfl (zK rfl (i := 1) rfl Tryz.isAgg9 rfl), sa_p rfl rfl rfl (zw rfl zak rfl), sa_p rfl rfl rfl (zK rfl (i := 0) rfl Tryz.isAgg9 rfl), sa_q rfl rfl rfl (zaI rfl (.cons Cv.rfl' (.cons Cv.rfl' .nil)) Tryz.call188 (Compare_c a.n b.n) zaQ), sa_p rfl rfl rfl (zw rfl zaC rfl), sa_p rfl rfl rfl (zK rfl (i := 1) rfl Tryz.isAgg9 rfl), sa_p rfl rfl rfl (zw rfl zaC rfl), sa_p rfl rfl rfl (zK rfl (i := 0) rfl Tryz.isAgg9 rfl), trivial⟩ (ok [0, 1, 2, 3, 4, 5, 6, 7, 8, 9, 10, 11, 12, 13] rfl (oW rfl rfl acs Tryz.call188 (Compare_c a.v b.v) (oE rfl (zap [.tmp 9, .tmp 14] rfl rfl (.cons (CellD.v rfl) (.cons (CellD.v rfl) .nil)) rfl Tryz.runUnderlying122 Tryz.sizeOf3 Tryz.zeroValue3 rfl rfl rfl rfl) ?_))))))))
  rintro _ _ ⟨g3, rfl, rfl⟩
  refine oE rfl (zN [] _ [.sl (vS g3 2 2) 1 3 ([dI (cmpS a.n b.n), dI (cmpS a.v b.v)])] rfl rfl (.cons (ArgC.own (j := 0) rfl rfl) .nil) (zaV (j := 0) rfl zz) Tryz.call146 (Or_c [cmpS a.n b.n, cmpS a.v b.v]) (.inr (zbO rfl))) ?_
  rintro _ _ ⟨_, ⟨rfl, rfl⟩, rfl⟩
  refine on rfl (oR 1 rfl (oZ rfl (jk [4] rfl (zm rfl ?_))))
  exact zl Tryz.results154 (.cons (zx (zh rfl) (Cv.eq (congrArg (fun n => D.v (.int .i64 n)) (by rw [firstNZ_two]; rfl)))) .nil) rfl HSub.none ⟨rfl, rfl⟩

theorem CompareFunc_c (a b : List Lbl)  :
    CD Tryz.prog 153 [] [.sh 2 (a.map Lbl.d), .sh 2 (b.map Lbl.d), .fn 154 [] []] (isR (dI (zM a b))) := by
  refine zq Tryz.func153 rfl (N := 39) rfl rfl (fun C => ?_)
  refine jk [0, 1, 2] rfl ?_
  refine JD.bd 0 rfl (fun bd0 => ?_)
  have nl0 := zS bd0
  refine JD.bd 1 rfl (fun bd1 => ?_)
  have nl1 := zS bd1
  refine jT rfl (oR 1 rfl (oZ rfl (jS rfl (jT rfl (oR 1 rfl (oP rfl (z6 (n := a.length) rfl Tryz.runUnderlying50 (by simp only [lm, lc, ln])) (oR 1 rfl (oZ rfl (jB rfl (jl1 (fun (a_ : Nat) => [(0, .sh 2 (a.map Lbl.d)), (1, .sh 2 (b.map Lbl.d)), (2, .fn 154 [] []), (11, .sh 2 (a.map Lbl.d)), (12, dN a.length), (13, dN a_)]) (fun a_ => []) (fun a_ => (a_ ≤ a.length) ∧ (zM a b = zM (a.drop a_) (b.drop a_))) (fun a_ => a.length - a_) 0 rfl (sa rfl) HSub.rfl' ⟨Nat.zero_le _, by simp⟩ ?_))))))))))
  rintro k ⟨hk, hf⟩
  refine ja rfl (jn rfl (jT rfl (oP rfl (zQ rfl rfl rfl) (oZ rfl (jS rfl ?_)))))
  refine jD rfl (fun hc1 => ?_) (fun hc1 => ?_)
  · skip
    refine zj rfl (zb (jS rfl (jB rfl (jT rfl (oR 1 rfl ?_)))))
    obtain ⟨x1, hx1⟩ := zy a k (by omega)
    refine oP rfl (zr (k := k) rfl rfl Tryz.runUnderlying50 Tryz.sizeOf62 (by first | rfl | omega) (zg hx1)) (oP rfl (zaJ (d := Lbl.d x1) rfl Tryz.isAgg62 Tryz.sizeOf62 rfl rfl) (oE rfl (zar (zv := (.agg #[(.string ByteArray.empty), (.string ByteArray.empty)])) Tryz.zeroValue62 ⟨rfl, rfl, trivial⟩ (Cv.vagg (by decide))) ?_))
    rintro _ _ ⟨g2, rfl, rfl⟩
    refine oR 1 rfl (oE rfl (zY (i := 0) (X' := Lbl.d x1) rfl rfl rfl (CellD.agg) Tryz.sizeOf62 rfl rfl rfl) ?_)
    rintro _ _ ⟨rfl, rfl⟩
    refine on rfl (oZ rfl (jS rfl (jT rfl (oR 2 rfl (oP rfl (z6 (n := b.length) rfl Tryz.runUnderlying50 (by simp only [lm, lc, ln])) (oP rfl (zV rfl rfl rfl) (oZ rfl ?_)))))))
    refine jD rfl (fun hc3 => ?_) (fun hc3 => ?_)
    · skip
      refine jT rfl (oR 1 rfl (oZ rfl (zm rfl (zd (zf (zd (zP (zf (zd ?_)))))))))
      exact zl Tryz.results153 (.cons (zx (zh rfl) (Cv.eq (congrArg (fun n => D.v (.int .i64 n)) (by exact (cmpLs_right hx1 (by omega) hf).symm)))) .nil) rfl HSub.none ⟨rfl, rfl⟩
    · skip
      refine zj rfl (zb (jT rfl (oR 2 rfl ?_)))
      obtain ⟨x2, hx2⟩ := zy b k (by omega)
      refine oP rfl (zr (k := k) rfl rfl Tryz.runUnderlying50 Tryz.sizeOf62 (by first | rfl | omega) (zg hx2)) (oP rfl (zaJ (d := Lbl.d x2) rfl Tryz.isAgg62 Tryz.sizeOf62 rfl rfl) (oE rfl (zar (zv := (.agg #[(.string ByteArray.empty), (.string ByteArray.empty)])) Tryz.zeroValue62 ⟨rfl, rfl, trivial⟩ (Cv.vagg (by decide))) ?_))
      rintro _ _ ⟨g4, rfl, rfl⟩
      refine oE rfl (zY (i := 0) (X' := Lbl.d x2) rfl rfl rfl (CellD.agg) Tryz.sizeOf62 rfl rfl rfl) ?_
      rintro _ _ ⟨rfl, rfl⟩
      refine on rfl (oZ rfl (jT rfl (oR 1 rfl (oP rfl (zaP (d := Lbl.d x1) rfl (i := 1) rfl Tryz.isAgg62 Tryz.sizeOf62 rfl rfl) (oP rfl (zaP (d := Lbl.d x2) rfl (i := 0) rfl Tryz.isAgg62 Tryz.sizeOf62 rfl rfl) (oE rfl (zbk [] _ [] rfl rfl rfl (.cons ArgC.id (.cons ArgC.id .nil)) zz Tryz.call154 (order_c x1 x2) (.inl rfl)) ?_))))))
      rintro _ _ ⟨_, ⟨rfl, rfl⟩, rfl⟩
      refine on rfl (oR 1 rfl (oZ rfl (jT rfl (oR 1 rfl (oP rfl (zbH rfl rfl rfl) (oZ rfl ?_))))))
      refine jD rfl (fun hc5 => ?_) (fun hc5 => ?_)
      · skip
        refine jT rfl (oR 2 rfl (oZ rfl (zm rfl (zf (zd (zP (zf (zd ?_))))))))
        exact zl Tryz.results153 (.cons (zx (zh rfl) (Cv.eq (congrArg (fun n => D.v (.int .i64 n)) (by exact (cmpLs_at hx1 hx2 hf (by assumption)).symm)))) .nil) rfl HSub.none ⟨rfl, rfl⟩
      · skip
        refine zj rfl (zp (zb (za rfl (oP rfl (zO (c := ((k + 1 : Nat) : Int)) rfl rfl (zB (by omega) (by omega))) (oR 1 rfl (ze rfl ?_))))))
        exact pl1 (k + 1) (sa rfl) HSub.none ⟨by omega, cmpLs_next hx1 hx2 hf (by omega)⟩ (by omega)
  · skip
    refine zL rfl (zo (zn (zk (zb (jS rfl (jT rfl (oR 1 rfl (oP rfl (z6 (n := a.length) rfl Tryz.runUnderlying50 (by simp only [lm, lc, ln])) (oR 1 rfl (oP rfl (z6 (n := b.length) rfl Tryz.runUnderlying50 (by simp only [lm, lc, ln])) (oP rfl (zQ rfl rfl rfl) (oZ rfl (jk [38] rfl ?_)))))))))))))
    refine jD rfl (fun hc6 => ?_) (fun hc6 => ?_)
    · skip
      refine jT rfl (oR 1 rfl (oZ rfl (zm rfl (zd ?_))))
      exact zl Tryz.results153 (.cons (zx (zh rfl) (Cv.eq (congrArg (fun n => D.v (.int .i64 n)) (by rw [cmpLs_end (by omega) hf (by omega)]; first | rw [if_pos (by omega)] | rw [if_neg (by omega)])))) .nil) rfl HSub.none ⟨rfl, rfl⟩
    · skip
      refine zj rfl (zb (jT rfl (oR 1 rfl (oZ rfl (zm rfl ?_)))))
      exact zl Tryz.results153 (.cons (zx (zh rfl) (Cv.eq (congrArg (fun n => D.v (.int .i64 n)) (by rw [cmpLs_end (by omega) hf (by omega)]; first | rw [if_pos (by omega)] | rw [if_neg (by omega)])))) .nil) rfl HSub.none ⟨rfl, rfl⟩

theorem zcp (a : List Lbl) (b : List Lbl)  :
    CD Tryz.prog 106 [] [.sh 2 (a.map Lbl.d), .sh 2 (b.map Lbl.d)] (isR (dI (zM a b))) := by
  refine zq Tryz.func106 rfl (N := 8) rfl rfl (fun C => ?_)
  refine jk [0, 1] rfl ?_
  refine JD.bd 0 rfl (fun bd0 => ?_)
  have nl0 := zS bd0
  refine JD.bd 1 rfl (fun bd1 => ?_)
  have nl1 := zS bd1
  refine jT rfl (oR 1 rfl (oZ rfl (jT rfl (oR 2 rfl (oW rfl rfl acs Tryz.call153 (CompareFunc_c a b) (oR 1 rfl (oZ rfl (zm rfl ?_))))))))
  exact zl Tryz.results106 (.cons (zh rfl) .nil) rfl HSub.none ⟨rfl, rfl⟩

theorem texts_c (a : ByteArray) (b : ByteArray)  :
    CD Tryz.prog 120 [] [.s a, .s b] (isR (dI (cmpS a b))) := by
  refine zq Tryz.func120 rfl (N := 13) rfl rfl (fun C => ?_)
  refine jk [0, 1] rfl ?_
  refine JD.bd 0 rfl (fun bd0 => ?_)
  have sz0 : a.size ≤ 9223372036854775807 := bd0
  refine JD.bd 1 rfl (fun bd1 => ?_)
  have sz1 : b.size ≤ 9223372036854775807 := bd1
  refine jT rfl (oR 1 rfl (oZ rfl (jS rfl (jB rfl (jT rfl (oR 2 rfl (oP rfl (p_lts rfl rfl rfl) (oR 1 rfl (oZ rfl ?_)))))))))
  refine jD rfl (fun hc1 => ?_) (fun hc1 => ?_)
  · skip
    refine jT rfl (oR 1 rfl (oZ rfl (zm rfl (zf (zd ?_)))))
    exact zl Tryz.results120 (.cons (zx (zh rfl) (Cv.eq (congrArg (fun n => D.v (.int .i64 n)) (by rcases cmpS_cases a b with h | h | h <;> rw [h] <;> omega)))) .nil) rfl HSub.none ⟨rfl, rfl⟩
  · skip
    refine jT rfl (oR 2 rfl (oP rfl (p_gts rfl rfl rfl) (oR 1 rfl (oZ rfl (jk [4, 9] rfl ?_)))))
    refine jD rfl (fun hc2 => ?_) (fun hc2 => ?_)
    · skip
      refine jT rfl (oR 1 rfl (oZ rfl (zm rfl (zf (zd ?_)))))
      exact zl Tryz.results120 (.cons (zx (zh rfl) (Cv.eq (congrArg (fun n => D.v (.int .i64 n)) (by rcases cmpS_cases a b with h | h | h <;> rw [h] <;> omega)))) .nil) rfl HSub.none ⟨rfl, rfl⟩
    · skip
      refine zj rfl (zp (zb (jT rfl (oR 1 rfl (oZ rfl (zm rfl ?_))))))
      exact zl Tryz.results120 (.cons (zx (zh rfl) (Cv.eq (congrArg (fun n => D.v (.int .i64 n)) (by rcases cmpS_cases a b with h | h | h <;> rw [h] <;> omega)))) .nil) rfl HSub.none ⟨rfl, rfl⟩

theorem refCompare_c (a : List Lbl) (b : List Lbl)  :
    CD Tryz.prog 54 [] [.sh 2 (a.map Lbl.d), .sh 2 (b.map Lbl.d)] (isR (dI (zM a b))) := by
  refine zq Tryz.func54 rfl (N := 58) rfl rfl (fun C => ?_)
  refine jk [0, 1] rfl ?_
  refine JD.bd 0 rfl (fun bd0 => ?_)
  have nl0 := zS bd0
  refine JD.bd 1 rfl (fun bd1 => ?_)
  have nl1 := zS bd1
  refine jT rfl (oR 1 rfl (oZ rfl (jS rfl (jT rfl (oR 1 rfl (oZ rfl (jB rfl (jl1 (fun (a_ : Nat) => [(0, .sh 2 (a.map Lbl.d)), (1, .sh 2 (b.map Lbl.d)), (5, dN a_)]) (fun a_ => []) (fun a_ => (a_ ≤ a.length) ∧ (a_ ≤ b.length) ∧ (zM a b = zM (a.drop a_) (b.drop a_))) (fun a_ => a.length - a_) 0 rfl (sa rfl) HSub.rfl' ⟨Nat.zero_le _, Nat.zero_le _, by simp⟩ ?_))))))))
  rintro k ⟨hk, hk2, hf⟩
  refine ja rfl (jn rfl (jS rfl (jS rfl (jk [0, 1, 5] rfl ?_))))
  refine zal 16 ((decide (((k : Nat) : Int) < ((a.length : Nat) : Int)) && decide (((k : Nat) : Int) < ((b.length : Nat) : Int)))) [] (fun _ hQ1 => ?_) ?_
  · skip
    by_cases hg2 : ((k : Nat) : Int) < ((a.length : Nat) : Int)
    · skip
      refine za rfl (oR 2 rfl (oP rfl (z6 (n := a.length) rfl Tryz.runUnderlying50 (by simp only [lm, lc, ln])) (oP rfl (zQ rfl rfl (decide_eq_true hg2)) (oR 3 rfl (oG rfl (z6 (n := b.length) rfl Tryz.runUnderlying50 (by simp only [lm, lc, ln])) (oG rfl (zQ rfl rfl rfl) (oR 1 rfl (ze rfl ?_))))))))
      exact PD.sub ((16, dB (decide (((k : Nat) : Int) < ((a.length : Nat) : Int)) && decide (((k : Nat) : Int) < ((b.length : Nat) : Int)))) :: [(0, .sh 2 (a.map Lbl.d)), (1, .sh 2 (b.map Lbl.d)), (5, dN k)]) ⟨sc rfl (Cv.eq (congrArg (fun b => D.v (.bool b)) (by first | (simp [hg2]; done) | (simp_all; done)))), sk rfl, sk rfl, sk rfl, trivial⟩ hQ1
    · skip
      refine za rfl (oR 2 rfl (oP rfl (z6 (n := a.length) rfl Tryz.runUnderlying50 (by simp only [lm, lc, ln])) (oP rfl (zQ rfl rfl (decide_eq_false hg2)) (oR 6 rfl (ze rfl ?_)))))
      exact PD.sub ((16, dB (decide (((k : Nat) : Int) < ((a.length : Nat) : Int)) && decide (((k : Nat) : Int) < ((b.length : Nat) : Int)))) :: [(0, .sh 2 (a.map Lbl.d)), (1, .sh 2 (b.map Lbl.d)), (5, dN k)]) ⟨sc rfl (Cv.eq (congrArg (fun b => D.v (.bool b)) (by first | (simp [hg2]; done) | (simp_all; done)))), sk rfl, sk rfl, sk rfl, trivial⟩ hQ1
  · skip
    refine zb ?_
    refine jC rfl (fun hc3 => ?_) (fun hc3 => ?_)
    · simp only [bA, bB, bC, bD, bE, bF, bG, bH, bI, bJ] at hc3
      refine zj rfl (zb (jS rfl (jB rfl (jS rfl (jk [0, 1, 5, 16] rfl (jn rfl ?_))))))
      obtain ⟨x1, hx1⟩ := zy a k (by omega)
      obtain ⟨x2, hx2⟩ := zy b k (by omega)
      refine zW 10 [(19, .sh 2 (a.map Lbl.d), none), (20, dN k, none), (21, .el (Lbl.d x1) 0, none), (22, .el (Lbl.d x1) 0, none), (23, .s x1.n, none), (24, .sh 2 (b.map Lbl.d), none), (25, dN k, none), (26, .el (Lbl.d x2) 0, none), (27, .el (Lbl.d x2) 0, none), (28, .s x2.n, none)] [] (Hn := []) mixed rfl rfl rfl rfl HSub.rfl' rfl ⟨sa_p rfl rfl rfl (zc rfl), sa_p rfl rfl rfl (zc rfl), sa_p rfl rfl rfl (zr (k := k) rfl rfl Tryz.runUnderlying50 Tryz.sizeOf62 (by first | rfl | omega) (zg hx1)), sa_p rfl rfl rfl (zF rfl zak rfl), sa_p rfl rfl rfl (zH rfl Tryz.isAgg9 rfl), sa_p rfl rfl rfl (zc rfl), sa_p rfl rfl rfl (zc rfl), sa_p rfl rfl rfl (zr (k := k) rfl rfl Tryz.runUnderlying50 Tryz.sizeOf62 (by first | rfl | omega) (zg hx2)), sa_p rfl rfl rfl (zF rfl zak rfl), sa_p rfl rfl rfl (zH rfl Tryz.isAgg9 rfl), trivial⟩ (ok [0, 1, 5, 16, 19, 20, 21, 22, 23, 24, 25, 26, 27, 28] rfl (oW rfl rfl acs Tryz.call120 (texts_c x1.n x2.n) (oR 1 rfl (oZ rfl (jS rfl (jT rfl (oR 1 rfl (oP rfl (zR rfl rfl rfl) (oZ rfl ?_)))))))))
      refine jD rfl (fun hc4 => ?_) (fun hc4 => ?_)
      · skip
        refine jk [0, 1, 5, 6, 16, 19, 20, 21, 22, 23, 24, 25, 26, 27, 28, 29, 30, 31] rfl (jn rfl (zW 10 [(32, .sh 2 (a.map Lbl.d), none), (33, dN k, none), (34, .el (Lbl.d x1) 0, none), (35, .el (Lbl.d x1) 1, none), (36, .s x1.v, none), (37, .sh 2 (b.map Lbl.d), none), (38, dN k, none), (39, .el (Lbl.d x2) 0, none), (40, .el (Lbl.d x2) 1, none), (41, .s x2.v, none)] [] (Hn := []) mixed rfl rfl rfl rfl HSub.rfl' rfl ⟨sa_p rfl rfl rfl (zc rfl), sa_p rfl rfl rfl (zc rfl), sa_p rfl rfl rfl (zr (k := k) rfl rfl Tryz.runUnderlying50 Tryz.sizeOf62 (by first | rfl | omega) (zg hx1)), sa_p rfl rfl rfl (zF rfl zaC rfl), sa_p rfl rfl rfl (zH rfl Tryz.isAgg9 rfl), sa_p rfl rfl rfl (zc rfl), sa_p rfl rfl rfl (zc rfl), sa_p rfl rfl rfl (zr (k := k) rfl rfl Tryz.runUnderlying50 Tryz.sizeOf62 (by first | rfl | omega) (zg hx2)), sa_p rfl rfl rfl (zF rfl zaC rfl), sa_p rfl rfl rfl (zH rfl Tryz.isAgg9 rfl), trivial⟩ (ok [0, 1, 5, 6, 16, 19, 20, 21, 22, 23, 24, 25, 26, 27, 28, 29, 30, 31, 32, 33, 34, 35, 36, 37, 38, 39, 40, 41] rfl (oW rfl rfl acs Tryz.call120 (texts_c x1.v x2.v) (oR 1 rfl (oZ rfl (jT rfl (oR 1 rfl (oP rfl (zbH rfl rfl rfl) (oZ rfl ?_))))))))))
        refine jD rfl (fun hc5 => ?_) (fun hc5 => ?_)
        · skip
          refine jT rfl (oR 2 rfl (oZ rfl (zm rfl (zf (zd (zP (zf (zd ?_))))))))
          exact zl Tryz.results54 (.cons (zx (zh rfl) (Cv.eq (congrArg (fun n => D.v (.int .i64 n)) (by rw [cmpLs_at hx1 hx2 hf (by unfold zD or2; split <;> omega)]; unfold zD or2; first | rw [if_pos (by omega)] | rw [if_neg (by omega)])))) .nil) rfl HSub.none ⟨rfl, rfl⟩
        · skip
          refine zj rfl (zp (zb (za rfl (oR 1 rfl (oP rfl (zO (c := ((k + 1 : Nat) : Int)) rfl rfl (zB (by omega) (by omega))) (oR 1 rfl (ze rfl ?_)))))))
          exact pl1 (k + 1) (sa rfl) HSub.rfl' ⟨by omega, by omega, cmpLs_next hx1 hx2 hf (by unfold zD or2; split <;> omega)⟩ (by omega)
      · skip
        refine zj rfl (zb (jT rfl (oR 1 rfl (oP rfl (zbH rfl rfl rfl) (oZ rfl ?_)))))
        refine jD rfl (fun hc6 => ?_) (fun hc6 => ?_)
        · skip
          refine jT rfl (oR 2 rfl (oZ rfl (zm rfl (zf (zd (zP (zf (zd ?_))))))))
          exact zl Tryz.results54 (.cons (zx (zh rfl) (Cv.eq (congrArg (fun n => D.v (.int .i64 n)) (by rw [cmpLs_at hx1 hx2 hf (by unfold zD or2; split <;> omega)]; unfold zD or2; first | rw [if_pos (by omega)] | rw [if_neg (by omega)])))) .nil) rfl HSub.none ⟨rfl, rfl⟩
        · skip
          refine zj rfl (zp (zb (za rfl (oR 1 rfl (oP rfl (zO (c := ((k + 1 : Nat) : Int)) rfl rfl (zB (by omega) (by omega))) (oR 1 rfl (ze rfl ?_)))))))
          exact pl1 (k + 1) (sa rfl) HSub.rfl' ⟨by omega, by omega, cmpLs_next hx1 hx2 hf (by unfold zD or2; split <;> omega)⟩ (by omega)
    · simp only [bA, bB, bC, bD, bE, bF, bG, bH, bI, bJ] at hc3
      refine zL rfl (zo (zn (zk (zb (jS rfl (jB rfl (jT rfl (oR 1 rfl (oP rfl (z6 (n := a.length) rfl Tryz.runUnderlying50 (by simp only [lm, lc, ln])) (oR 1 rfl (oP rfl (z6 (n := b.length) rfl Tryz.runUnderlying50 (by simp only [lm, lc, ln])) (oP rfl (zQ rfl rfl rfl) (oR 1 rfl (oZ rfl ?_))))))))))))))
      refine jD rfl (fun hc7 => ?_) (fun hc7 => ?_)
      · skip
        refine jT rfl (oR 1 rfl (oZ rfl (jk [4] rfl (zm rfl (zf (zd ?_))))))
        exact zl Tryz.results54 (.cons (zx (zh rfl) (Cv.eq (congrArg (fun n => D.v (.int .i64 n)) (by rw [hf]; first | rw [cmpLs_nil (by omega) (by omega) (by omega)] | rw [cmpLs_nil_l (by omega) (by omega)] | rw [cmpLs_nil_r (by omega) (by omega)])))) .nil) rfl HSub.none ⟨rfl, rfl⟩
      · skip
        refine jT rfl (oR 1 rfl (oP rfl (z6 (n := a.length) rfl Tryz.runUnderlying50 (by simp only [lm, lc, ln])) (oR 1 rfl (oP rfl (z6 (n := b.length) rfl Tryz.runUnderlying50 (by simp only [lm, lc, ln])) (oP rfl (zah rfl rfl rfl) (oR 1 rfl (oZ rfl (jk [52] rfl ?_))))))))
        refine jD rfl (fun hc8 => ?_) (fun hc8 => ?_)
        · skip
          refine jT rfl (oR 1 rfl (oZ rfl (zm rfl (zf (zd ?_)))))
          exact zl Tryz.results54 (.cons (zx (zh rfl) (Cv.eq (congrArg (fun n => D.v (.int .i64 n)) (by rw [hf]; first | rw [cmpLs_nil (by omega) (by omega) (by omega)] | rw [cmpLs_nil_l (by omega) (by omega)] | rw [cmpLs_nil_r (by omega) (by omega)])))) .nil) rfl HSub.none ⟨rfl, rfl⟩
        · skip
          refine zj rfl (zp (zb (jT rfl (oR 1 rfl (oZ rfl (zm rfl ?_))))))
          exact zl Tryz.results54 (.cons (zx (zh rfl) (Cv.eq (congrArg (fun n => D.v (.int .i64 n)) (by rw [hf]; first | rw [cmpLs_nil (by omega) (by omega) (by omega)] | rw [cmpLs_nil_l (by omega) (by omega)] | rw [cmpLs_nil_r (by omega) (by omega)])))) .nil) rfl HSub.none ⟨rfl, rfl⟩
end Lp
