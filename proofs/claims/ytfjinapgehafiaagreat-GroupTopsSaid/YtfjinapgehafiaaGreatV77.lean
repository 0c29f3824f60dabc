/-
  DERIVED: THE SHELF's CONTRACTS AT THIS DUMP, IN PLAIN WORDS (tools/lay-plain.mjs out of 'YtfjinapgehafiaaGreatShelf.lean', which tools/lay-shelf.mjs wrote): THE SAME DECLARATIONS UNDER THE SAME NAMES: 'import', 'namespace', 'open', 'def', 'theorem' AND NOTHING ELSE: no command of the shelf's: FOR A HAND-IN. Each laying: the table of numbers ('.._ren') and one theorem, a field a fact of the dump's own or the kernel's comparison; each contract: ONE APPLICATION.
-/
import Derived.Shelf.Sort.Plain
import Derived.Test.YtfjinapgehafiaaGreatProg
import Derived.Test.YtfjinapgehafiaaGreatDSort
namespace Go.Proofs
open Go.Shelf
def Tryz.lays189_ren : Go.Shelf.Ren := ⟨fun | 189 => 187 | 125 => 145 | 257 => 202 | 128 => 181 | 129 => 182 | 294 => 212 | 295 => 213 | 296 => 214 | 297 => 215 | 298 => 216 | 299 => 217 | 216 => 218 | 300 => 219 | 301 => 220 | 328 => 230 | 329 => 198 | 330 => 199 | 331 => 231 | 332 => 232 | 215 => 183 | 343 => 236 | n => n, fun | 28 => 122 | 3 => 3 | 46 => 165 | 0 => 0 | 51 => 205 | 53 => 207 | 4 => 4 | 183 => 199 | 182 => 198 | 131 => 108 | 5 => 5 | 9 => 9 | 218 => 214 | 222 => 218 | 228 => 226 | 229 => 227 | n => n, fun | n => n⟩
theorem Tryz.lays189 : Go.Proofs.Lays.n189 Tryz.prog Tryz.lays189_ren := {
  mixed := by kernel_rfl
  f125 := Tryz.func145.trans (congrArg some (by kernel_rfl))
  f128 := Tryz.func181.trans (congrArg some (by kernel_rfl))
  f129 := Tryz.func182.trans (congrArg some (by kernel_rfl))
  f189 := Tryz.func187.trans (congrArg some (by kernel_rfl))
  f215 := Tryz.func183.trans (congrArg some (by kernel_rfl))
  f216 := Tryz.func218.trans (congrArg some (by kernel_rfl))
  f257 := Tryz.func202.trans (congrArg some (by kernel_rfl))
  f294 := Tryz.func212.trans (congrArg some (by kernel_rfl))
  f295 := Tryz.func213.trans (congrArg some (by kernel_rfl))
  f296 := Tryz.func214.trans (congrArg some (by kernel_rfl))
  f297 := Tryz.func215.trans (congrArg some (by kernel_rfl))
  f298 := Tryz.func216.trans (congrArg some (by kernel_rfl))
  f299 := Tryz.func217.trans (congrArg some (by kernel_rfl))
  f300 := Tryz.func219.trans (congrArg some (by kernel_rfl))
  f301 := Tryz.func220.trans (congrArg some (by kernel_rfl))
  f328 := Tryz.func230.trans (congrArg some (by kernel_rfl))
  f329 := Tryz.func198.trans (congrArg some (by kernel_rfl))
  f330 := Tryz.func199.trans (congrArg some (by kernel_rfl))
  f331 := Tryz.func231.trans (congrArg some (by kernel_rfl))
  f332 := Tryz.func232.trans (congrArg some (by kernel_rfl))
  f343 := Tryz.func236.trans (congrArg some (by kernel_rfl))
  t0 := Tryz.underlying0
  a0 := Tryz.isAgg0
  z0 := Tryz.sizeOf0
  v0 := Tryz.zeroValue0
  t3 := Tryz.underlying3
  a3 := Tryz.isAgg3
  z3 := Tryz.sizeOf3
  v3 := Tryz.zeroValue3
  t4 := Tryz.underlying4
  a4 := Tryz.isAgg4
  z4 := Tryz.sizeOf4
  v4 := Tryz.zeroValue4
  t5 := Tryz.underlying5
  a5 := Tryz.isAgg5
  z5 := Tryz.sizeOf5
  v5 := Tryz.zeroValue5
  t9 := Tryz.underlying9
  a9 := Tryz.isAgg9
  z9 := Tryz.sizeOf9
  v9 := Tryz.zeroValue9
  t28 := Tryz.underlying122
  a28 := Tryz.isAgg122
  z28 := Tryz.sizeOf122
  v28 := Tryz.zeroValue122
  t46 := Tryz.underlying165
  a46 := Tryz.isAgg165
  z46 := Tryz.sizeOf165
  v46 := Tryz.zeroValue165
  t51 := Tryz.underlying205
  a51 := Tryz.isAgg205
  z51 := Tryz.sizeOf205
  v51 := Tryz.zeroValue205
  t53 := Tryz.underlying207
  a53 := Tryz.isAgg207
  z53 := Tryz.sizeOf207
  v53 := Tryz.zeroValue207
  t131 := Tryz.underlying108
  a131 := Tryz.isAgg108
  z131 := Tryz.sizeOf108
  v131 := Tryz.zeroValue108
  t182 := Tryz.underlying198
  a182 := Tryz.isAgg198
  z182 := Tryz.sizeOf198
  v182 := Tryz.zeroValue198
  t183 := Tryz.underlying199
  a183 := Tryz.isAgg199
  z183 := Tryz.sizeOf199
  v183 := Tryz.zeroValue199
  t218 := Tryz.underlying214
  a218 := Tryz.isAgg214
  z218 := Tryz.sizeOf214
  v218 := Tryz.zeroValue214
  t222 := Tryz.underlying218
  a222 := Tryz.isAgg218
  z222 := Tryz.sizeOf218
  v222 := Tryz.zeroValue218
  t228 := Tryz.underlying226
  a228 := Tryz.isAgg226
  z228 := Tryz.sizeOf226
  v228 := Tryz.zeroValue226
  t229 := Tryz.underlying227
  a229 := Tryz.isAgg227
  z229 := Tryz.sizeOf227
  v229 := Tryz.zeroValue227 }
end Go.Proofs
/- Walks, printed by a program of mine. -/
set_option linter.unusedSimpArgs false
set_option linter.unusedVariables false
set_option maxHeartbeats 4000000
set_option maxRecDepth 100000
namespace Lp
open Go Go.RowKit Go.Proofs

namespace HdYtfjinapgehafiaaGreatV83
theorem eqn_122 (x : Operand) (A : Option Addr) (n c : Nat) (w : World) : (do eqGuard .eql 122 x (.const (.slice none 0 0)) (.slice A n c) (.slice none 0 0); binOp .eql 122 (.slice A n c) (.slice none 0 0) : Sem Value).run Tryz.prog w = .ok (.bool A.isNone) w := by cases A <;> kernel_rfl
theorem infz_3 : ∃ i, Tryz.prog.info? 3 = some i ∧ i.zero = some (.int .i64 0) ∧ i.size = 1 ∧ i.bytes = 8 := za3 (by kernel_rfl)
theorem und_122 : Tryz.prog.underlying 122 = some (.slice 3) := by kernel_rfl
end HdYtfjinapgehafiaaGreatV83
open HdYtfjinapgehafiaaGreatV83

theorem cloneI_c (l : List Int) (hl : l.length ≤ 1000000) :
    CD Tryz.prog 186 [] [.sh 1 (l.map dI)] (zcU 1 3 (l.map dI)) := by
  refine zq Tryz.func186 rfl (N := 8) rfl rfl (fun C => ?_)
  refine jk [0] rfl ?_
  refine JD.bd 0 rfl (fun bd0 => ?_)
  have nl0 := zS bd0
  refine jT rfl (oR 1 rfl (oZ rfl (jS rfl (jT rfl (oR 1 rfl (oE rfl (ef_isNil rfl (eqn_122 _)) ?_))))))
  rintro _ _ ⟨b1, rfl, rfl, hb1⟩
  refine oZ rfl ?_
  refine jC rfl (fun hc2 => ?_) (fun hc2 => ?_)
  · skip
    refine jT rfl (oR 1 rfl (oZ rfl (zm rfl (zd ?_))))
    refine PD.drop (PD.subH (HSub.nil 1 3) ?_)
    refine PD.subH (HSub.turn (h' := .sl (.slice none 0 0) 1 3 (l.map dI)) rfl (Hp.eq_sl (show List.map dI [] = List.map dI l from congrArg _ (by exact (List.map_eq_nil_iff.1 (hb1 hc2)).symm)))) ?_
    exact zbn Tryz.results186 (.cons (zx (zh rfl) (Cv.ov rfl)) .nil) rfl ⟨_, rfl, rfl⟩
  · skip
    refine zj rfl (zb (jT rfl (oE rfl (ef_buildSlice0 Tryz.runUnderlying122 Tryz.sizeOf3) ?_)))
    rintro _ _ ⟨g3, rfl, rfl⟩
    refine oR 1 rfl (oE rfl (zac (f := dI) (l := []) (l' := l) (i := 0) rfl rfl rfl (SrcD.sh) und_122 infz_3 rfl rfl (by unfold maxLen; (try simp only [la, lc, ln, lm, lt', ld, ls, lr]); omega) (by (try simp only [la, lc, ln, lm, lt', ld, ls, lr]); omega)) ?_)
    rintro _ _ ⟨v4, rfl, rfl⟩
    refine on rfl (oR 1 rfl (oZ rfl (zm rfl (PD.subH (HSub.less (zbr (i := 0) rfl)) (PD.subH (HSub.turn (h' := .sl v4 1 3 (l.map dI)) rfl (Hp.eq_sl (show List.map dI ([] ++ l) = List.map dI l from congrArg _ (by rfl)))) ?_)))))
    exact zbn Tryz.results186 (.cons (zh rfl) .nil) rfl ⟨_, rfl, rfl⟩

theorem sortI_c (v : Value) (l : List Int) (h0 : 0 < l.length) (hl : l.length ≤ 1000000) : CD Tryz.prog 187 [.sl v 1 3 (l.map dI)] [.ov v] (fun r H' => r = .tup [] ∧ H' = [.sl v 1 3 ((srtI l).map dI)]) :=
  sortI_cd (fun blk off cap zs w a b c => Go.Proofs.Any.slices_Sort_int Go.Proofs.Tryz.lays189 blk off cap zs w a b c) v 3 l h0 hl

theorem rank_c (p : Int) (l : List Int) (hp0 : 0 ≤ p) (hp1 : p ≤ 100) (h0 : 0 < l.length) (hl : l.length ≤ 1000000) :
    CD Tryz.prog 151 [] [dI p, .sh 1 (l.map dI)] (isR (.tup [dI (zdB p l), dB true])) := by
  refine zq Tryz.func151 rfl (N := 34) rfl rfl (fun C => ?_)
  refine jk [0, 1] rfl ?_
  refine JD.bd 1 rfl (fun bd1 => ?_)
  have nl1 := zS bd1
  have hd0 : ¬ ((l.length : Nat) : Int) = (0 : Int) := by omega
  have hd1 : ¬ p < (0 : Int) := by omega
  have hd2 : ¬ (100 : Int) < p := by omega
  have hpm := rank_pm (n := l.length) hp0 hp1
  obtain ⟨hq1, hq2⟩ := rank_q (n := l.length) hp0 hp1 h0
  have hdv := rank_div (n := l.length) hp0 hp1
  refine jT rfl (oR 2 rfl (oZ rfl (jS rfl (jT rfl (oR 1 rfl (oP rfl (z6 (n := l.length) rfl Tryz.runUnderlying122 (by simp only [lm, lc, ln])) (oP rfl (zR rfl rfl (decide_eq_false hd0)) (oR 2 rfl (oG rfl (zQ rfl rfl (decide_eq_false hd1)) (oR 3 rfl (oG rfl (zah rfl rfl (decide_eq_false hd2)) (oR 1 rfl (oZ rfl (jk [0, 1, 4, 5, 17] rfl (jCf rfl (zj rfl (zb (jT rfl (oR 1 rfl (oE rfl (zN [] _ [] rfl rfl (.cons ArgC.id .nil) zz Tryz.call186 (cloneI_c l (by omega)) (.inl rfl)) ?_))))))))))))))))))))
  rintro _ _ ⟨_, ⟨v1, rfl, rfl⟩, rfl⟩
  refine on rfl (oR 1 rfl (oZ rfl (jT rfl (oR 1 rfl (oE rfl (zN [.sl v1 1 3 (l.map dI)] [] [] rfl rfl (.cons ArgC.id .nil) zz Tryz.call187 (sortI_c v1 l (by omega) (by omega)) (.inl rfl)) ?_)))))
  rintro _ _ ⟨_, ⟨rfl, rfl⟩, rfl⟩
  refine on rfl ?_
  have hsl := srtI_len l
  refine oZ rfl (jT rfl (oR 3 rfl (oP rfl (z6 (n := l.length) rfl Tryz.runUnderlying122 (by simp only [lm, lc, ln])) (oP rfl (p_mul (c := (p * ((l.length : Nat) : Int))) rfl rfl (zB (by omega) (by omega))) (oP rfl (zO (c := ((p * ((l.length : Nat) : Int)) + 100)) rfl rfl (zB (by omega) (by omega))) (oP rfl (zav (c := (((p * ((l.length : Nat) : Int)) + 100) - 1)) rfl rfl (zB (by omega) (by omega))) (oP rfl (zdO (c := (Int.tdiv (p * ((l.length : Nat) : Int) + 100 - 1) 100)) rfl rfl (by omega) (zB rfl (by omega))) (oP rfl (p_max rfl rfl rfl) (oP rfl (zav (c := ((zdG p l.length : Nat) : Int)) rfl rfl (zB (by omega) (by omega))) ?_)))))))))
  obtain ⟨x1, hx1⟩ := zy (srtI l) (zdG p l.length) (by omega)
  have hrk : x1 = zdB p l := by unfold zdB; rw [hx1]; rfl
  refine oP rfl (zi (k := (zdG p l.length)) (j := 0) rfl rfl rfl Tryz.runUnderlying122 Tryz.sizeOf3 (by first | rfl | omega) (zg hx1)) (oP rfl (z8 rfl (i := 0) rfl (zg hx1) Tryz.isAgg3 rfl) (oR 2 rfl (oZ rfl (jk [4, 5] rfl (zm rfl ?_)))))
  exact zl Tryz.results151 (.cons (zx (zh rfl) (Cv.eq (congrArg (fun n => D.v (.int .i64 n)) (by first | rfl | exact hrk)))) (.cons (zh rfl) .nil)) rfl HSub.none ⟨rfl, rfl⟩
end Lp
/- Walks, printed by a program of mine. -/
set_option linter.unusedSimpArgs false
set_option linter.unusedVariables false
set_option maxHeartbeats 4000000
set_option maxRecDepth 100000
namespace Lp
open Go Go.RowKit Go.Proofs

namespace HdYtfjinapgehafiaaGreatV76
theorem zby {a : Int} (h : 0 ≤ a ∧ a ≤ 18446744073709551615) : ∀ w, (convert 3 165 (.int .i64 a)).run Tryz.prog w = .ok (.int .u64 a) w := fun w => by
  have e : IntKind.u64.wrap a = a := by simp [IntKind.wrap, IntKind.bits, IntKind.signed]; omega
  simp [convert, run_underlying (show Tryz.prog.underlying 3 = some _ by kernel_rfl), run_underlying (show Tryz.prog.underlying 165 = some _ by kernel_rfl), Conv.intToInt, e]
theorem fa_156_0 (b o : Nat) : ∀ w, (Instr.fieldAt 156 (.pointer (some ⟨b, o, none⟩)) 0).run Tryz.prog w = .ok (.pointer (some ⟨b, o + 0, none⟩)) w := fun _ => by kernel_rfl
theorem fa_161_0 (b o : Nat) : ∀ w, (Instr.fieldAt 161 (.pointer (some ⟨b, o, none⟩)) 0).run Tryz.prog w = .ok (.pointer (some ⟨b, o + 0, none⟩)) w := fun _ => by kernel_rfl
theorem zad (b o : Nat) : ∀ w, (Instr.fieldAt 53 (.pointer (some ⟨b, o, none⟩)) 0).run Tryz.prog w = .ok (.pointer (some ⟨b, o + 0, none⟩)) w := fun _ => by kernel_rfl
theorem zam (b o : Nat) : ∀ w, (Instr.fieldAt 53 (.pointer (some ⟨b, o, none⟩)) 1).run Tryz.prog w = .ok (.pointer (some ⟨b, o + 1, none⟩)) w := fun _ => by kernel_rfl
theorem fg_159_0 : ∀ vs : List Value, vs.length = 1 → ∀ w, (Instr.field 159 (.agg vs.toArray) 0).run Tryz.prog w = .ok (vs.getD 0 undef) w := fun vs h w => by
  obtain ⟨a, rfl⟩ := List.length_eq_one_iff.1 h
  kernel_rfl
end HdYtfjinapgehafiaaGreatV76
open HdYtfjinapgehafiaaGreatV76

theorem greater_c (a : RowD) (b : RowD)  :
    CD Tryz.prog 101 [] [RowD.d a, RowD.d b] (isR (dI (grC a b))) := by
  refine zq Tryz.func101 rfl (N := 17) rfl rfl (fun C => ?_)
  refine jk [0, 1] rfl ?_
  refine JD.bd 0 rfl (fun bd0 => ?_)
  refine JD.bd 1 rfl (fun bd1 => ?_)
  refine jT rfl (oE rfl (zbW rfl (CellD.agg)) ?_)
  rintro _ _ ⟨g1, rfl, rfl⟩
  refine oE rfl (zbW rfl (CellD.agg)) ?_
  rintro _ _ ⟨g2, rfl, rfl⟩
  refine oR 1 rfl (oZ rfl (jS rfl (jk [0, 1, 2, 3, 4] rfl (jn rfl (zW 9 [(5, dP g2 1, none), (6, dI b.v, none), (7, dP g1 1, none), (8, dI a.v, none), (9, dI (cmpI b.v a.v), none), (10, dP g1 0, none), (11, .sh 2 (a.ls.map Lbl.d), none), (12, dP g2 0, none), (13, .sh 2 (b.ls.map Lbl.d), none)] [.bx g2 53 (RowD.d b), .bx g1 53 (RowD.d a)] (Hn := [.bx g2 53 (RowD.d b), .bx g1 53 (RowD.d a)]) mixed rfl rfl rfl rfl HSub.rfl' rfl ⟨sa_p rfl rfl rfl (zw rfl zam rfl), sa_p rfl rfl rfl (zK rfl (i := 0) rfl Tryz.isAgg3 rfl), sa_p rfl rfl rfl (zw rfl zam rfl), sa_p rfl rfl rfl (zK rfl (i := 1) rfl Tryz.isAgg3 rfl), sa_q rfl rfl rfl (zaI rfl (.cons Cv.rfl' (.cons Cv.rfl' .nil)) Tryz.call147 (cmpI_c b.v a.v) zaQ), sa_p rfl rfl rfl (zw rfl zad rfl), sa_p rfl rfl rfl (zK rfl (i := 1) rfl Tryz.isAgg50 rfl), sa_p rfl rfl rfl (zw rfl zad rfl), sa_p rfl rfl rfl (zK rfl (i := 0) rfl Tryz.isAgg50 rfl), trivial⟩ (ok [0, 1, 2, 3, 4, 5, 6, 7, 8, 9, 10, 11, 12, 13] rfl (oW rfl rfl acs Tryz.call106 (zcp a.ls b.ls) (oE rfl (zap [.tmp 9, .tmp 14] rfl rfl (.cons (CellD.v rfl) (.cons (CellD.v rfl) .nil)) rfl Tryz.runUnderlying122 Tryz.sizeOf3 Tryz.zeroValue3 rfl rfl rfl rfl) ?_))))))))
  rintro _ _ ⟨g3, rfl, rfl⟩
  refine oE rfl (zN [] _ [.sl (vS g3 2 2) 1 3 ([dI (cmpI b.v a.v), dI (zM a.ls b.ls)])] rfl rfl (.cons (ArgC.own (j := 0) rfl rfl) .nil) (zaV (j := 0) rfl zz) Tryz.call146 (Or_c [cmpI b.v a.v, zM a.ls b.ls]) (.inr (zbO rfl))) ?_
  rintro _ _ ⟨_, ⟨rfl, rfl⟩, rfl⟩
  refine on rfl (oR 1 rfl (oZ rfl (jk [4] rfl (zm rfl ?_))))
  exact zl Tryz.results101 (.cons (zx (zh rfl) (Cv.eq (congrArg (fun n => D.v (.int .i64 n)) (by rw [firstNZ_two]; rfl)))) .nil) rfl HSub.none ⟨rfl, rfl⟩

theorem insortG_c (v : Value) (l : List RowD) (a b : Nat) (ha : a ≤ 1000000) (hb : b ≤ l.length) (hl : l.length ≤ 1000000) :
    CD Tryz.prog 161 [.sl v 2 53 (l.map RowD.d)] [.ov v, dN a, dN b, .fn 101 [] []] (fun r H' => r = .tup [] ∧ H' = [.sl v 2 53 ((isrt grC a b b (a + 1) l).map RowD.d)]) := by
  refine zq Tryz.func161 rfl (N := 53) rfl rfl (fun C => ?_)
  refine jk [0, 1, 2, 3] rfl (jT rfl (oR 1 rfl (oP rfl (zO (c := ((a + 1 : Nat) : Int)) rfl rfl (zB (by omega) (by omega))) (oR 1 rfl (oZ rfl (jB rfl (jl3 (fun (a_ : Nat) (b_ : Nat) (c_ : List RowD) => [(0, .ov v), (1, dN a), (2, dN b), (3, .fn 101 [] []), (8, dN a_)]) (fun a_ b_ c_ => [.sl v 2 53 (c_.map RowD.d)]) (fun a_ b_ c_ => (a + 1 ≤ a_) ∧ (b ≤ a_ + b_) ∧ ((c_).length = l.length) ∧ (isrt grC a b b_ (a_) c_ = isrt grC a b b (a + 1) l)) (fun a_ b_ c_ => b - a_) (a + 1) b l rfl (sa rfl) HSub.rfl' ⟨Nat.le_refl _, by show b ≤ a + 1 + b; omega, rfl, rfl⟩ ?_)))))))
  rintro i n L ⟨hi, hn, hL, hr⟩
  refine ja rfl (jn rfl (jS rfl (jT rfl (oR 2 rfl (oP rfl (zQ rfl rfl rfl) (oZ rfl ?_))))))
  refine jD rfl (fun hc1 => ?_) (fun hc1 => ?_)
  · skip
    refine zj rfl (zb (jS rfl (jB rfl (jT rfl (oR 2 rfl (oZ rfl (jB rfl (jl2 (fun (a_ : Nat) (b_ : List RowD) => [(0, .ov v), (1, dN a), (2, dN b), (3, .fn 101 [] []), (8, dN i), (12, dN i), (13, dN b), (14, dB (decide (((i : Nat) : Int) < ((b : Nat) : Int)))), (17, dN i), (9, dN a_)]) (fun a_ b_ => [.sl v 2 53 (b_.map RowD.d)]) (fun a_ b_ => (a_ ≤ i) ∧ ((b_).length = l.length) ∧ (bub grC a (a_) b_ = bub grC a i L)) (fun a_ b_ => a_) i L rfl (sa rfl) HSub.rfl' ⟨Nat.le_refl _, hL, rfl⟩ ?_))))))))
    rintro j M ⟨hj, hlM, hM⟩
    refine ja rfl (jn rfl (jS rfl (jS rfl ?_)))
    by_cases hg2 : ((a : Nat) : Int) < ((j : Nat) : Int)
    · skip
      refine jk [0, 1, 2, 3, 8, 9, 12, 13, 14, 17] rfl (jn rfl ?_)
      obtain ⟨x1, hx1⟩ := zy M j (by (try simp only [ls]); omega)
      obtain ⟨x2, hx2⟩ := zy M (j - 1) (by (try simp only [ls]); omega)
      refine zW 14 [(18, dN j, none), (19, dN a, none), (20, dB true, none), (21, dB true, none), (22, .fn 101 [] [], none), (23, .ov v, none), (24, dN j, none), (25, .v (.pointer (some ⟨bl v, j * 2 + 0, none⟩)), none), (26, RowD.d x1, none), (27, .ov v, none), (28, dN j, none), (29, dN (j - 1), none), (30, .v (.pointer (some ⟨bl v, (j - 1) * 2 + 0, none⟩)), none), (31, RowD.d x2, none)] [.sl v 2 53 (M.map RowD.d)] (Hn := [.sl v 2 53 (M.map RowD.d)]) mixed rfl rfl rfl rfl HSub.rfl' rfl ⟨sa_p rfl rfl rfl (zc rfl), sa_p rfl rfl rfl (zc rfl), sa_p rfl rfl rfl (zah rfl rfl (decide_eq_true hg2)), sa_p rfl rfl rfl (zc rfl), zG rfl rfl rfl rfl rfl rfl (zc rfl).qu, zG rfl rfl rfl rfl rfl rfl (zc rfl).qu, zG rfl rfl rfl rfl rfl rfl (zc rfl).qu, zG rfl rfl rfl rfl rfl rfl (zi (k := j) (j := 0) rfl rfl rfl Tryz.runUnderlying22 Tryz.sizeOf53 (by first | rfl | omega) (zg hx1)).qu, zG rfl rfl rfl rfl rfl rfl (zX (d := RowD.d x1) rfl (i := 0) rfl (zg hx1) Tryz.isAgg53 Tryz.sizeOf53 rfl rfl).qu, zG rfl rfl rfl rfl rfl rfl (zc rfl).qu, zG rfl rfl rfl rfl rfl rfl (zc rfl).qu, zG rfl rfl rfl rfl rfl rfl (zav (c := ((j - 1 : Nat) : Int)) rfl rfl (zB (by omega) (by omega))).qu, zG rfl rfl rfl rfl rfl rfl (zi (k := j - 1) (j := 0) rfl rfl rfl Tryz.runUnderlying22 Tryz.sizeOf53 (by first | rfl | omega) (zg hx2)).qu, zG rfl rfl rfl rfl rfl rfl (zX (d := RowD.d x2) rfl (i := 0) rfl (zg hx2) Tryz.isAgg53 Tryz.sizeOf53 rfl rfl).qu, trivial⟩ ?_
      refine ok [0, 1, 2, 3, 8, 9, 12, 13, 14, 17, 18, 19, 20, 21, 22, 23, 24, 25, 26, 27, 28, 29, 30, 31] rfl (oF rfl (zbk [] _ [] rfl rfl rfl (.cons ArgC.id (.cons ArgC.id .nil)) zz Tryz.call101 (greater_c x1 x2) (.inl rfl)) ?_)
      rintro _ _ ⟨_, ⟨rfl, rfl⟩, rfl⟩
      refine on rfl (oG rfl (zQ rfl rfl rfl) (oR 1 rfl (oZ rfl ?_)))
      refine jD rfl (fun hc3 => ?_) (fun hc3 => ?_)
      · skip
        refine zj rfl (zb (jS rfl (jB rfl (jk [0, 1, 2, 3, 8, 9, 12, 13, 14, 17, 18, 19, 20, 21, 22, 23, 24, 25, 26, 27, 28, 29, 30, 31, 32, 33, 34] rfl (jn rfl ?_)))))
        refine zbj 16 [(37, .q (.ov v)), (38, .q (dN j)), (39, .q (.ov v)), (40, .q (dN j)), (41, .q (dN (j - 1))), (42, .q (.ov v)), (43, .q (dN j)), (44, .q (dN (j - 1))), (45, .r (.v (.pointer (some ⟨bl v, (j - 1) * 2 + 0, none⟩)))), (46, .r (RowD.d x2)), (47, .q (.ov v)), (48, .q (dN j)), (49, .r (.v (.pointer (some ⟨bl v, j * 2 + 0, none⟩)))), (50, .r (RowD.d x1)), (51, .r (.v (.pointer (some ⟨bl v, j * 2 + 0, none⟩)))), (68, .s (fun γ => [.sl v 2 53 ((M.set j x2).map RowD.d)]))] [] (Hn := fun γ => [.sl v 2 53 ((M.set j x2).map RowD.d)]) mixed rfl rfl (by kernel_rfl) (by kernel_rfl) (by kernel_rfl) HSub.none (fun _ => rfl) (fun γ => ⟨so_p rfl rfl rfl (zc rfl), so_p rfl rfl rfl (zc rfl), so_p rfl rfl rfl (zc rfl), so_p rfl rfl rfl (zc rfl), so_p rfl rfl rfl (zav (c := ((j - 1 : Nat) : Int)) rfl rfl (zB (by omega) (by omega))), so_p rfl rfl rfl (zc rfl), so_p rfl rfl rfl (zc rfl), so_p rfl rfl rfl (zav (c := ((j - 1 : Nat) : Int)) rfl rfl (zB (by omega) (by omega))), so_r rfl rfl rfl rfl (zi (k := j - 1) (j := 0) rfl rfl rfl Tryz.runUnderlying22 Tryz.sizeOf53 (by first | rfl | omega) (zg hx2)), so_r rfl rfl rfl rfl (zX (d := RowD.d x2) rfl (i := 0) rfl (zg hx2) Tryz.isAgg53 Tryz.sizeOf53 rfl rfl), so_p rfl rfl rfl (zc rfl), so_p rfl rfl rfl (zc rfl), so_r rfl rfl rfl rfl (zi (k := j) (j := 0) rfl rfl rfl Tryz.runUnderlying22 Tryz.sizeOf53 (by first | rfl | omega) (zg hx1)), so_r rfl rfl rfl rfl (zX (d := RowD.d x1) rfl (i := 0) rfl (zg hx1) Tryz.isAgg53 Tryz.sizeOf53 rfl rfl), so_r rfl rfl rfl rfl (zi (k := j) (j := 0) rfl rfl rfl Tryz.runUnderlying22 Tryz.sizeOf53 (by first | rfl | omega) (zg hx1)), zdN rfl rfl rfl rfl rfl ((zaE (f := RowD.d) (k := j) (z := 2) (o := 0) (i := 0) (a' := x2) rfl rfl hx1 rfl (CellD.agg) Tryz.sizeOf53 rfl rfl rfl).mono (by rintro _ _ ⟨_, rfl⟩; rfl)) HSub.none, trivial⟩) (fun γ => ?_)
        refine ok [0, 1, 2, 3, 8, 9, 12, 13, 14, 17, 18, 19, 20, 21, 22, 23, 24, 25, 26, 27, 28, 29, 30, 31, 32, 33, 34, 37, 38, 39, 40, 41, 42, 43, 44, 45, 46, 47, 48, 49, 50, 51] rfl ?_
        obtain ⟨x3, hx3⟩ := zy (M.set j x2) (j - 1) (by (try simp only [ls]); omega)
        refine oP rfl (zi (k := j - 1) (j := 0) rfl rfl rfl Tryz.runUnderlying22 Tryz.sizeOf53 (by first | rfl | omega) (zg hx3)) (oE rfl (zaE (f := RowD.d) (k := j - 1) (z := 2) (o := 0) (i := 0) (a' := x1) rfl rfl hx3 rfl (CellD.agg) Tryz.sizeOf53 rfl rfl rfl) ?_)
        rintro _ _ ⟨rfl, rfl⟩
        refine on rfl (ze rfl (zp (zb (za rfl (oR 1 rfl (oP rfl (zav (c := ((j - 1 : Nat) : Int)) rfl rfl (zB (by omega) (by omega))) (oR 1 rfl (ze rfl ?_))))))))
        exact pl2 (j - 1) ((M.set j x2).set (j - 1) x1) (sa rfl) HSub.rfl' ⟨by omega, by simp only [ls]; omega, by rw [← hM]; exact (bub_lt' (by omega) hx1 hx2 hc3).symm⟩ (by omega)
      · skip
        refine zL rfl (zo (zn (zk (zp (zb (za rfl (oR 1 rfl (oP rfl (zO (c := ((i + 1 : Nat) : Int)) rfl rfl (zB (by omega) (by omega))) (oR 1 rfl (ze rfl ?_))))))))))
        exact pl3 (i + 1) (n - 1) M (sa rfl) HSub.rfl' ⟨by show a + 1 ≤ i + 1; omega, by show b ≤ i + 1 + (n - 1); omega, hlM, by show isrt grC a b (n - 1) (i + 1) M = _; have hb : bub grC a j M = M := bub_ge' hx1 hx2 hc3; rw [← hr]; obtain ⟨m, rfl⟩ : ∃ m, n = m + 1 := ⟨n - 1, by omega⟩; rw [za8 (by omega), ← hM, hb]; rfl⟩ (by omega)
    · skip
      refine jk [0, 1, 2, 3, 8, 9, 12, 13, 14, 17] rfl (jn rfl (zW 14 [(18, dN j, none), (19, dN a, none), (20, dB false, none), (21, dB false, none), (22, .v undef, none), (23, .v undef, none), (24, .v undef, none), (25, .v undef, none), (26, .v undef, none), (27, .v undef, none), (28, .v undef, none), (29, .v undef, none), (30, .v undef, none), (31, .v undef, none)] [.sl v 2 53 (M.map RowD.d)] (Hn := [.sl v 2 53 (M.map RowD.d)]) mixed rfl rfl rfl rfl HSub.rfl' rfl ⟨sa_p rfl rfl rfl (zc rfl), sa_p rfl rfl rfl (zc rfl), sa_p rfl rfl rfl (zah rfl rfl (decide_eq_false hg2)), sa_p rfl rfl rfl (zc rfl), sa_s rfl rfl rfl rfl rfl rfl (by decide), sa_s rfl rfl rfl rfl rfl rfl (by decide), sa_s rfl rfl rfl rfl rfl rfl (by decide), sa_s rfl rfl rfl rfl rfl rfl (by decide), sa_s rfl rfl rfl rfl rfl rfl (by decide), sa_s rfl rfl rfl rfl rfl rfl (by decide), sa_s rfl rfl rfl rfl rfl rfl (by decide), sa_s rfl rfl rfl rfl rfl rfl (by decide), sa_s rfl rfl rfl rfl rfl rfl (by decide), sa_s rfl rfl rfl rfl rfl rfl (by decide), trivial⟩ (ok [0, 1, 2, 3, 8, 9, 12, 13, 14, 17, 18, 19, 20, 21, 22, 23, 24, 25, 26, 27, 28, 29, 30, 31] rfl (oR 3 rfl (oZ rfl (jCf rfl (zL rfl (zo (zn (zk (zp (zb (za rfl (oR 1 rfl (oP rfl (zO (c := ((i + 1 : Nat) : Int)) rfl rfl (zB (by omega) (by omega))) (oR 1 rfl ?_))))))))))))))))
      refine ze rfl ?_
      exact pl3 (i + 1) (n - 1) M (sa rfl) HSub.rfl' ⟨by show a + 1 ≤ i + 1; omega, by show b ≤ i + 1 + (n - 1); omega, hlM, by show isrt grC a b (n - 1) (i + 1) M = _; have hb : bub grC a j M = M := bub_end (by omega); rw [← hr]; obtain ⟨m, rfl⟩ : ∃ m, n = m + 1 := ⟨n - 1, by omega⟩; rw [za8 (by omega), ← hM, hb]; rfl⟩ (by omega)
  · skip
    refine zL rfl (zo (zn (zk (PD.norm [.sl v 2 53 ((isrt grC a b b (a + 1) l).map RowD.d)] (by rw [← hr, zaY (by omega)]) ?_))))
    exact zb1 Tryz.results161 .nil rfl (HSub.fst 1 rfl) ⟨rfl, rfl⟩

theorem pdqG_c (v : Value) (l : List RowD) (k : Nat) (hl : l.length ≤ 12) :
    CD Tryz.prog 144 [.sl v 2 53 (l.map RowD.d)] [.ov v, dI 0, dN l.length, dN k, .fn 101 [] []] (fun r H' => r = .tup [] ∧ H' = [.sl v 2 53 ((zt grC l).map RowD.d)]) := by
  refine zq Tryz.func144 rfl (N := 148) rfl rfl (fun C => ?_)
  refine jk [0, 1, 2, 3, 4] rfl (jT rfl (oR 1 rfl (oZ rfl (jT rfl (oR 1 rfl (oZ rfl (jB rfl (jl1 (fun (_ : Unit) => [(0, .ov v), (4, .fn 101 [] []), (1, dN 0), (2, dN l.length), (3, dN k), (10, dB true), (11, dB true)]) (fun _ => [.sl v 2 53 (l.map RowD.d)]) (fun _ => True) (fun _ => 0) () rfl (sa rfl) HSub.rfl' trivial ?_))))))))
  rintro _ _
  refine ja rfl (jn rfl (jB rfl (jT rfl (oR 2 rfl (oP rfl (zav (c := (((l.length : Nat) : Int) - ((0 : Nat) : Int))) rfl rfl (zB (by omega) (by omega))) (oR 1 rfl (oZ rfl (jS rfl (jT rfl (oR 1 rfl (oP rfl (zaA rfl rfl rfl) (oZ rfl ?_))))))))))))
  refine jD rfl (fun hc1 => ?_) (fun hc1 => ?_)
  · skip
    refine jT rfl (oR 4 rfl (oE rfl (zN [.sl v 2 53 (l.map RowD.d)] [] [] rfl rfl (.cons ArgC.id (.cons ArgC.id (.cons ArgC.id (.cons ArgC.id .nil)))) zz Tryz.call161 (insortG_c v l 0 l.length (by omega) (by first | exact Nat.le_refl _ | omega) (by omega)) (.inl rfl)) ?_))
    rintro _ _ ⟨_, ⟨rfl, rfl⟩, rfl⟩
    refine on rfl (oZ rfl (zm rfl (zd (zf (zP (zf (PD.norm [.sl v 2 53 ((zt grC l).map RowD.d)] (by rw [isrt_all]) ?_)))))))
    exact zl Tryz.results144 .nil rfl (HSub.fst 1 rfl) ⟨rfl, rfl⟩
  · skip
    exfalso; omega

theorem sortG_c (v : Value) (l : List RowD) (hl : l.length ≤ 12) :
    CD Tryz.prog 100 [.sl v 2 53 (l.map RowD.d)] [.ov v, .fn 101 [] []] (fun r H' => r = .tup [] ∧ H' = [.sl v 2 53 ((zt grC l).map RowD.d)]) := by
  refine zq Tryz.func100 rfl (N := 14) rfl rfl (fun C => ?_)
  refine jk [0, 1] rfl (jT rfl (oR 1 rfl (oP rfl (zU (n := l.length) (j := 0) rfl rfl Tryz.runUnderlying22 (List.length_map _)) (oR 1 rfl (oZ rfl (za rfl (oR 3 rfl (oP rfl (zbN rfl (c := ((l.length : Nat) : Int)) (zby (by omega))) (oE rfl (zN [] [.sl v 2 53 (l.map RowD.d)] [] rfl rfl (.cons ArgC.id .nil) zz Tryz.call145 (len_c l.length (by omega)) (.inl rfl)) ?_)))))))))
  rintro _ _ ⟨_, ⟨k, rfl, rfl⟩, rfl⟩
  refine on rfl (oR 1 rfl (oE rfl (zN [.sl v 2 53 (l.map RowD.d)] [] [] rfl rfl (.cons ArgC.id (.cons ArgC.id (.cons ArgC.id (.cons ArgC.id (.cons ArgC.id .nil))))) zz Tryz.call144 (pdqG_c v l k (by omega)) (.inl rfl)) ?_))
  rintro _ _ ⟨_, ⟨rfl, rfl⟩, rfl⟩
  refine on rfl (ze rfl ?_)
  exact zb1 Tryz.results100 .nil rfl (HSub.fst 1 rfl) ⟨rfl, rfl⟩

theorem oneS_c (m : Bool) (l : List RowD) (h0 : 0 < l.length) (hl : l.length ≤ 1000000) :
    CD Tryz.prog 102 [] [.ifc 156 (.agg [dB m]), .sh 2 (l.map RowD.d)] (isR (.tup [dI ((numF (.sums m) l).1), dI ((numF (.sums m) l).2)])) := by
  refine zq Tryz.func102 rfl (N := 51) rfl rfl (fun C => ?_)
  refine jk [0, 1] rfl ?_
  refine JD.bd 1 rfl (fun bd1 => ?_)
  have nl1 := zS bd1
  refine jT rfl (oR 2 rfl (oZ rfl (jS rfl (jT rfl (oR 1 rfl (oP rfl (p_assert_t rfl (fun _ _ => by kernel_rfl)) (oR 3 rfl (oE rfl (zar (zv := (.agg #[(.bool false)])) Tryz.zeroValue156 ⟨rfl, trivial⟩ (Cv.vagg (by decide))) ?_))))))))
  rintro _ _ ⟨g1, rfl, rfl⟩
  refine oE rfl (zY (i := 0) (X' := .agg [dB m]) rfl rfl rfl (CellD.agg) Tryz.sizeOf156 rfl rfl rfl) ?_
  rintro _ _ ⟨rfl, rfl⟩
  refine on rfl (oR 1 rfl (oZ rfl (jT rfl (oR 1 rfl (oZ rfl (jCt rfl (jS rfl (jT rfl (oP rfl (zw rfl fa_156_0 rfl) (oP rfl (zK rfl (i := 0) rfl Tryz.isAgg4 rfl) (oZ rfl (jk [0, 1, 4, 5, 19] rfl ?_))))))))))))
  refine jC rfl (fun hc2 => ?_) (fun hc2 => ?_)
  · skip
    refine jT rfl (oR 1 rfl (oE rfl (zN [] _ [] rfl rfl (.cons ArgC.id .nil) zz Tryz.call149 (zcf l (by omega)) (.inl rfl)) ?_))
    rintro _ _ ⟨_, ⟨v3, rfl, rfl⟩, rfl⟩
    refine on rfl (oE rfl (zN [] _ [.sl v3 1 3 ((l.map (·.v)).map dI)] rfl rfl (.cons (ArgC.own (j := 0) rfl rfl) .nil) (zaV (j := 0) rfl zz) Tryz.call148 (mean_c (l.map (·.v))) (.inr (zbO rfl))) ?_)
    rintro _ _ ⟨_, ⟨rfl, rfl⟩, rfl⟩
    refine on rfl (oR 4 rfl (oZ rfl (zm rfl (zd (zd ?_)))))
    exact zl Tryz.results102 (.cons (zx (zh rfl) (Cv.eq (congrArg (fun n => D.v (.int .i64 n)) (by first | rfl | (rw [show m = true from by assumption]; rfl) | (rw [show m = false from by simpa using ‹_›]; rfl) | (simp [numF, oneW]))))) (.cons (zx (zh rfl) (Cv.eq (congrArg (fun n => D.v (.int .i64 n)) (by first | rfl | (rw [show m = true from by assumption]; rfl) | (rw [show m = false from by simpa using ‹_›]; rfl) | (simp [numF, oneW]))))) .nil)) rfl HSub.none ⟨rfl, rfl⟩
  · skip
    refine zj rfl (zb (jT rfl (oR 1 rfl (oE rfl (zN [] _ [] rfl rfl (.cons ArgC.id .nil) zz Tryz.call149 (zcf l (by omega)) (.inl rfl)) ?_))))
    rintro _ _ ⟨_, ⟨v4, rfl, rfl⟩, rfl⟩
    refine on rfl (oE rfl (zN [] _ [.sl v4 1 3 ((l.map (·.v)).map dI)] rfl rfl (.cons (ArgC.own (j := 0) rfl rfl) .nil) (zaV (j := 0) rfl zz) Tryz.call150 (sum_c (l.map (·.v))) (.inr (zbO rfl))) ?_)
    rintro _ _ ⟨_, ⟨rfl, rfl⟩, rfl⟩
    refine on rfl (oR 4 rfl (oZ rfl (zm rfl (zd ?_))))
    exact zl Tryz.results102 (.cons (zx (zh rfl) (Cv.eq (congrArg (fun n => D.v (.int .i64 n)) (by first | rfl | (rw [show m = true from by assumption]; rfl) | (rw [show m = false from by simpa using ‹_›]; rfl) | (simp [numF, oneW]))))) (.cons (zx (zh rfl) (Cv.eq (congrArg (fun n => D.v (.int .i64 n)) (by first | rfl | (rw [show m = true from by assumption]; rfl) | (rw [show m = false from by simpa using ‹_›]; rfl) | (simp [numF, oneW]))))) .nil)) rfl HSub.none ⟨rfl, rfl⟩

theorem oneL_c  (l : List RowD) (h0 : 0 < l.length) (hl : l.length ≤ 1000000) :
    CD Tryz.prog 102 [] [.ifc 159 (.agg [.fn 140 [] []]), .sh 2 (l.map RowD.d)] (isR (.tup [dI ((numF (.least) l).1), dI ((numF (.least) l).2)])) := by
  refine zq Tryz.func102 rfl (N := 51) rfl rfl (fun C => ?_)
  refine jk [0, 1] rfl ?_
  refine JD.bd 1 rfl (fun bd1 => ?_)
  have nl1 := zS bd1
  refine jT rfl (oR 2 rfl (oZ rfl (jS rfl (jT rfl (oR 1 rfl (oP rfl ((zaM (zv := (.agg #[(.bool false)])) rfl (fun _ _ => by kernel_rfl)).cv (Cv.tup (.cons (Cv.vagg (by decide)) (.cons Cv.rfl' .nil)))) (oR 3 rfl (oE rfl (zar (zv := (.agg #[(.bool false)])) Tryz.zeroValue156 ⟨rfl, trivial⟩ (Cv.vagg (by decide))) ?_))))))))
  rintro _ _ ⟨g1, rfl, rfl⟩
  refine oE rfl (zY (i := 0) (X' := .agg [dB false]) rfl rfl rfl (CellD.agg) Tryz.sizeOf156 rfl rfl rfl) ?_
  rintro _ _ ⟨rfl, rfl⟩
  refine on rfl (oR 1 rfl (oZ rfl (jT rfl (oR 1 rfl (oZ rfl (jCf rfl (zj rfl (zb (jS rfl (jT rfl (oR 1 rfl (oP rfl ((zaM (zv := (.agg #[(.int .i64 0)])) rfl (fun _ _ => by kernel_rfl)).cv (Cv.tup (.cons (Cv.vagg (by decide)) (.cons Cv.rfl' .nil)))) (oR 3 rfl (oE rfl (zar (zv := (.agg #[(.int .i64 0)])) Tryz.zeroValue161 ⟨rfl, trivial⟩ (Cv.vagg (by decide))) ?_))))))))))))))
  rintro _ _ ⟨g2, rfl, rfl⟩
  refine oE rfl (zY (i := 0) (X' := .agg [dI 0]) rfl rfl rfl (CellD.agg) Tryz.sizeOf161 rfl rfl rfl) ?_
  rintro _ _ ⟨rfl, rfl⟩
  refine on rfl (oR 1 rfl (oZ rfl (jk [0, 1, 4, 5, 8, 9] rfl (jT rfl (oR 1 rfl (oZ rfl (jCf rfl (zj rfl (zb (jS rfl (jk [0, 1, 4, 5, 8, 9, 35] rfl (jn rfl (zW 5 [(45, .ifc 159 (.agg [.fn 140 [] []]), none), (46, .agg [.fn 140 [] []], none), (47, .fn 140 [] [], none), (48, .sh 2 (l.map RowD.d), none), (49, .sh 1 ((l.map (·.v)).map dI), none)] [.bx g2 161 (.agg [dI 0]), .bx g1 156 (.agg [dB false])] (Hn := [.bx g2 161 (.agg [dI 0]), .bx g1 156 (.agg [dB false])]) mixed rfl rfl rfl rfl HSub.rfl' rfl ⟨sa_p rfl rfl rfl (zc rfl), sa_p rfl rfl rfl (p_assert_1 rfl (fun _ _ => by kernel_rfl)), sa_p rfl rfl rfl (p_field rfl rfl rfl fg_159_0 rfl), sa_p rfl rfl rfl (zc rfl), sa_q rfl rfl rfl (zaI rfl (.cons Cv.rfl' .nil) Tryz.call149 (zcf l (by omega)) zbq), trivial⟩ (ok [0, 1, 4, 5, 8, 9, 35, 45, 46, 47, 48, 49] rfl (oE rfl (zbk [] _ [] rfl rfl rfl (.cons ArgC.id .nil) zz Tryz.call140 (least_c (l.map (·.v)) (by rw [List.length_map]; exact h0)) (.inl rfl)) ?_)))))))))))))))
  rintro _ _ ⟨_, ⟨rfl, rfl⟩, rfl⟩
  refine on rfl (oR 2 rfl (oZ rfl (jk [4, 5] rfl (zm rfl ?_))))
  exact zl Tryz.results102 (.cons (zx (zh rfl) (Cv.eq (congrArg (fun n => D.v (.int .i64 n)) (by first | rfl | (rw [show m = true from by assumption]; rfl) | (rw [show m = false from by simpa using ‹_›]; rfl) | (simp [numF, oneW]))))) (.cons (zx (zh rfl) (Cv.eq (congrArg (fun n => D.v (.int .i64 n)) (by first | rfl | (rw [show m = true from by assumption]; rfl) | (rw [show m = false from by simpa using ‹_›]; rfl) | (simp [numF, oneW]))))) .nil)) rfl HSub.none ⟨rfl, rfl⟩

theorem oneM_c  (l : List RowD) (h0 : 0 < l.length) (hl : l.length ≤ 1000000) :
    CD Tryz.prog 102 [] [.ifc 159 (.agg [.fn 141 [] []]), .sh 2 (l.map RowD.d)] (isR (.tup [dI ((numF (.most) l).1), dI ((numF (.most) l).2)])) := by
  refine zq Tryz.func102 rfl (N := 51) rfl rfl (fun C => ?_)
  refine jk [0, 1] rfl ?_
  refine JD.bd 1 rfl (fun bd1 => ?_)
  have nl1 := zS bd1
  refine jT rfl (oR 2 rfl (oZ rfl (jS rfl (jT rfl (oR 1 rfl (oP rfl ((zaM (zv := (.agg #[(.bool false)])) rfl (fun _ _ => by kernel_rfl)).cv (Cv.tup (.cons (Cv.vagg (by decide)) (.cons Cv.rfl' .nil)))) (oR 3 rfl (oE rfl (zar (zv := (.agg #[(.bool false)])) Tryz.zeroValue156 ⟨rfl, trivial⟩ (Cv.vagg (by decide))) ?_))))))))
  rintro _ _ ⟨g1, rfl, rfl⟩
  refine oE rfl (zY (i := 0) (X' := .agg [dB false]) rfl rfl rfl (CellD.agg) Tryz.sizeOf156 rfl rfl rfl) ?_
  rintro _ _ ⟨rfl, rfl⟩
  refine on rfl (oR 1 rfl (oZ rfl (jT rfl (oR 1 rfl (oZ rfl (jCf rfl (zj rfl (zb (jS rfl (jT rfl (oR 1 rfl (oP rfl ((zaM (zv := (.agg #[(.int .i64 0)])) rfl (fun _ _ => by kernel_rfl)).cv (Cv.tup (.cons (Cv.vagg (by decide)) (.cons Cv.rfl' .nil)))) (oR 3 rfl (oE rfl (zar (zv := (.agg #[(.int .i64 0)])) Tryz.zeroValue161 ⟨rfl, trivial⟩ (Cv.vagg (by decide))) ?_))))))))))))))
  rintro _ _ ⟨g2, rfl, rfl⟩
  refine oE rfl (zY (i := 0) (X' := .agg [dI 0]) rfl rfl rfl (CellD.agg) Tryz.sizeOf161 rfl rfl rfl) ?_
  rintro _ _ ⟨rfl, rfl⟩
  refine on rfl (oR 1 rfl (oZ rfl (jk [0, 1, 4, 5, 8, 9] rfl (jT rfl (oR 1 rfl (oZ rfl (jCf rfl (zj rfl (zb (jS rfl (jk [0, 1, 4, 5, 8, 9, 35] rfl (jn rfl (zW 5 [(45, .ifc 159 (.agg [.fn 141 [] []]), none), (46, .agg [.fn 141 [] []], none), (47, .fn 141 [] [], none), (48, .sh 2 (l.map RowD.d), none), (49, .sh 1 ((l.map (·.v)).map dI), none)] [.bx g2 161 (.agg [dI 0]), .bx g1 156 (.agg [dB false])] (Hn := [.bx g2 161 (.agg [dI 0]), .bx g1 156 (.agg [dB false])]) mixed rfl rfl rfl rfl HSub.rfl' rfl ⟨sa_p rfl rfl rfl (zc rfl), sa_p rfl rfl rfl (p_assert_1 rfl (fun _ _ => by kernel_rfl)), sa_p rfl rfl rfl (p_field rfl rfl rfl fg_159_0 rfl), sa_p rfl rfl rfl (zc rfl), sa_q rfl rfl rfl (zaI rfl (.cons Cv.rfl' .nil) Tryz.call149 (zcf l (by omega)) zbq), trivial⟩ (ok [0, 1, 4, 5, 8, 9, 35, 45, 46, 47, 48, 49] rfl (oE rfl (zbk [] _ [] rfl rfl rfl (.cons ArgC.id .nil) zz Tryz.call141 (most_c (l.map (·.v)) (by rw [List.length_map]; exact h0)) (.inl rfl)) ?_)))))))))))))))
  rintro _ _ ⟨_, ⟨rfl, rfl⟩, rfl⟩
  refine on rfl (oR 2 rfl (oZ rfl (jk [4, 5] rfl (zm rfl ?_))))
  exact zl Tryz.results102 (.cons (zx (zh rfl) (Cv.eq (congrArg (fun n => D.v (.int .i64 n)) (by first | rfl | (rw [show m = true from by assumption]; rfl) | (rw [show m = false from by simpa using ‹_›]; rfl) | (simp [numF, oneW]))))) (.cons (zx (zh rfl) (Cv.eq (congrArg (fun n => D.v (.int .i64 n)) (by first | rfl | (rw [show m = true from by assumption]; rfl) | (rw [show m = false from by simpa using ‹_›]; rfl) | (simp [numF, oneW]))))) .nil)) rfl HSub.none ⟨rfl, rfl⟩

theorem oneN_c  (l : List RowD) (h0 : 0 < l.length) (hl : l.length ≤ 1000000) :
    CD Tryz.prog 102 [] [.ifc 159 (.agg [.fn 142 [] []]), .sh 2 (l.map RowD.d)] (isR (.tup [dI ((numF (.many) l).1), dI ((numF (.many) l).2)])) := by
  refine zq Tryz.func102 rfl (N := 51) rfl rfl (fun C => ?_)
  refine jk [0, 1] rfl ?_
  refine JD.bd 1 rfl (fun bd1 => ?_)
  have nl1 := zS bd1
  refine jT rfl (oR 2 rfl (oZ rfl (jS rfl (jT rfl (oR 1 rfl (oP rfl ((zaM (zv := (.agg #[(.bool false)])) rfl (fun _ _ => by kernel_rfl)).cv (Cv.tup (.cons (Cv.vagg (by decide)) (.cons Cv.rfl' .nil)))) (oR 3 rfl (oE rfl (zar (zv := (.agg #[(.bool false)])) Tryz.zeroValue156 ⟨rfl, trivial⟩ (Cv.vagg (by decide))) ?_))))))))
  rintro _ _ ⟨g1, rfl, rfl⟩
  refine oE rfl (zY (i := 0) (X' := .agg [dB false]) rfl rfl rfl (CellD.agg) Tryz.sizeOf156 rfl rfl rfl) ?_
  rintro _ _ ⟨rfl, rfl⟩
  refine on rfl (oR 1 rfl (oZ rfl (jT rfl (oR 1 rfl (oZ rfl (jCf rfl (zj rfl (zb (jS rfl (jT rfl (oR 1 rfl (oP rfl ((zaM (zv := (.agg #[(.int .i64 0)])) rfl (fun _ _ => by kernel_rfl)).cv (Cv.tup (.cons (Cv.vagg (by decide)) (.cons Cv.rfl' .nil)))) (oR 3 rfl (oE rfl (zar (zv := (.agg #[(.int .i64 0)])) Tryz.zeroValue161 ⟨rfl, trivial⟩ (Cv.vagg (by decide))) ?_))))))))))))))
  rintro _ _ ⟨g2, rfl, rfl⟩
  refine oE rfl (zY (i := 0) (X' := .agg [dI 0]) rfl rfl rfl (CellD.agg) Tryz.sizeOf161 rfl rfl rfl) ?_
  rintro _ _ ⟨rfl, rfl⟩
  refine on rfl (oR 1 rfl (oZ rfl (jk [0, 1, 4, 5, 8, 9] rfl (jT rfl (oR 1 rfl (oZ rfl (jCf rfl (zj rfl (zb (jS rfl (jk [0, 1, 4, 5, 8, 9, 35] rfl (jn rfl (zW 5 [(45, .ifc 159 (.agg [.fn 142 [] []]), none), (46, .agg [.fn 142 [] []], none), (47, .fn 142 [] [], none), (48, .sh 2 (l.map RowD.d), none), (49, .sh 1 ((l.map (·.v)).map dI), none)] [.bx g2 161 (.agg [dI 0]), .bx g1 156 (.agg [dB false])] (Hn := [.bx g2 161 (.agg [dI 0]), .bx g1 156 (.agg [dB false])]) mixed rfl rfl rfl rfl HSub.rfl' rfl ⟨sa_p rfl rfl rfl (zc rfl), sa_p rfl rfl rfl (p_assert_1 rfl (fun _ _ => by kernel_rfl)), sa_p rfl rfl rfl (p_field rfl rfl rfl fg_159_0 rfl), sa_p rfl rfl rfl (zc rfl), sa_q rfl rfl rfl (zaI rfl (.cons Cv.rfl' .nil) Tryz.call149 (zcf l (by omega)) zbq), trivial⟩ (ok [0, 1, 4, 5, 8, 9, 35, 45, 46, 47, 48, 49] rfl (oE rfl (zbk [] _ [] rfl rfl rfl (.cons ArgC.id .nil) zz Tryz.call142 (many_c (l.map (·.v))) (.inl rfl)) ?_)))))))))))))))
  rintro _ _ ⟨_, ⟨rfl, rfl⟩, rfl⟩
  refine on rfl (oR 2 rfl (oZ rfl (jk [4, 5] rfl (zm rfl ?_))))
  exact zl Tryz.results102 (.cons (zx (zh rfl) (Cv.eq (congrArg (fun n => D.v (.int .i64 n)) (by first | rfl | (rw [show m = true from by assumption]; rfl) | (rw [show m = false from by simpa using ‹_›]; rfl) | (simp [numF, oneW]))))) (.cons (zx (zh rfl) (Cv.eq (congrArg (fun n => D.v (.int .i64 n)) (by first | rfl | (rw [show m = true from by assumption]; rfl) | (rw [show m = false from by simpa using ‹_›]; rfl) | (simp [numF, oneW]))))) .nil)) rfl HSub.none ⟨rfl, rfl⟩

theorem oneR_c (p : Int) (l : List RowD) (h0 : 0 < l.length) (hl : l.length ≤ 1000000) (hp0 : 0 ≤ p) (hp1 : p ≤ 100) :
    CD Tryz.prog 102 [] [.ifc 161 (.agg [dI p]), .sh 2 (l.map RowD.d)] (isR (.tup [dI ((numF (.rank p) l).1), dI ((numF (.rank p) l).2)])) := by
  refine zq Tryz.func102 rfl (N := 51) rfl rfl (fun C => ?_)
  refine jk [0, 1] rfl ?_
  refine JD.bd 1 rfl (fun bd1 => ?_)
  have nl1 := zS bd1
  refine jT rfl (oR 2 rfl (oZ rfl (jS rfl (jT rfl (oR 1 rfl (oP rfl ((zaM (zv := (.agg #[(.bool false)])) rfl (fun _ _ => by kernel_rfl)).cv (Cv.tup (.cons (Cv.vagg (by decide)) (.cons Cv.rfl' .nil)))) (oR 3 rfl (oE rfl (zar (zv := (.agg #[(.bool false)])) Tryz.zeroValue156 ⟨rfl, trivial⟩ (Cv.vagg (by decide))) ?_))))))))
  rintro _ _ ⟨g1, rfl, rfl⟩
  refine oE rfl (zY (i := 0) (X' := .agg [dB false]) rfl rfl rfl (CellD.agg) Tryz.sizeOf156 rfl rfl rfl) ?_
  rintro _ _ ⟨rfl, rfl⟩
  refine on rfl (oR 1 rfl (oZ rfl (jT rfl (oR 1 rfl (oZ rfl (jCf rfl (zj rfl (zb (jS rfl (jT rfl (oR 1 rfl (oP rfl (p_assert_t rfl (fun _ _ => by kernel_rfl)) (oR 3 rfl (oE rfl (zar (zv := (.agg #[(.int .i64 0)])) Tryz.zeroValue161 ⟨rfl, trivial⟩ (Cv.vagg (by decide))) ?_))))))))))))))
  rintro _ _ ⟨g2, rfl, rfl⟩
  refine oE rfl (zY (i := 0) (X' := .agg [dI p]) rfl rfl rfl (CellD.agg) Tryz.sizeOf161 rfl rfl rfl) ?_
  rintro _ _ ⟨rfl, rfl⟩
  refine on rfl (oR 1 rfl (oZ rfl (jk [0, 1, 4, 5, 8, 9] rfl (jT rfl (oR 1 rfl (oZ rfl (jCt rfl (jS rfl (jk [0, 1, 4, 5, 8, 9, 35] rfl (jn rfl (zW 9 [(37, dP g2 0, none), (38, dI p, none), (39, .sh 2 (l.map RowD.d), none), (40, .sh 1 ((l.map (·.v)).map dI), none), (41, .tup [dI (zdB p (l.map (·.v))), dB true], none), (36, .tup [dI (zdB p (l.map (·.v))), dB true], none), (42, dI (zdB p (l.map (·.v))), none), (43, dB true, none), (10, dI (zdB p (l.map (·.v))), none)] [.bx g2 161 (.agg [dI p]), .bx g1 156 (.agg [dB false])] (Hn := [.bx g2 161 (.agg [dI p]), .bx g1 156 (.agg [dB false])]) mixed rfl rfl rfl rfl HSub.rfl' rfl ⟨sa_p rfl rfl rfl (zw rfl fa_161_0 rfl), sa_p rfl rfl rfl (zK rfl (i := 0) rfl Tryz.isAgg3 rfl), sa_p rfl rfl rfl (zc rfl), sa_q rfl rfl rfl (zaI rfl (.cons Cv.rfl' .nil) Tryz.call149 (zcf l (by omega)) zbq), sa_q rfl rfl rfl (zaI rfl (.cons Cv.rfl' (.cons Cv.rfl' .nil)) Tryz.call151 (rank_c p (l.map (·.v)) hp0 hp1 (by rw [List.length_map]; exact h0) (by first | omega | (rw [List.length_map]; omega))) zaQ), sa_p rfl rfl rfl (zc rfl), sa_p rfl rfl rfl (zcF rfl rfl), sa_p rfl rfl rfl (zcF rfl rfl), sa_p rfl rfl rfl (p_assign rfl), trivial⟩ ?_)))))))))))
  refine ok [0, 1, 4, 5, 8, 9, 10, 35, 36, 37, 38, 39, 40, 41, 42, 43] rfl (oR 1 rfl (oZ rfl (jk [0, 1, 4, 5, 10] rfl (jT rfl (oR 3 rfl (oZ rfl (zm rfl (zd ?_))))))))
  exact zl Tryz.results102 (.cons (zx (zh rfl) (Cv.eq (congrArg (fun n => D.v (.int .i64 n)) (by first | rfl | (rw [show m = true from by assumption]; rfl) | (rw [show m = false from by simpa using ‹_›]; rfl) | (simp [numF, oneW]))))) (.cons (zx (zh rfl) (Cv.eq (congrArg (fun n => D.v (.int .i64 n)) (by first | rfl | (rw [show m = true from by assumption]; rfl) | (rw [show m = false from by simpa using ‹_›]; rfl) | (simp [numF, oneW]))))) .nil)) rfl HSub.none ⟨rfl, rfl⟩

theorem one_c (w : Way) (hw : w.red = true) (l : List RowD) (h0 : 0 < l.length) (hl : l.length ≤ 1000000) : CD Tryz.prog 102 [] [wayD (some w), .sh 2 (l.map RowD.d)] (isR (.tup [dI (numF w l).1, dI (numF w l).2])) := by
  cases w with
  | sums m => exact oneS_c m l h0 hl
  | least => exact oneL_c l h0 hl
  | most => exact oneM_c l h0 hl
  | many => exact oneN_c l h0 hl
  | rank p => have h := of_decide_eq_true hw; exact oneR_c p l h0 hl h.1 h.2
  | top n => cases hw

theorem nest_rep {L : List Hp} {v : Value} {G : List (Kp RowD)} (h0 : (Hp.sl v 1 22 (G.map Kp.d)) ∈ L) (hG : ∀ x ∈ G, RH x ∈ L) : ArgC L (.ov v) (.sh 1 ((G.map (·.l)).map (D.ls 2 RowD.d))) := ⟨fun w F u hF hL hr => by
  obtain ⟨us, hus, ho⟩ := hL _ h0
  obtain ⟨hu, _⟩ := hr
  subst hu
  have key : ∀ (G : List (Kp RowD)) (us : List Value), (∀ x ∈ G, RH x ∈ L) → RepE w F 1 (G.map Kp.d) us → RepE w (fun b => F b ∨ blks L b) 1 ((G.map (·.l)).map (D.ls 2 RowD.d)) us := by
    intro G
    induction G with
    | nil => intro us _ h; exact h
    | cons x G ih =>
      rintro _ hm ⟨a, t, rfl, h1, h2, h3, h4⟩
      refine ⟨a, t, rfl, ?_, h2, h3, ih t (fun y hy => hm y (List.mem_cons_of_mem _ hy)) h4⟩
      have hx := hm x List.mem_cons_self
      obtain ⟨us', hr', ho'⟩ := hL _ hx
      have ha : a = x.v := h1.1
      subst ha
      exact D.sl_rep (hr'.keep (Keep.wide _)) ho'.sl (fun _ g hg => .inr ⟨_, hx, hg⟩) (pair_len (F := F) ho')
  exact D.sl_rep (key G us hG hus) ho.sl (fun _ g hg => .inr ⟨_, h0, hg⟩) (pair_len (F := F) ho)⟩
theorem splitF_c (mode : Int) (names : List ByteArray) (l : List RowD) (hl : l.length ≤ 1000000) : CD Tryz.prog 33 [] [dI mode, .sh 1 (names.map D.s), .sh 2 (l.map RowD.d)] (isR (.sh 1 ((zu mode names l).map (D.ls 2 RowD.d)))) := ⟨fun w F vs h1 h2 h3 => ((split_c mode names l hl).out w F vs h1 h2 h3).mono (by
  rintro e w' ⟨u, he, F', d, H', ⟨v, G, rfl, rfl, hG⟩, hr, hg⟩
  have hm := (Mv.freeze (K := [(0, .ov v)]) (K' := [(0, .sh 1 ((G.map (·.l)).map (D.ls 2 RowD.d)))]) ([.sl v 1 22 (G.map Kp.d)] ++ G.map RH) (H1 := []) (H1' := []) ⟨⟨_, rfl, nest_rep (List.mem_append_left _ List.mem_cons_self) (fun x hx => List.mem_append_right _ (List.mem_map_of_mem hx))⟩, trivial⟩ .nil).out _ w' F' (fun _ => u) (fun t d hd => by
    simp only [zai] at hd
    by_cases e : t = 0
    · subst e; simp at hd; subst hd; exact hr
    · rw [zbh e] at hd; cases hd) (by rw [List.append_nil]; exact hg)
  obtain ⟨F2, hk, hg2⟩ := hm
  exact ⟨u, he, F2, _, [], ⟨rfl, rfl⟩, hG ▸ hk 0 _ rfl, hg2⟩)⟩
end Lp
/- Walks, printed by a program of mine. -/
set_option linter.unusedSimpArgs false
set_option linter.unusedVariables false
set_option maxHeartbeats 4000000
set_option maxRecDepth 100000
namespace Lp
open Go Go.RowKit Go.Proofs

namespace HdYtfjinapgehafiaaGreatV77
theorem zcu : ∀ w, ((#[⟨"Labels", 50, 0, false, "", "", 0⟩, ⟨"V", 3, 1, false, "", "", 24⟩] : Array Field).mapM fun f => do pure (f.offset, ← Go.sizeOf f.type) : Sem (Array (Nat × Nat))).run Tryz.prog w = .ok ([(0, 1), (1, 1)] : List (Nat × Nat)).toArray w := fun _ => by kernel_rfl
theorem zad (b o : Nat) : ∀ w, (Instr.fieldAt 53 (.pointer (some ⟨b, o, none⟩)) 0).run Tryz.prog w = .ok (.pointer (some ⟨b, o + 0, none⟩)) w := fun _ => by kernel_rfl
theorem zaO : ∃ i, Tryz.prog.info? 53 = some i ∧ i.zero = some (.agg #[(.slice none 0 0), (.int .i64 0)]) ∧ i.size = 2 ∧ i.bytes = 32 := za3 (by kernel_rfl)
theorem zbf : Tryz.prog.underlying 22 = some (.slice 53) := by kernel_rfl
end HdYtfjinapgehafiaaGreatV77
open HdYtfjinapgehafiaaGreatV77

theorem way_of {w : Way} (name : ByteArray) (n : Int) (hw : wayO name n = some w) : CD Tryz.prog 98 [] [.s name, dI n] (isR (wayD (some w))) := hw ▸ way_c name n
theorem p_way_nil {ty t t' : TypeId} {K : Kd} {H : List Hp} {x y : Operand} {w : Way} (hx : opD K x = some (wayD (some w))) (hy : y = .const .nilIface) (ht : t = 20) : Pu Tryz.prog (.binOp .eql t x y t') ty K H (dB false) :=
  ⟨fun ρ F0 F hk _ _ => by
    subst hy; subst ht
    have h : D.rep F0 F (wayD (some w)) (ev ρ x) := hk.op hx
    obtain ⟨T, u, e⟩ : ∃ T u, ev ρ x = .iface T u := by
      cases w <;> (obtain ⟨u, e, _⟩ := h; exact ⟨_, u, e⟩)
    exact zbR (zA ρ [x, .const .nilIface]) (zbe ρ e) (zbd ρ rfl) (fun w => by kernel_rfl) ⟨rfl, rfl⟩⟩
theorem p_way_top {ty t : TypeId} {K : Kd} {H : List Hp} {x : Operand} {w : Way} (hx : opD K x = some (wayD (some w))) (hw : w.red = true) (ht : t = 20) : Pu Tryz.prog (.typeAssert x t 105 true) ty K H (.tup [.agg [dI 0], dB false]) := by
  subst ht
  cases w with
  | sums m => exact (zaM (zv := (.agg #[(.int .i64 0)])) hx (fun _ _ => by kernel_rfl)).cv (Cv.tup (.cons (Cv.vagg (by decide)) (.cons Cv.rfl' .nil)))
  | least => exact (zaM (zv := (.agg #[(.int .i64 0)])) hx (fun _ _ => by kernel_rfl)).cv (Cv.tup (.cons (Cv.vagg (by decide)) (.cons Cv.rfl' .nil)))
  | most => exact (zaM (zv := (.agg #[(.int .i64 0)])) hx (fun _ _ => by kernel_rfl)).cv (Cv.tup (.cons (Cv.vagg (by decide)) (.cons Cv.rfl' .nil)))
  | many => exact (zaM (zv := (.agg #[(.int .i64 0)])) hx (fun _ _ => by kernel_rfl)).cv (Cv.tup (.cons (Cv.vagg (by decide)) (.cons Cv.rfl' .nil)))
  | rank p => exact (zaM (zv := (.agg #[(.int .i64 0)])) hx (fun _ _ => by kernel_rfl)).cv (Cv.tup (.cons (Cv.vagg (by decide)) (.cons Cv.rfl' .nil)))
  | top n => cases hw
theorem gs_facts {mode : Int} {names : List ByteArray} {l : List RowD} {k : Nat} {g : List RowD} (hg : zT l = true) (hx : (zu mode names l)[k]? = some g) : 0 < g.length ∧ g.length ≤ 2000 ∧ (∀ r ∈ g, r.ls.length ≤ 8) ∧ (∀ r ∈ g, r ∈ l) := by
  have hvl := (zay.1 hg).1
  unfold zu at hx; rw [if_pos hg] at hx
  have hm := zae hx
  have h1 := (zcy (κ := kapB mode names) l).ne g hm
  have h2 := splitG_rows (κ := kapB mode names) l g hm
  have h3 := splitG_mem (κ := kapB mode names) l g hm
  refine ⟨List.length_pos_iff.2 h1, by omega, fun r hr => okRow_len (zcb hg r (h3 r hr)), h3⟩
theorem gs_len {mode : Int} {names : List ByteArray} {l : List RowD} (hg : zT l = true) : (zu mode names l).length ≤ 2000 := by
  have hvl := (zay.1 hg).1
  have := splitG_len (κ := kapB mode names) l
  unfold zu; rw [if_pos hg]; omega

theorem do_c (name : ByteArray) (n : Int) (mode : Int) (names : List ByteArray) (l : List RowD) (w : Way) (hw : wayO name n = some w) (hr : w.red = true) (hl : l.length ≤ 1000000) :
    CD Tryz.prog 31 [] [.s name, dI n, dI mode, .sh 1 (names.map D.s), .sh 2 (l.map RowD.d)] (fun r H' => ∃ v0_, r = .tup [.ov v0_, dI (gdE w mode names l)] ∧ H' = [.sl v0_ 2 53 ((gdL w mode names l).map RowD.d)]) := by
  refine zq Tryz.func31 rfl (N := 87) rfl rfl (fun C => ?_)
  refine jk [0, 1, 2, 3, 4] rfl ?_
  refine JD.bd 0 rfl (fun bd0 => ?_)
  have sz0 : name.size ≤ 9223372036854775807 := bd0
  refine JD.bd 3 rfl (fun bd3 => ?_)
  have nl3 := zS bd3
  refine JD.bd 4 rfl (fun bd4 => ?_)
  have nl4 := zS bd4
  have hag := way_agg hw
  refine jT rfl (oR 2 rfl (oZ rfl (jT rfl (oR 2 rfl (oW rfl rfl acs Tryz.call98 (way_of name n hw) (oR 1 rfl (oZ rfl (jS rfl (jS rfl (jk [0, 2, 3, 4, 10, 11, 12] rfl ?_))))))))))
  refine zal 34 (!(zT l)) [] (fun _ hQ1 => ?_) ?_
  · skip
    refine za rfl (oR 1 rfl (oP rfl (p_way_nil rfl rfl rfl) (oR 2 rfl (oV rfl rfl acs Tryz.call99 (Agg_c name) (os 27 rfl (congrArg (fun b => D.v (.bool b)) hag) (oR 4 rfl (oV rfl rfl acs Tryz.call26 (vRight_c l) (oG rfl (zbc rfl) (oR 1 rfl (ze rfl ?_))))))))))
    exact PD.sub ((34, dB (!(zT l))) :: [(0, .s name), (2, dI mode), (3, .sh 1 (names.map D.s)), (4, .sh 2 (l.map RowD.d)), (10, dZ), (11, dI 0), (12, wayD (some w))]) ⟨sc rfl (Cv.eq (congrArg (fun b => D.v (.bool b)) (by first | (simp [hag]; done) | (simp_all; done)))), sk rfl, sk rfl, sk rfl, sk rfl, sk rfl, sk rfl, sk rfl, trivial⟩ hQ1
  · skip
    refine zb ?_
    refine jC rfl (fun hc2 => ?_) (fun hc2 => ?_)
    · simp only [bA, bB, bC, bD, bE, bF, bG, bH, bI, bJ] at hc2
      have hbd : zT l = false := by simpa using hc2
      refine jT rfl (oR 2 rfl (oZ rfl (zm rfl (zd (PD.subH (HSub.nil 2 53) (PD.norm [.sl (.slice none 0 0) 2 53 ((gdL w mode names l).map RowD.d)] (by have hw : [] = gdL w mode names l := (by first | exact (gd_bad hbd).1 | exact (gd_bad hbd).2); rw [show ([] : List D) = List.map RowD.d (gdL w mode names l) from congrArg (List.map RowD.d) hw]) ?_))))))
      exact zl Tryz.results31 (.cons (zx (zh rfl) (Cv.ov rfl)) (.cons (zx (zh rfl) (Cv.eq (congrArg (fun n => D.v (.int .i64 n)) (by first | exact (gd_bad hbd).1 | exact (gd_bad hbd).2)))) .nil)) rfl (HSub.fst 1 rfl) ⟨(.slice none 0 0), rfl, rfl⟩
    · simp only [bA, bB, bC, bD, bE, bF, bG, bH, bI, bJ] at hc2
      have hgd : zT l = true := by simpa using hc2
      have hvl := (zay.1 hgd).1
      have hgl := gs_len (mode := mode) (names := names) hgd
      refine zj rfl (zb (jT rfl (oR 1 rfl (oZ rfl (jS rfl (jT rfl (oR 3 rfl (oW rfl rfl acs Tryz.call33 (splitF_c mode names l (by first | omega | decide)) (oP rfl (z6 (n := (zu mode names l).length) rfl Tryz.runUnderlying36 (by simp only [lm, lc, ln])) (oR 1 rfl (oZ rfl (jB rfl (jl3 (fun (a_ : Nat) (b_ : Value) (c_ : List RowD) => [(2, dI mode), (3, .sh 1 (names.map D.s)), (12, wayD (some w)), (38, .sh 1 ((zu mode names l).map (D.ls 2 RowD.d))), (39, dN ((zu mode names l).length)), (40, dN a_), (13, .ov b_)]) (fun a_ b_ c_ => [.sl b_ 2 53 (c_.map RowD.d)]) (fun a_ b_ c_ => (a_ ≤ (zu mode names l).length) ∧ (c_ = outR (kapB mode names) w ((zu mode names l).take a_)) ∧ (za9 (numF w) ((zu mode names l).take a_) = 0)) (fun a_ b_ c_ => (zu mode names l).length - a_) 0 (.slice none 0 0) [] rfl ⟨sk rfl, sk rfl, sk rfl, sk rfl, sk rfl, sk rfl, sc rfl (Cv.ov rfl), trivial⟩ (HSub.nil 2 53) ⟨Nat.zero_le _, rfl, rfl⟩ ?_)))))))))))))
      rintro k ov o ⟨hkl, ho, he⟩
      refine ja rfl (jn rfl ?_)
      have hol : o.length ≤ 2000 := by rw [ho]; unfold outR; rw [List.length_map, List.length_take]; omega
      refine jT rfl (oP rfl (zQ rfl rfl rfl) (oZ rfl (jS rfl ?_)))
      refine jD rfl (fun hc3 => ?_) (fun hc3 => ?_)
      · skip
        refine zj rfl (zb (jS rfl (jB rfl (jT rfl ?_))))
        obtain ⟨x1, hx1⟩ := zy (zu mode names l) k (by omega)
        have hgx := gs_facts hgd hx1
        refine oP rfl (zr (k := k) rfl rfl Tryz.runUnderlying36 Tryz.sizeOf22 (by first | rfl | omega) (zg (f := (D.ls 2 RowD.d)) hx1)) (oP rfl (zH rfl Tryz.isAgg22 rfl) (oR 1 rfl (oZ rfl (jS rfl (jT rfl (oR 1 rfl (oP rfl (p_way_top rfl hr rfl) (oR 3 rfl (oE rfl (zar (zv := (.agg #[(.int .i64 0)])) Tryz.zeroValue105 ⟨rfl, trivial⟩ (Cv.vagg (by decide))) ?_)))))))))
        rintro _ _ ⟨g4, rfl, rfl⟩
        refine oE rfl (zY (i := 0) (X' := .agg [dI 0]) rfl rfl rfl (CellD.agg) Tryz.sizeOf105 rfl rfl rfl) ?_
        rintro _ _ ⟨rfl, rfl⟩
        refine on rfl (oR 1 rfl (oZ rfl (jT rfl (oR 1 rfl (oZ rfl (jCf rfl (zj rfl (zb (jT rfl (oR 2 rfl (oW rfl rfl acs Tryz.call102 (one_c w hr x1 hgx.1 (by have h := hgx.2.1; omega)) (oR 5 rfl (oZ rfl (jS rfl (jT rfl (oR 1 rfl (oP rfl (zbH rfl rfl rfl) (oZ rfl ?_))))))))))))))))))
        refine jD rfl (fun hc5 => ?_) (fun hc5 => ?_)
        · skip
          refine jT rfl (oR 3 rfl (oZ rfl (zm rfl (zd (zf (zd (zP (zf (zd (PD.subH (HSub.nil 2 53) (PD.norm [.sl (.slice none 0 0) 2 53 ((gdL w mode names l).map RowD.d), .bx g4 105 (.agg [dI 0]), .sl ov 2 53 (o.map RowD.d)] (by have hw : [] = gdL w mode names l := (by first | exact (gd_err hgd hx1 he (by have h := hc5; omega)).1 | exact (gd_err hgd hx1 he (by have h := hc5; omega)).2); rw [show ([] : List D) = List.map RowD.d (gdL w mode names l) from congrArg (List.map RowD.d) hw]) ?_)))))))))))
          exact zl Tryz.results31 (.cons (zx (zh rfl) (Cv.ov rfl)) (.cons (zx (zh rfl) (Cv.eq (congrArg (fun n => D.v (.int .i64 n)) (by first | exact (gd_err hgd hx1 he (by have h := hc5; omega)).1 | exact (gd_err hgd hx1 he (by have h := hc5; omega)).2)))) .nil)) rfl (HSub.fst 1 rfl) ⟨(.slice none 0 0), rfl, rfl⟩
        · skip
          refine zj rfl (zb (za rfl (oR 4 rfl ?_)))
          obtain ⟨x2, hx2⟩ := zy x1 0 (by omega)
          have hk8 := hgx.2.2.1 x2 (zae hx2)
          refine oP rfl (zr (k := 0) rfl rfl Tryz.runUnderlying22 Tryz.sizeOf53 (by first | rfl | omega) (zg hx2)) (oP rfl (zF rfl zad rfl) (oP rfl (zH rfl Tryz.isAgg50 rfl) (oE rfl (zN [] _ [] rfl rfl (.cons ArgC.id (.cons ArgC.id (.cons ArgC.id .nil))) zz Tryz.call34 (by_c mode names x2.ls (by omega)) (.inl rfl)) ?_)))
          rintro _ _ ⟨_, ⟨v6, rfl, rfl⟩, rfl⟩
          refine on rfl (oR 1 rfl ?_)
          refine OpsD.mv (Mv.freeze (K' := [(2, dI mode), (3, .sh 1 (names.map D.s)), (12, wayD (some w)), (13, .ov ov), (15, .sh 2 (x1.map RowD.d)), (16, dP g4 0), (17, dB false), (18, dI ((numF w x1).1)), (19, dI ((numF w x1).2)), (38, .sh 1 ((zu mode names l).map (D.ls 2 RowD.d))), (39, dN ((zu mode names l).length)), (40, dN k), (41, dB (decide (((k : Nat) : Int) < (((zu mode names l).length : Nat) : Int)))), (42, .el (.sh 2 (x1.map RowD.d)) 0), (43, .sh 2 (x1.map RowD.d)), (44, .tup [.agg [dI 0], dB false]), (45, wayD (some w)), (46, .tup [.agg [dI 0], dB false]), (47, .agg [dI 0]), (48, dB false), (49, dB false), (61, .tup [dI ((numF w x1).1), dI ((numF w x1).2)]), (62, wayD (some w)), (63, .sh 2 (x1.map RowD.d)), (64, .tup [dI ((numF w x1).1), dI ((numF w x1).2)]), (65, dI ((numF w x1).1)), (66, dI ((numF w x1).2)), (67, dI ((numF w x1).2)), (68, dB (decide ((numF w x1).2 ≠ (0 : Int)))), (70, .ov ov), (71, dI mode), (72, .sh 1 (names.map D.s)), (73, .sh 2 (x1.map RowD.d)), (74, .el (RowD.d x2) 0), (75, .el (RowD.d x2) 0), (76, .sh 2 (x2.ls.map Lbl.d)), (77, .sh 2 ((byL mode names x2.ls).map Lbl.d)), (78, dI ((numF w x1).1))]) [.sl v6 2 62 ((byL mode names x2.ls).map Lbl.d)] (H1 := [.bx g4 105 (.agg [dI 0]), .sl ov 2 53 (o.map RowD.d)]) (H1' := [.bx g4 105 (.agg [dI 0]), .sl ov 2 53 (o.map RowD.d)]) ⟨⟨_, rfl, ArgC.id⟩, ⟨_, rfl, ArgC.id⟩, ⟨_, rfl, ArgC.id⟩, ⟨_, rfl, ArgC.id⟩, ⟨_, rfl, ArgC.id⟩, ⟨_, rfl, ArgC.id⟩, ⟨_, rfl, ArgC.id⟩, ⟨_, rfl, ArgC.id⟩, ⟨_, rfl, ArgC.id⟩, ⟨_, rfl, ArgC.id⟩, ⟨_, rfl, ArgC.id⟩, ⟨_, rfl, ArgC.id⟩, ⟨_, rfl, ArgC.id⟩, ⟨_, rfl, ArgC.id⟩, ⟨_, rfl, ArgC.id⟩, ⟨_, rfl, ArgC.id⟩, ⟨_, rfl, ArgC.id⟩, ⟨_, rfl, ArgC.id⟩, ⟨_, rfl, ArgC.id⟩, ⟨_, rfl, ArgC.id⟩, ⟨_, rfl, ArgC.id⟩, ⟨_, rfl, ArgC.id⟩, ⟨_, rfl, ArgC.id⟩, ⟨_, rfl, ArgC.id⟩, ⟨_, rfl, ArgC.id⟩, ⟨_, rfl, ArgC.id⟩, ⟨_, rfl, ArgC.id⟩, ⟨_, rfl, ArgC.id⟩, ⟨_, rfl, ArgC.id⟩, ⟨_, rfl, ArgC.id⟩, ⟨_, rfl, ArgC.id⟩, ⟨_, rfl, ArgC.id⟩, ⟨_, rfl, ArgC.id⟩, ⟨_, rfl, ArgC.id⟩, ⟨_, rfl, ArgC.id⟩, ⟨_, rfl, ArgC.id⟩, ⟨_, rfl, ArgC.own (j := 0) rfl rfl⟩, ⟨_, rfl, ArgC.id⟩, trivial⟩ (.same (.same .nil))) ?_
          refine oP rfl (za2 [0, 1] [.tmp 77, .tmp 78] (zv := (.agg #[(.slice none 0 0), (.int .i64 0)])) rfl rfl (.cons CellD.sh (.cons (CellD.v rfl) .nil)) (Tryz.runUnderlying53) Tryz.zeroValue53 zcu ⟨rfl, rfl, trivial⟩ rfl) (oE rfl (zap [.tmp 79] rfl rfl (.cons CellD.agg .nil) rfl Tryz.runUnderlying22 Tryz.sizeOf53 Tryz.zeroValue53 rfl rfl rfl rfl) ?_)
          rintro _ _ ⟨g7, rfl, rfl⟩
          refine oE rfl (zac (f := RowD.d) (l := o) (l' := [(RowD.mk (byL mode names x2.ls) ((numF w x1).1))]) (i := 2) rfl rfl rfl (SrcD.own (j := 0) rfl rfl) zbf zaO rfl rfl (by unfold maxLen; (try simp only [la, lc, ln, lm, lt', ld, ls, lr]); omega) (by (try simp only [la, lc, ln, lm, lt', ld, ls, lr]); omega)) ?_
          rintro _ _ ⟨v8, rfl, rfl⟩
          refine on rfl (oR 1 rfl (ze rfl (zp (zb (za rfl (oP rfl (zO (c := ((k + 1 : Nat) : Int)) rfl rfl (zB (by omega) (by omega))) (oR 1 rfl (ze rfl (PD.subH (HSub.perm (z2 (i := 2) rfl)) (pn rfl (PD.subH (HSub.fst 1 rfl) (pn rfl ?_))))))))))))
          exact pl3 (k + 1) v8 (o ++ [(RowD.mk (byL mode names x2.ls) ((numF w x1).1))]) (sa rfl) HSub.rfl' ⟨by show k + 1 ≤ (zu mode names l).length; omega, by rw [ho, outR_snoc hx1, head_of (κ := kapB mode names) hx2], firstG_snoc hx1 he (by have h := hc5; omega)⟩ (by omega)
      · skip
        refine zL rfl (zo (zn (zk (zb (jS rfl (JD.mv (Mv.freeze (K' := [(2, dI mode), (3, .sh 1 (names.map D.s)), (12, wayD (some w)), (13, .sh 2 (o.map RowD.d)), (38, .sh 1 ((zu mode names l).map (D.ls 2 RowD.d))), (39, dN ((zu mode names l).length)), (40, dN k), (41, dB (decide (((k : Nat) : Int) < (((zu mode names l).length : Nat) : Int))))]) [.sl ov 2 53 (o.map RowD.d)] (H1 := []) (H1' := []) ⟨⟨_, rfl, ArgC.id⟩, ⟨_, rfl, ArgC.id⟩, ⟨_, rfl, ArgC.id⟩, ⟨_, rfl, ArgC.own (j := 0) rfl rfl⟩, ⟨_, rfl, ArgC.id⟩, ⟨_, rfl, ArgC.id⟩, ⟨_, rfl, ArgC.id⟩, ⟨_, rfl, ArgC.id⟩, trivial⟩ .nil) (za rfl (oR 1 rfl (oE rfl (zN [] _ [] rfl rfl (.cons ArgC.id .nil) zz Tryz.call14 (vTidy_c o) (.inl rfl)) ?_)))))))))
        rintro _ _ ⟨_, ⟨v9, rfl, rfl⟩, rfl⟩
        refine on rfl (oR 4 rfl (oZ rfl (jk [10, 11] rfl (zm rfl (PD.norm [.sl v9 2 53 ((gdL w mode names l).map RowD.d)] (by have hw : rtL o = gdL w mode names l := (by first | (rw [ho]; exact (gd_ok hgd he (by omega)).1) | (rw [ho]; exact (gd_ok hgd he (by omega)).2)); rw [hw]) ?_)))))
        exact zl Tryz.results31 (.cons (zh rfl) (.cons (zx (zh rfl) (Cv.eq (congrArg (fun n => D.v (.int .i64 n)) (by first | (rw [ho]; exact (gd_ok hgd he (by omega)).1) | (rw [ho]; exact (gd_ok hgd he (by omega)).2))))) .nil)) rfl (HSub.fst 1 rfl) ⟨v9, rfl, rfl⟩
end Lp
