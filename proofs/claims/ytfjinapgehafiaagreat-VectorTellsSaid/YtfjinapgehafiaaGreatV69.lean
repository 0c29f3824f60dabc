/- Walks, printed by a program of mine. -/
import Derived.Test.YtfjinapgehafiaaGreatPQuo
set_option linter.unusedSimpArgs false
set_option linter.unusedVariables false
set_option maxHeartbeats 4000000
set_option maxRecDepth 100000
namespace Lp
open Go Go.RowKit Go.Proofs

namespace HdYtfjinapgehafiaaGreatV69
theorem zbQ : ∀ w, ((#[⟨"Labels", 50, 0, false, "", "", 0⟩, ⟨"V", 3, 1, false, "", "", 24⟩] : Array Field).mapM fun f => do pure (f.offset, ← Go.sizeOf f.type) : Sem (Array (Nat × Nat))).run Tryz.prog w = .ok ([(0, 1), (1, 1)] : List (Nat × Nat)).toArray w := fun _ => by kernel_rfl
theorem zdb (x y : Operand) (a b : Bool) (w : World) : (do eqGuard .eql 4 x y (.bool a) (.bool b); binOp .eql 4 (.bool a) (.bool b) : Sem Value).run Tryz.prog w = .ok (.bool (a == b)) w := by cases a <;> cases b <;> kernel_rfl
theorem z2 (b o : Nat) : ∀ w, (Instr.fieldAt 53 (.pointer (some ⟨b, o, none⟩)) 0).run Tryz.prog w = .ok (.pointer (some ⟨b, o + 0, none⟩)) w := fun _ => by kernel_rfl
theorem zaj (b o : Nat) : ∀ w, (Instr.fieldAt 53 (.pointer (some ⟨b, o, none⟩)) 1).run Tryz.prog w = .ok (.pointer (some ⟨b, o + 1, none⟩)) w := fun _ => by kernel_rfl
theorem zax (b o : Nat) : ∀ w, (Instr.fieldAt 62 (.pointer (some ⟨b, o, none⟩)) 0).run Tryz.prog w = .ok (.pointer (some ⟨b, o + 0, none⟩)) w := fun _ => by kernel_rfl
theorem z9 : ∃ i, Tryz.prog.info? 53 = some i ∧ i.zero = some (.agg #[(.slice none 0 0), (.int .i64 0)]) ∧ i.size = 2 ∧ i.bytes = 32 := zaS (by kernel_rfl)
theorem zbF : ∃ i, Tryz.prog.info? 62 = some i ∧ i.zero = some (.agg #[(.string ByteArray.empty), (.string ByteArray.empty)]) ∧ i.size = 2 ∧ i.bytes = 32 := zaS (by kernel_rfl)
theorem infz_9 : ∃ i, Tryz.prog.info? 9 = some i ∧ i.zero = some (.string ByteArray.empty) ∧ i.size = 1 ∧ i.bytes = 16 := zaS (by kernel_rfl)
theorem zao : Tryz.prog.underlying 22 = some (.slice 53) := by kernel_rfl
theorem und_23 : Tryz.prog.underlying 23 = some (.slice 9) := by kernel_rfl
theorem zb4 : Tryz.prog.underlying 50 = some (.slice 62) := by kernel_rfl
end HdYtfjinapgehafiaaGreatV69
open HdYtfjinapgehafiaaGreatV69

theorem refPick_c (l : List Lbl) (names : List ByteArray) (w : Bool) (hl : l.length ≤ 1000000) :
    CD Tryz.prog 57 [] [.sh 2 (l.map Lbl.d), .sh 1 (names.map D.s), dB w] (zc7 2 62 ((zaQ l names w).map Lbl.d)) := by
  refine zy Tryz.func57 rfl (N := 47) rfl rfl (fun C => ?_)
  refine jk [0, 1, 2] rfl ?_
  refine JD.bd 0 rfl (fun bd0 => ?_)
  have nl0 := zZ bd0
  refine JD.bd 1 rfl (fun bd1 => ?_)
  have nl1 := zZ bd1
  refine jT rfl (oR 1 rfl (oZ rfl (jT rfl (oR 1 rfl (oZ rfl (jS rfl (jT rfl (oR 1 rfl (oZ rfl (jB rfl (jl3 (fun (a_ : Nat) (b_ : Value) (c_ : List Lbl) => [(0, .sh 2 (l.map Lbl.d)), (1, .sh 1 (names.map D.s)), (2, dB w), (6, dZ), (8, dN a_), (7, .ov b_)]) (fun a_ b_ c_ => [.sl b_ 2 62 (c_.map Lbl.d)]) (fun a_ b_ c_ => (zaQ (l.take a_) names w = c_) ∧ (c_.length ≤ a_) ∧ (a_ ≤ l.length)) (fun a_ b_ c_ => l.length - a_) 0 (.slice none 0 0) [] rfl ⟨sk rfl, sk rfl, sk rfl, sk rfl, sk rfl, sc rfl (Cv.ov rfl), trivial⟩ (HSub.nil 2 62) ⟨by simp [zaQ], Nat.le_refl _, Nat.zero_le _⟩ ?_)))))))))))
  rintro i ov o ⟨hf, ho, hil⟩
  refine ja rfl (jn rfl (jS rfl (jT rfl (oR 2 rfl (oP rfl (zae (n := l.length) rfl Tryz.runUnderlying50 (by simp only [lm, lc, ln])) (oP rfl (zL rfl rfl rfl) (oZ rfl ?_)))))))
  refine jD rfl (fun hc1 => ?_) (fun hc1 => ?_)
  · skip
    obtain ⟨x1, hx1⟩ := zG l i (by omega)
    refine zq rfl (zc (jS rfl (jB rfl (jT rfl (oR 1 rfl (oZ rfl (jS rfl (jT rfl (oR 1 rfl (oZ rfl (jB rfl (jl1 (fun (a_ : Nat) => [(0, .sh 2 (l.map Lbl.d)), (1, .sh 1 (names.map D.s)), (2, dB w), (6, dZ), (7, .ov ov), (8, dN i), (11, dN i), (12, .sh 2 (l.map Lbl.d)), (13, dN l.length), (14, dB (decide (((i : Nat) : Int) < ((l.length : Nat) : Int)))), (10, dN a_), (9, dB (hasN (names.take a_) x1.n))]) (fun a_ => [.sl ov 2 62 (o.map Lbl.d)]) (fun a_ => True) (fun a_ => names.length - a_) 0 rfl ⟨sk rfl, sk rfl, sk rfl, sk rfl, sk rfl, sk rfl, sk rfl, sk rfl, sk rfl, sk rfl, sk rfl, sc rfl (Cv.rfl'), trivial⟩ HSub.rfl' trivial ?_))))))))))))
    rintro j _
    refine ja rfl (jn rfl (jS rfl (jT rfl (oR 2 rfl (oP rfl (zae (n := names.length) rfl Tryz.runUnderlying23 (by simp only [lm, lc, ln])) (oP rfl (zL rfl rfl rfl) (oZ rfl ?_)))))))
    refine jD rfl (fun hc2 => ?_) (fun hc2 => ?_)
    · skip
      obtain ⟨x2, hx2⟩ := zG names j (by omega)
      refine zq rfl (zc (jS rfl (jB rfl (jk [0, 1, 2, 6, 7, 8, 10, 11, 12, 13, 14, 17, 18, 19, 20, 9] rfl ?_))))
      refine jd_cut ((9, dB ((hasN (names.take j) x1.n) || decide (x2 = x1.n))) :: [(0, .sh 2 (l.map Lbl.d)), (1, .sh 1 (names.map D.s)), (2, dB w), (6, dZ), (7, .ov ov), (8, dN i), (10, dN j), (11, dN i), (12, .sh 2 (l.map Lbl.d)), (13, dN l.length), (14, dB (decide (((i : Nat) : Int) < ((l.length : Nat) : Int)))), (17, dN j), (18, .sh 1 (names.map D.s)), (19, dN names.length), (20, dB (decide (((j : Nat) : Int) < ((names.length : Nat) : Int))))]) [.sl ov 2 62 (o.map Lbl.d)] (fun _ hQ3 => ?_) ?_
      · skip
        rcases Bool.eq_false_or_eq_true ((hasN (names.take j) x1.n)) with hg4 | hg4
        · skip
          refine JD.sub [(0, .sh 2 (l.map Lbl.d)), (1, .sh 1 (names.map D.s)), (2, dB w), (6, dZ), (7, .ov ov), (8, dN i), (9, dB true), (10, dN j), (11, dN i), (12, .sh 2 (l.map Lbl.d)), (13, dN l.length), (14, dB (decide (((i : Nat) : Int) < ((l.length : Nat) : Int)))), (17, dN j), (18, .sh 1 (names.map D.s)), (19, dN names.length), (20, dB (decide (((j : Nat) : Int) < ((names.length : Nat) : Int))))] ⟨sk rfl, sk rfl, sk rfl, sk rfl, sk rfl, sk rfl, se rfl (congrArg (fun b => D.v (.bool b)) (by simp [hg4])), sk rfl, sk rfl, sk rfl, sk rfl, sk rfl, sk rfl, sk rfl, sk rfl, sk rfl, trivial⟩ (jk [0, 1, 2, 6, 7, 8, 9, 10, 11, 12, 13, 14, 17, 18, 19, 20] rfl (jn rfl ?_))
          refine z3 11 [(23, dB true, none), (24, dB true, none), (25, .v undef, none), (26, .v undef, none), (27, .v undef, none), (28, .v undef, none), (29, .v undef, none), (30, .v undef, none), (31, .v undef, none), (32, .v undef, none), (33, .v undef, none)] [.sl ov 2 62 (o.map Lbl.d)] (Hn := [.sl ov 2 62 (o.map Lbl.d)]) zah rfl rfl rfl rfl HSub.rfl' rfl ⟨sa_p rfl rfl rfl (zm rfl), sa_p rfl rfl rfl (zm rfl), sa_s rfl rfl rfl rfl rfl rfl (by decide), sa_s rfl rfl rfl rfl rfl rfl (by decide), sa_s rfl rfl rfl rfl rfl rfl (by decide), sa_s rfl rfl rfl rfl rfl rfl (by decide), sa_s rfl rfl rfl rfl rfl rfl (by decide), sa_s rfl rfl rfl rfl rfl rfl (by decide), sa_s rfl rfl rfl rfl rfl rfl (by decide), sa_s rfl rfl rfl rfl rfl rfl (by decide), sa_s rfl rfl rfl rfl rfl rfl (by decide), trivial⟩ (ok [0, 1, 2, 6, 7, 8, 9, 10, 11, 12, 13, 14, 17, 18, 19, 20, 23, 24, 25, 26, 27, 28, 29, 30, 31, 32, 33] rfl (oR 3 rfl (zg rfl ?_)))
          exact PD.sub ((9, dB ((hasN (names.take j) x1.n) || decide (x2 = x1.n))) :: [(0, .sh 2 (l.map Lbl.d)), (1, .sh 1 (names.map D.s)), (2, dB w), (6, dZ), (7, .ov ov), (8, dN i), (10, dN j), (11, dN i), (12, .sh 2 (l.map Lbl.d)), (13, dN l.length), (14, dB (decide (((i : Nat) : Int) < ((l.length : Nat) : Int)))), (17, dN j), (18, .sh 1 (names.map D.s)), (19, dN names.length), (20, dB (decide (((j : Nat) : Int) < ((names.length : Nat) : Int))))]) ⟨sc rfl (Cv.eq (congrArg (fun b => D.v (.bool b)) (by first | (simp [hc2, hg4]; done) | (simp_all; done)))), sk rfl, sk rfl, sk rfl, sk rfl, sk rfl, sk rfl, sk rfl, sk rfl, sk rfl, sk rfl, sk rfl, sk rfl, sk rfl, sk rfl, sk rfl, trivial⟩ hQ3
        · skip
          refine JD.sub [(0, .sh 2 (l.map Lbl.d)), (1, .sh 1 (names.map D.s)), (2, dB w), (6, dZ), (7, .ov ov), (8, dN i), (9, dB false), (10, dN j), (11, dN i), (12, .sh 2 (l.map Lbl.d)), (13, dN l.length), (14, dB (decide (((i : Nat) : Int) < ((l.length : Nat) : Int)))), (17, dN j), (18, .sh 1 (names.map D.s)), (19, dN names.length), (20, dB (decide (((j : Nat) : Int) < ((names.length : Nat) : Int))))] ⟨sk rfl, sk rfl, sk rfl, sk rfl, sk rfl, sk rfl, se rfl (congrArg (fun b => D.v (.bool b)) (by simp [hg4])), sk rfl, sk rfl, sk rfl, sk rfl, sk rfl, sk rfl, sk rfl, sk rfl, sk rfl, trivial⟩ (jk [0, 1, 2, 6, 7, 8, 9, 10, 11, 12, 13, 14, 17, 18, 19, 20] rfl (jn rfl ?_))
          refine z3 11 [(23, dB false, none), (24, dB false, none), (25, .sh 1 (names.map D.s), none), (26, dN j, none), (27, .el (.s x2) 0, none), (28, .s x2, none), (29, .sh 2 (l.map Lbl.d), none), (30, dN i, none), (31, .el (Lbl.d x1) 0, none), (32, .el (Lbl.d x1) 0, none), (33, .s x1.n, none)] [.sl ov 2 62 (o.map Lbl.d)] (Hn := [.sl ov 2 62 (o.map Lbl.d)]) zah rfl rfl rfl rfl HSub.rfl' rfl ⟨sa_p rfl rfl rfl (zm rfl), sa_p rfl rfl rfl (zm rfl), zM rfl rfl rfl rfl rfl rfl (zm rfl).qu, zM rfl rfl rfl rfl rfl rfl (zm rfl).qu, zM rfl rfl rfl rfl rfl rfl (zC (k := j) rfl rfl Tryz.runUnderlying23 Tryz.sizeOf9 (by first | rfl | omega) (zt hx2)).qu, zM rfl rfl rfl rfl rfl rfl (zH rfl Tryz.isAgg9 rfl).qu, zM rfl rfl rfl rfl rfl rfl (zm rfl).qu, zM rfl rfl rfl rfl rfl rfl (zm rfl).qu, zM rfl rfl rfl rfl rfl rfl (zC (k := i) rfl rfl Tryz.runUnderlying50 Tryz.sizeOf62 (by first | rfl | omega) (zt hx1)).qu, zM rfl rfl rfl rfl rfl rfl (zD rfl zax rfl).qu, zM rfl rfl rfl rfl rfl rfl (zH rfl Tryz.isAgg9 rfl).qu, trivial⟩ (ok [0, 1, 2, 6, 7, 8, 9, 10, 11, 12, 13, 14, 17, 18, 19, 20, 23, 24, 25, 26, 27, 28, 29, 30, 31, 32, 33] rfl (oG rfl (z7 rfl rfl rfl) (oR 2 rfl (zg rfl ?_))))
          exact PD.sub ((9, dB ((hasN (names.take j) x1.n) || decide (x2 = x1.n))) :: [(0, .sh 2 (l.map Lbl.d)), (1, .sh 1 (names.map D.s)), (2, dB w), (6, dZ), (7, .ov ov), (8, dN i), (10, dN j), (11, dN i), (12, .sh 2 (l.map Lbl.d)), (13, dN l.length), (14, dB (decide (((i : Nat) : Int) < ((l.length : Nat) : Int)))), (17, dN j), (18, .sh 1 (names.map D.s)), (19, dN names.length), (20, dB (decide (((j : Nat) : Int) < ((names.length : Nat) : Int))))]) ⟨sc rfl (Cv.eq (congrArg (fun b => D.v (.bool b)) (by first | (simp [hc2, hg4]; done) | (simp_all; done)))), sk rfl, sk rfl, sk rfl, sk rfl, sk rfl, sk rfl, sk rfl, sk rfl, sk rfl, sk rfl, sk rfl, sk rfl, sk rfl, sk rfl, sk rfl, trivial⟩ hQ3
      · skip
        refine zw (zc (za rfl (oR 1 rfl (oP rfl (zS (c := ((j + 1 : Nat) : Int)) rfl rfl (zF (by omega) (by omega))) (oR 1 rfl (zg rfl ?_))))))
        exact pl1 (j + 1) ⟨sk rfl, sk rfl, sk rfl, sk rfl, sk rfl, sk rfl, sk rfl, sk rfl, sk rfl, sk rfl, sk rfl, sc rfl (Cv.eq (congrArg dB (hasN_snoc hx2).symm)), trivial⟩ HSub.rfl' trivial (by omega)
    · skip
      have hin : hasN (names.take j) x1.n = hasN names x1.n := by rw [List.take_of_length_le (by omega)]
      refine zE rfl (zr (zn (zh (zc (jT rfl (oR 2 rfl (oP rfl (zdW (r := .bool ((hasN (names.take j) x1.n) == w)) rfl rfl (zdb _ _ _ _)) (oZ rfl ?_))))))))
      refine jC rfl (fun hc5 => ?_) (fun hc5 => ?_)
      · skip
        refine za rfl (oR 3 rfl (oP rfl (zC (k := i) rfl rfl Tryz.runUnderlying50 Tryz.sizeOf62 (by first | rfl | omega) (zt hx1)) (oP rfl (zar (d := Lbl.d x1) rfl Tryz.isAgg62 Tryz.sizeOf62 rfl rfl) (oE rfl (zJ [.tmp 43] rfl rfl (.cons CellD.agg .nil) rfl Tryz.runUnderlying50 Tryz.sizeOf62 Tryz.zeroValue62 rfl rfl rfl rfl) ?_))))
        rintro _ _ ⟨g6, rfl, rfl⟩
        refine oE rfl (zK (f := Lbl.d) (l := o) (l' := [x1]) (i := 1) rfl rfl rfl (SrcD.own (j := 0) rfl rfl) zb4 zbF rfl rfl (by unfold maxLen; (try simp only [la, lc, ln, lm, lt', ld, ls, lr]); omega) (by (try simp only [la, lc, ln, lm, lt', ld, ls, lr]); omega)) ?_
        rintro _ _ ⟨v7, rfl, rfl⟩
        refine on rfl (oR 1 rfl (zg rfl (zw (zc (za rfl (oR 1 rfl (oP rfl (zS (c := ((i + 1 : Nat) : Int)) rfl rfl (zF (by omega) (by omega))) (oR 1 rfl (zg rfl (PD.subH (HSub.perm (zk (i := 1) rfl)) (pn rfl (PD.subH (HSub.fst 1 rfl) (pn rfl ?_)))))))))))))
        exact pl3 (i + 1) v7 (o ++ [x1]) (sa rfl) HSub.rfl' ⟨by rw [pickL_snoc hx1 (by rw [← hin]; simpa using hc5), hf], by have := zbB (l.take i) names w; (try simp only [la, List.length_singleton]); omega, by omega⟩ (by omega)
      · skip
        refine zq rfl (zw (zc (za rfl (oR 1 rfl (oP rfl (zS (c := ((i + 1 : Nat) : Int)) rfl rfl (zF (by omega) (by omega))) (oR 1 rfl (zg rfl (pn rfl ?_))))))))
        exact pl3 (i + 1) ov o (sa rfl) HSub.rfl' ⟨by rw [pickL_skip hx1 (by rw [← hin]; simpa using hc5), hf], by have := zbB (l.take i) names w; (try simp only [la, List.length_singleton]); omega, by omega⟩ (by omega)
  · skip
    refine zE rfl (zr (zn (zh (zc (jT rfl (oR 2 rfl (oZ rfl (jk [6] rfl (zs rfl (PD.subH (HSub.less (zbu (i := 0) rfl)) (PD.subH (HSub.turn (h' := .sl ov 2 62 ((zaQ l names w).map Lbl.d)) rfl (Hp.eq_sl (show List.map Lbl.d o = List.map Lbl.d (zaQ l names w) from congrArg _ (by rw [← hf, List.take_of_length_le (by omega)])))) ?_)))))))))))
    exact zbP Tryz.results57 (.cons (zf rfl) .nil) rfl ⟨_, rfl, rfl⟩

theorem zdt (mode : Int) (names : List ByteArray) (l : List Lbl) (hl : l.length ≤ 1000000) (hn : names.length ≤ 1000) :
    CD Tryz.prog 25 [] [dI mode, .sh 1 (names.map D.s), .sh 2 (l.map Lbl.d)] (zc7 2 62 ((keyL mode names l).map Lbl.d)) := by
  refine zy Tryz.func25 rfl (N := 23) rfl rfl (fun C => ?_)
  refine jk [0, 1, 2] rfl ?_
  refine JD.bd 1 rfl (fun bd1 => ?_)
  have nl1 := zZ bd1
  refine JD.bd 2 rfl (fun bd2 => ?_)
  have nl2 := zZ bd2
  refine jT rfl (oR 1 rfl (oZ rfl (jS rfl (jT rfl (oR 1 rfl (oZ rfl (jB rfl (jT rfl (oP rfl (zV rfl rfl rfl) (oR 1 rfl (oZ rfl ?_)))))))))))
  refine jD rfl (fun hc1 => ?_) (fun hc1 => ?_)
  · skip
    refine jT rfl (oR 2 rfl (oE rfl (zx [] _ [] rfl rfl (.cons ArgC.id (.cons ArgC.id (.cons ArgC.id .nil))) zo Tryz.call57 (refPick_c l names true (by omega)) (.inl rfl)) ?_))
    rintro _ _ ⟨_, ⟨v2, rfl, rfl⟩, rfl⟩
    refine on rfl (oR 1 rfl (oZ rfl (zs rfl (zi (ze (PD.subH (HSub.less (zbu (i := 0) rfl)) (PD.subH (HSub.turn (h' := .sl v2 2 62 ((keyL mode names l).map Lbl.d)) rfl (Hp.eq_sl (show List.map Lbl.d (zaQ l names true) = List.map Lbl.d (keyL mode names l) from congrArg _ (by first | (unfold keyL metB; simp [*]; done) | (rw [show mode = 2 by assumption]; exact key2_eq names l))))) ?_)))))))
    exact zbP Tryz.results25 (.cons (zf rfl) .nil) rfl ⟨_, rfl, rfl⟩
  · skip
    refine jT rfl (oP rfl (zV rfl rfl rfl) (oR 1 rfl (oZ rfl ?_)))
    refine jD rfl (fun hc3 => ?_) (fun hc3 => ?_)
    · skip
      refine jT rfl (oR 1 rfl (oE rfl (zJ [.const (.string (⟨#[109, 101, 116, 114, 105, 99]⟩ : ByteArray))] rfl rfl (.cons (CellD.v rfl) .nil) rfl Tryz.runUnderlying23 Tryz.sizeOf9 Tryz.zeroValue9 rfl rfl rfl rfl) ?_))
      rintro _ _ ⟨g4, rfl, rfl⟩
      refine oR 1 rfl (OpsD.subH (HSub.turn (h' := .sl (vS g4 1 1) 1 9 ([(⟨#[109, 101, 116, 114, 105, 99]⟩ : ByteArray)].map D.s)) rfl (Hp.cvs_sl (.cons (Cv.str (by first | decide | (unfold maxLen; omega))) .nil))) (oE rfl (zK (f := D.s) (l := [(⟨#[109, 101, 116, 114, 105, 99]⟩ : ByteArray)]) (l' := names) (i := 0) rfl rfl rfl (SrcD.sh) und_23 infz_9 rfl rfl (by unfold maxLen; (try simp only [la, lc, ln, lm, lt', ld, ls, lr]); omega) (by (try simp only [la, lc, ln, lm, lt', ld, ls, lr]); omega)) ?_))
      rintro _ _ ⟨v5, rfl, rfl⟩
      refine on rfl (oE rfl (zx [] _ [.sl v5 1 9 (([(⟨#[109, 101, 116, 114, 105, 99]⟩ : ByteArray)] ++ names).map D.s)] rfl rfl (.cons ArgC.id (.cons (ArgC.own (j := 0) rfl rfl) (.cons ArgC.id .nil))) (zaf (j := 0) rfl zo) Tryz.call57 (refPick_c l ([(⟨#[109, 101, 116, 114, 105, 99]⟩ : ByteArray)] ++ names) false (by omega)) (.inr (isOwn_flat (zc9 (fun _ => rfl) _)))) ?_)
      rintro _ _ ⟨_, ⟨v6, rfl, rfl⟩, rfl⟩
      refine on rfl (oR 1 rfl (oZ rfl (jk [2, 6] rfl (zs rfl (zi (ze (PD.subH (HSub.less (zbu (i := 0) rfl)) (PD.subH (HSub.turn (h' := .sl v6 2 62 ((keyL mode names l).map Lbl.d)) rfl (Hp.eq_sl (show List.map Lbl.d (zaQ l ([(⟨#[109, 101, 116, 114, 105, 99]⟩ : ByteArray)] ++ names) false) = List.map Lbl.d (keyL mode names l) from congrArg _ (by first | (unfold keyL metB; simp [*]; done) | (rw [show mode = 2 by assumption]; exact key2_eq names l))))) ?_))))))))
      exact zbP Tryz.results25 (.cons (zf rfl) .nil) rfl ⟨_, rfl, rfl⟩
    · skip
      refine zq rfl (zw (zc (jT rfl (oR 1 rfl (oE rfl (zJ [.const (.string (⟨#[109, 101, 116, 114, 105, 99]⟩ : ByteArray))] rfl rfl (.cons (CellD.v rfl) .nil) rfl Tryz.runUnderlying23 Tryz.sizeOf9 Tryz.zeroValue9 rfl rfl rfl rfl) ?_)))))
      rintro _ _ ⟨g7, rfl, rfl⟩
      refine OpsD.subH (HSub.turn (h' := .sl (vS g7 1 1) 1 9 ([(⟨#[109, 101, 116, 114, 105, 99]⟩ : ByteArray)].map D.s)) rfl (Hp.cvs_sl (.cons (Cv.str (by first | decide | (unfold maxLen; omega))) .nil))) (oE rfl (zx [] _ [.sl (vS g7 1 1) 1 9 ([(⟨#[109, 101, 116, 114, 105, 99]⟩ : ByteArray)].map D.s)] rfl rfl (.cons ArgC.id (.cons (ArgC.own (j := 0) rfl rfl) (.cons ArgC.id .nil))) (zaf (j := 0) rfl zo) Tryz.call57 (refPick_c l [(⟨#[109, 101, 116, 114, 105, 99]⟩ : ByteArray)] false (by omega)) (.inr (isOwn_flat (zc9 (fun _ => rfl) _)))) ?_)
      rintro _ _ ⟨_, ⟨v8, rfl, rfl⟩, rfl⟩
      refine on rfl (oR 1 rfl (oZ rfl (jk [6] rfl (zs rfl (PD.subH (HSub.less (zbu (i := 0) rfl)) (PD.subH (HSub.turn (h' := .sl v8 2 62 ((keyL mode names l).map Lbl.d)) rfl (Hp.eq_sl (show List.map Lbl.d (zaQ l [(⟨#[109, 101, 116, 114, 105, 99]⟩ : ByteArray)] false) = List.map Lbl.d (keyL mode names l) from congrArg _ (by first | (unfold keyL metB; simp [*]; done) | (rw [show mode = 2 by assumption]; exact key2_eq names l))))) ?_))))))
      exact zbP Tryz.results25 (.cons (zf rfl) .nil) rfl ⟨_, rfl, rfl⟩

theorem zbe (l : List RowD) (hl : l.length ≤ 1000000) (hli : ∀ r ∈ l, zam r.ls = true) :
    CD Tryz.prog 27 [] [.sh 2 (l.map RowD.d)] (isR (dB (zT l))) := by
  refine zy Tryz.func27 rfl (N := 31) rfl rfl (fun C => ?_)
  refine jk [0] rfl ?_
  refine JD.bd 0 rfl (fun bd0 => ?_)
  have nl0 := zZ bd0
  refine jT rfl (oR 1 rfl (oZ rfl (jT rfl (oR 1 rfl (oE rfl (zx [] _ [] rfl rfl (.cons ArgC.id .nil) zo Tryz.call19 (refTidyR_c l (by first | omega | (simp only [la, List.length_singleton]; omega)) hli) (.inl rfl)) ?_)))))
  rintro _ _ ⟨_, ⟨v1, rfl, rfl⟩, rfl⟩
  refine on rfl (oR 5 rfl (oZ rfl (jS rfl (jT rfl (oR 1 rfl (oP rfl (zau rfl rfl rfl) (oZ rfl ?_)))))))
  refine jD rfl (fun hc2 => ?_) (fun hc2 => ?_)
  · skip
    refine jT rfl (oR 1 rfl (oZ rfl (zs rfl (ze ?_))))
    exact zj Tryz.results27 (.cons (zB (zf rfl) (Cv.eq (congrArg (fun b => D.v (.bool b)) (by exact rr_bad hc2)))) .nil) rfl HSub.none ⟨rfl, rfl⟩
  · skip
    have hrt : rtE l = 0 := by have h := hc2; first | exact h | exact Decidable.not_not.1 h | omega
    have hrl := rr_len hrt
    refine zq rfl (zc (jS rfl (jT rfl (oR 1 rfl (oZ rfl (jB rfl (jl1 (fun (a_ : Nat) => [(0, .sh 2 (l.map RowD.d)), (3, .ov v1), (5, dN a_)]) (fun a_ => [.sl v1 2 53 ((rtL l).map RowD.d)]) (fun a_ => (((rtL l).map (·.ls)).take a_ = (l.map (·.ls)).take a_)) (fun a_ => l.length - a_) 0 rfl (sa rfl) HSub.rfl' rfl ?_)))))))
    rintro i hs
    refine ja rfl (jn rfl (jS rfl (jT rfl (oR 2 rfl (oP rfl (zae (n := l.length) rfl Tryz.runUnderlying22 (by simp only [lm, lc, ln])) (oP rfl (zL rfl rfl rfl) (oZ rfl ?_)))))))
    refine jD rfl (fun hc3 => ?_) (fun hc3 => ?_)
    · skip
      refine zq rfl (zc (jS rfl (jB rfl (jS rfl (jk [0, 3, 5, 13, 14, 15, 16] rfl (jn rfl ?_))))))
      obtain ⟨x1, hx1⟩ := zG (rtL l) i (by omega)
      obtain ⟨x2, hx2⟩ := zG l i (by omega)
      refine z3 10 [(19, .ov v1, none), (20, dN i, none), (21, .v (.pointer (some ⟨bl v1, i * 2 + 0, none⟩)), none), (22, .v (.pointer (some ⟨bl v1, i * 2 + 0, none⟩)), none), (23, .sh 2 (x1.ls.map Lbl.d), none), (24, .sh 2 (l.map RowD.d), none), (25, dN i, none), (26, .el (RowD.d x2) 0, none), (27, .el (RowD.d x2) 0, none), (28, .sh 2 (x2.ls.map Lbl.d), none)] [.sl v1 2 53 ((rtL l).map RowD.d)] (Hn := [.sl v1 2 53 ((rtL l).map RowD.d)]) zah rfl rfl rfl rfl HSub.rfl' rfl ⟨sa_p rfl rfl rfl (zm rfl), sa_p rfl rfl rfl (zm rfl), sa_p rfl rfl rfl (zA (k := i) (j := 0) rfl rfl rfl Tryz.runUnderlying22 Tryz.sizeOf53 (by first | rfl | omega) (zt hx1)), sa_p rfl rfl rfl (zl rfl z2 rfl), sa_p rfl rfl rfl (z5 rfl (i := 0) rfl (zt hx1) Tryz.isAgg50 rfl), sa_p rfl rfl rfl (zm rfl), sa_p rfl rfl rfl (zm rfl), sa_p rfl rfl rfl (zC (k := i) rfl rfl Tryz.runUnderlying22 Tryz.sizeOf53 (by first | rfl | omega) (zt hx2)), sa_p rfl rfl rfl (zD rfl z2 rfl), sa_p rfl rfl rfl (zH rfl Tryz.isAgg50 rfl), trivial⟩ (ok [0, 3, 5, 13, 14, 15, 16, 19, 20, 21, 22, 23, 24, 25, 26, 27, 28] rfl (oW rfl rfl acs Tryz.call54 (zb7 x1.ls x2.ls) (oP rfl (zau rfl rfl rfl) (oZ rfl ?_))))
      refine jD rfl (fun hc4 => ?_) (fun hc4 => ?_)
      · skip
        refine jT rfl (oR 1 rfl (oZ rfl (zs rfl (zi (ze (zQ (zi (ze ?_))))))))
        exact zj Tryz.results27 (.cons (zB (zf rfl) (Cv.eq (congrArg (fun b => D.v (.bool b)) (by exact rr_ne hx1 hx2 hc4)))) .nil) rfl HSub.none ⟨rfl, rfl⟩
      · skip
        refine zq rfl (zw (zc (za rfl (oR 1 rfl (oP rfl (zS (c := ((i + 1 : Nat) : Int)) rfl rfl (zF (by omega) (by omega))) (oR 1 rfl (zg rfl ?_)))))))
        exact pl1 (i + 1) (sa rfl) HSub.rfl' (rr_next hs hx1 hx2 (by have h := hc4; first | exact h | exact Decidable.not_not.1 h)) (by omega)
    · skip
      refine zE rfl (zr (zn (zh (zc (jT rfl (oR 1 rfl (oZ rfl (zs rfl ?_))))))))
      exact zj Tryz.results27 (.cons (zB (zf rfl) (Cv.eq (congrArg (fun b => D.v (.bool b)) (by exact rr_ok hrt (by omega) hs)))) .nil) rfl HSub.none ⟨rfl, rfl⟩

theorem refScale_c (op : ByteArray) (l : List RowD) (v : Int) (left : Bool) (hl : l.length ≤ 1000000) (hli : ∀ r ∈ l, zam r.ls = true) :
    CD Tryz.prog 20 [] [.s op, .sh 2 (l.map RowD.d), dI v, dB left] (fun r H' => ∃ v0_, r = .tup [.ov v0_, dI (zX op l v left)] ∧ H' = [.sl v0_ 2 53 ((zb op l v left).map RowD.d)]) := by
  refine zy Tryz.func20 rfl (N := 85) rfl rfl (fun C => ?_)
  refine jk [0, 1, 2, 3] rfl ?_
  refine JD.bd 0 rfl (fun bd0 => ?_)
  have sz0 : op.size ≤ 9223372036854775807 := bd0
  refine JD.bd 1 rfl (fun bd1 => ?_)
  have nl1 := zZ bd1
  refine jT rfl (oR 2 rfl (oZ rfl (jS rfl (jS rfl (jk [0, 1, 2, 3, 8, 9] rfl ?_)))))
  refine zab 28 (((!(zT l) || !(opB op)) || !(zU v))) [] (fun _ hQ1 => ?_) ?_
  · skip
    rcases Bool.eq_false_or_eq_true (zT l) with hg2 | hg2
    · skip
      rcases Bool.eq_false_or_eq_true (opB op) with hg3 | hg3
      · skip
        refine za rfl (oR 1 rfl (oW rfl rfl acs Tryz.call27 (zbe l (by omega) hli) (os 17 rfl (congrArg (fun b => D.v (.bool b)) hg2) (oR 3 rfl (oV rfl rfl acs Tryz.call51 (refOp_c op) (os 21 rfl (congrArg (fun b => D.v (.bool b)) hg3) (oR 4 rfl (oV rfl rfl acs Tryz.call37 (zaV v) (oG rfl (zaP rfl) (oR 1 rfl (zg rfl ?_)))))))))))
        exact PD.sub ((28, dB ((!(zT l) || !(opB op)) || !(zU v))) :: [(0, .s op), (1, .sh 2 (l.map RowD.d)), (2, dI v), (3, dB left), (8, dZ), (9, dI 0)]) ⟨sc rfl (Cv.eq (congrArg (fun b => D.v (.bool b)) (by first | (simp [hg2, hg3]; done) | (simp_all; done)))), sk rfl, sk rfl, sk rfl, sk rfl, sk rfl, sk rfl, trivial⟩ hQ1
      · skip
        refine za rfl (oR 1 rfl (oW rfl rfl acs Tryz.call27 (zbe l (by omega) hli) (os 17 rfl (congrArg (fun b => D.v (.bool b)) hg2) (oR 3 rfl (oV rfl rfl acs Tryz.call51 (refOp_c op) (os 21 rfl (congrArg (fun b => D.v (.bool b)) hg3) (oR 7 rfl (zg rfl ?_))))))))
        exact PD.sub ((28, dB ((!(zT l) || !(opB op)) || !(zU v))) :: [(0, .s op), (1, .sh 2 (l.map RowD.d)), (2, dI v), (3, dB left), (8, dZ), (9, dI 0)]) ⟨sc rfl (Cv.eq (congrArg (fun b => D.v (.bool b)) (by first | (simp [hg2, hg3]; done) | (simp_all; done)))), sk rfl, sk rfl, sk rfl, sk rfl, sk rfl, sk rfl, trivial⟩ hQ1
    · skip
      refine za rfl (oR 1 rfl (oW rfl rfl acs Tryz.call27 (zbe l (by omega) hli) (os 17 rfl (congrArg (fun b => D.v (.bool b)) hg2) (oR 11 rfl (zg rfl ?_)))))
      exact PD.sub ((28, dB ((!(zT l) || !(opB op)) || !(zU v))) :: [(0, .s op), (1, .sh 2 (l.map RowD.d)), (2, dI v), (3, dB left), (8, dZ), (9, dI 0)]) ⟨sc rfl (Cv.eq (congrArg (fun b => D.v (.bool b)) (by first | (simp [hg2]; done) | (simp_all; done)))), sk rfl, sk rfl, sk rfl, sk rfl, sk rfl, sk rfl, trivial⟩ hQ1
  · skip
    refine zc ?_
    refine jC rfl (fun hc4 => ?_) (fun hc4 => ?_)
    · simp only [bA, bB, bC, bD, bE, bF, bG, bH, bI, bJ] at hc4
      have hbad : zbi op v l = false := by unfold zbi; have h := hc4; revert h; cases opB op <;> cases zT l <;> cases zU v <;> simp
      refine jT rfl (oR 2 rfl (oZ rfl (zs rfl (ze (PD.subH (HSub.nil 2 53) (PD.norm [.sl (.slice none 0 0) 2 53 ((zb op l v left).map RowD.d)] (by have hw : [] = zb op l v left := (by first | exact (zcs (left := left) hbad).1 | exact (zcs (left := left) hbad).2 | (rw [← hsf]; exact (zcs (left := left) hbad).2)); rw [show ([] : List D) = List.map RowD.d (zb op l v left) from congrArg (List.map RowD.d) hw]) ?_))))))
      exact zj Tryz.results20 (.cons (zB (zf rfl) (Cv.ov rfl)) (.cons (zB (zf rfl) (Cv.eq (congrArg (fun n => D.v (.int .i64 n)) (by first | exact (zcs (left := left) hbad).1 | exact (zcs (left := left) hbad).2 | (rw [← hsf]; exact (zcs (left := left) hbad).2))))) .nil)) rfl (HSub.fst 1 rfl) ⟨(.slice none 0 0), rfl, rfl⟩
    · simp only [bA, bB, bC, bD, bE, bF, bG, bH, bI, bJ] at hc4
      have hgood : zbi op v l = true := by unfold zbi; simp only [Bool.and_eq_true]; have h := hc4; simp_all
      have hlen : l.length ≤ 2000 := (zaH.1 (by unfold zbi at hgood; simp only [Bool.and_eq_true] at hgood; exact hgood.2.1)).1
      refine zq rfl (zc (jT rfl (oR 1 rfl (oZ rfl (jS rfl (jT rfl (oR 1 rfl (oZ rfl (jB rfl (jl3 (fun (a_ : Nat) (b_ : Value) (c_ : List RowD) => [(0, .s op), (1, .sh 2 (l.map RowD.d)), (2, dI v), (3, dB left), (11, dN a_), (10, .ov b_)]) (fun a_ b_ c_ => [.sl b_ 2 53 (c_.map RowD.d)]) (fun a_ b_ c_ => (a_ ≤ l.length) ∧ (c_ = zcd op v left (l.take a_)) ∧ (zaD (scF op v left) (l.take a_) = 0)) (fun a_ b_ c_ => l.length - a_) 0 (.slice none 0 0) [] rfl ⟨sk rfl, sk rfl, sk rfl, sk rfl, sk rfl, sc rfl (Cv.ov rfl), trivial⟩ (HSub.nil 2 53) ⟨Nat.zero_le _, rfl, rfl⟩ ?_))))))))))
      rintro k ov o ⟨hkl, ho, he⟩
      refine ja rfl (jn rfl ?_)
      have hol : o.length ≤ 2000 := by rw [ho]; exact Nat.le_trans (scOut_len _ _ _ _) (by rw [List.length_take]; omega)
      refine jS rfl (jT rfl (oR 2 rfl (oP rfl (zae (n := l.length) rfl Tryz.runUnderlying22 (by simp only [lm, lc, ln])) (oP rfl (zL rfl rfl rfl) (oZ rfl ?_)))))
      refine jD rfl (fun hc5 => ?_) (fun hc5 => ?_)
      · skip
        refine zq rfl (zc (jS rfl (jB rfl (jT rfl (oR 2 rfl ?_)))))
        obtain ⟨x1, hx1⟩ := zG l k (by omega)
        have hkl8 := zci (by have h := (zaH.1 (by unfold zbi at hgood; simp only [Bool.and_eq_true] at hgood; exact hgood.2.1)).2.1; rw [zdr, List.all_eq_true] at h; exact h x1 (zav hx1))
        refine oP rfl (zC (k := k) rfl rfl Tryz.runUnderlying22 Tryz.sizeOf53 (by first | rfl | omega) (zt hx1)) (oP rfl (zD rfl zaj rfl) (oP rfl (zH rfl Tryz.isAgg3 rfl) (oR 3 rfl (oZ rfl (jS rfl (jT rfl (oR 1 rfl (oZ rfl ?_))))))))
        refine jC rfl (fun hc6 => ?_) (fun hc6 => ?_)
        · skip
          have hsf : scF op v left x1 = doE op v x1.v := by unfold scF; simp [hc6]
          refine jk [0, 1, 2, 3, 10, 11, 13, 29, 30, 31, 32, 35, 36, 37, 38, 39, 40, 41] rfl (jn rfl (z3 7 [(42, dI v, none), (43, .sh 2 (l.map RowD.d), none), (44, dN k, none), (45, .el (RowD.d x1) 0, none), (46, .el (RowD.d x1) 1, none), (47, dI x1.v, none), (12, dI v, none)] [.sl ov 2 53 (o.map RowD.d)] (Hn := [.sl ov 2 53 (o.map RowD.d)]) zah rfl rfl rfl rfl HSub.rfl' rfl ⟨sa_p rfl rfl rfl (zm rfl), sa_p rfl rfl rfl (zm rfl), sa_p rfl rfl rfl (zm rfl), sa_p rfl rfl rfl (zC (k := k) rfl rfl Tryz.runUnderlying22 Tryz.sizeOf53 (by first | rfl | omega) (zt hx1)), sa_p rfl rfl rfl (zD rfl zaj rfl), sa_p rfl rfl rfl (zH rfl Tryz.isAgg3 rfl), sa_p rfl rfl rfl (zdu rfl), trivial⟩ (ok [0, 1, 2, 3, 10, 11, 12, 13, 29, 30, 31, 32, 35, 36, 37, 38, 39, 40, 41, 42, 43, 44, 45, 46, 47] rfl (oR 1 rfl (oZ rfl (jT rfl (oR 3 rfl (oW rfl rfl acs Tryz.call52 (refDo_c op v x1.v) (oR 5 rfl (oZ rfl (jS rfl (jT rfl (oR 1 rfl (oP rfl (zau rfl rfl rfl) (oZ rfl ?_)))))))))))))))
          refine jD rfl (fun hc7 => ?_) (fun hc7 => ?_)
          · skip
            refine jT rfl (oR 3 rfl (oZ rfl (zs rfl (ze (zi (ze (zQ (zi (ze (PD.subH (HSub.nil 2 53) (PD.norm [.sl (.slice none 0 0) 2 53 ((zb op l v left).map RowD.d), .sl ov 2 53 (o.map RowD.d)] (by have hw : [] = zb op l v left := (by first | exact (za7 (left := left) hgood hx1 he (by rw [hsf]; have h := hc7; omega)).1 | exact (za7 (left := left) hgood hx1 he (by rw [hsf]; have h := hc7; omega)).2 | (rw [← hsf]; exact (za7 (left := left) hgood hx1 he (by rw [hsf]; have h := hc7; omega)).2)); rw [show ([] : List D) = List.map RowD.d (zb op l v left) from congrArg (List.map RowD.d) hw]) ?_)))))))))))
            exact zj Tryz.results20 (.cons (zB (zf rfl) (Cv.ov rfl)) (.cons (zB (zf rfl) (Cv.eq (congrArg (fun n => D.v (.int .i64 n)) (by first | exact (za7 (left := left) hgood hx1 he (by rw [hsf]; have h := hc7; omega)).1 | exact (za7 (left := left) hgood hx1 he (by rw [hsf]; have h := hc7; omega)).2 | (rw [← hsf]; exact (za7 (left := left) hgood hx1 he (by rw [hsf]; have h := hc7; omega)).2))))) .nil)) rfl (HSub.fst 1 rfl) ⟨(.slice none 0 0), rfl, rfl⟩
          · skip
            refine zq rfl (zc (jT rfl (oR 1 rfl (oW rfl rfl acs Tryz.call53 (zW op) (oP rfl (zaP rfl) (oZ rfl ?_))))))
            refine jC rfl (fun hc8 => ?_) (fun hc8 => ?_)
            · simp only [bA, bB, bC, bD, bE, bF, bG, bH, bI, bJ] at hc8
              refine za rfl (oR 3 rfl (oP rfl (zC (k := k) rfl rfl Tryz.runUnderlying22 Tryz.sizeOf53 (by first | rfl | omega) (zt hx1)) (oP rfl (zD rfl z2 rfl) (oP rfl (zH rfl Tryz.isAgg50 rfl) (oE rfl (zx [] _ [] rfl rfl (.cons ArgC.id (.cons (ArgC.cv Cv.nil) (.cons ArgC.id .nil))) zo Tryz.call25 (zdt 0 [] x1.ls (by omega) (by first | omega | decide)) (.inl rfl)) ?_)))))
              rintro _ _ ⟨_, ⟨v9, rfl, rfl⟩, rfl⟩
              refine on rfl (oR 1 rfl ?_)
              refine OpsD.mv (Mv.freeze (K' := [(0, .s op), (1, .sh 2 (l.map RowD.d)), (2, dI v), (3, dB left), (10, .ov ov), (11, dN k), (12, dI v), (13, dI x1.v), (14, dI ((doE op v x1.v).1)), (15, dI ((doE op v x1.v).2)), (29, dN k), (30, .sh 2 (l.map RowD.d)), (31, dN l.length), (32, dB (decide (((k : Nat) : Int) < ((l.length : Nat) : Int)))), (35, .sh 2 (l.map RowD.d)), (36, dN k), (37, .el (RowD.d x1) 0), (38, .el (RowD.d x1) 1), (39, dI x1.v), (40, dI v), (41, dB left), (42, dI v), (43, .sh 2 (l.map RowD.d)), (44, dN k), (45, .el (RowD.d x1) 0), (46, .el (RowD.d x1) 1), (47, dI x1.v), (48, .tup [dI ((doE op v x1.v).1), dI ((doE op v x1.v).2)]), (49, .s op), (50, dI v), (51, dI x1.v), (52, .tup [dI ((doE op v x1.v).1), dI ((doE op v x1.v).2)]), (53, dI ((doE op v x1.v).1)), (54, dI ((doE op v x1.v).2)), (55, dI ((doE op v x1.v).2)), (56, dB (decide ((doE op v x1.v).2 ≠ (0 : Int)))), (58, .s op), (59, dB (cmpB op)), (60, dB (!(cmpB op))), (61, .ov ov), (62, .sh 2 (l.map RowD.d)), (63, dN k), (64, .el (RowD.d x1) 0), (65, .el (RowD.d x1) 0), (66, .sh 2 (x1.ls.map Lbl.d)), (67, .sh 2 ((keyL 0 [] x1.ls).map Lbl.d)), (68, dI ((doE op v x1.v).1))]) [.sl v9 2 62 ((keyL 0 [] x1.ls).map Lbl.d)] (H1 := [.sl ov 2 53 (o.map RowD.d)]) (H1' := [.sl ov 2 53 (o.map RowD.d)]) ⟨⟨_, rfl, ArgC.id⟩, ⟨_, rfl, ArgC.id⟩, ⟨_, rfl, ArgC.id⟩, ⟨_, rfl, ArgC.id⟩, ⟨_, rfl, ArgC.id⟩, ⟨_, rfl, ArgC.id⟩, ⟨_, rfl, ArgC.id⟩, ⟨_, rfl, ArgC.id⟩, ⟨_, rfl, ArgC.id⟩, ⟨_, rfl, ArgC.id⟩, ⟨_, rfl, ArgC.id⟩, ⟨_, rfl, ArgC.id⟩, ⟨_, rfl, ArgC.id⟩, ⟨_, rfl, ArgC.id⟩, ⟨_, rfl, ArgC.id⟩, ⟨_, rfl, ArgC.id⟩, ⟨_, rfl, ArgC.id⟩, ⟨_, rfl, ArgC.id⟩, ⟨_, rfl, ArgC.id⟩, ⟨_, rfl, ArgC.id⟩, ⟨_, rfl, ArgC.id⟩, ⟨_, rfl, ArgC.id⟩, ⟨_, rfl, ArgC.id⟩, ⟨_, rfl, ArgC.id⟩, ⟨_, rfl, ArgC.id⟩, ⟨_, rfl, ArgC.id⟩, ⟨_, rfl, ArgC.id⟩, ⟨_, rfl, ArgC.id⟩, ⟨_, rfl, ArgC.id⟩, ⟨_, rfl, ArgC.id⟩, ⟨_, rfl, ArgC.id⟩, ⟨_, rfl, ArgC.id⟩, ⟨_, rfl, ArgC.id⟩, ⟨_, rfl, ArgC.id⟩, ⟨_, rfl, ArgC.id⟩, ⟨_, rfl, ArgC.id⟩, ⟨_, rfl, ArgC.id⟩, ⟨_, rfl, ArgC.id⟩, ⟨_, rfl, ArgC.id⟩, ⟨_, rfl, ArgC.id⟩, ⟨_, rfl, ArgC.id⟩, ⟨_, rfl, ArgC.id⟩, ⟨_, rfl, ArgC.id⟩, ⟨_, rfl, ArgC.id⟩, ⟨_, rfl, ArgC.id⟩, ⟨_, rfl, ArgC.own (j := 0) rfl rfl⟩, ⟨_, rfl, ArgC.id⟩, trivial⟩ (.same .nil)) ?_
              refine oP rfl (zbx [0, 1] [.tmp 67, .tmp 68] (zv := (.agg #[(.slice none 0 0), (.int .i64 0)])) rfl rfl (.cons CellD.sh (.cons (CellD.v rfl) .nil)) (Tryz.runUnderlying53) Tryz.zeroValue53 zbQ ⟨rfl, rfl, trivial⟩ rfl) (oE rfl (zJ [.tmp 69] rfl rfl (.cons CellD.agg .nil) rfl Tryz.runUnderlying22 Tryz.sizeOf53 Tryz.zeroValue53 rfl rfl rfl rfl) ?_)
              rintro _ _ ⟨g10, rfl, rfl⟩
              refine oE rfl (zK (f := RowD.d) (l := o) (l' := [(RowD.mk (keyL 0 [] x1.ls) ((doE op v x1.v).1))]) (i := 1) rfl rfl rfl (SrcD.own (j := 0) rfl rfl) zao z9 rfl rfl (by unfold maxLen; (try simp only [la, lc, ln, lm, lt', ld, ls, lr]); omega) (by (try simp only [la, lc, ln, lm, lt', ld, ls, lr]); omega)) ?_
              rintro _ _ ⟨v11, rfl, rfl⟩
              refine on rfl (oR 1 rfl (zg rfl (zw (zc (za rfl (oR 1 rfl (oP rfl (zS (c := ((k + 1 : Nat) : Int)) rfl rfl (zF (by omega) (by omega))) (oR 1 rfl (zg rfl (PD.subH (HSub.perm (zk (i := 1) rfl)) (pn rfl (PD.subH (HSub.fst 1 rfl) (pn rfl ?_)))))))))))))
              exact pl3 (k + 1) v11 (o ++ [(RowD.mk (keyL 0 [] x1.ls) ((doE op v x1.v).1))]) (sa rfl) HSub.rfl' ⟨by show k + 1 ≤ l.length; omega, by rw [zbY (y := (RowD.mk (keyL 0 [] x1.ls) ((doE op v x1.v).1))) hx1 (by simp [zbL, hsf, hc8]), ← ho], zak hx1 he (by rw [hsf]; have h := hc7; omega)⟩ (by omega)
            · simp only [bA, bB, bC, bD, bE, bF, bG, bH, bI, bJ] at hc8
              refine jT rfl (oR 1 rfl (oP rfl (zV rfl rfl rfl) (oZ rfl ?_)))
              refine jD rfl (fun hc12 => ?_) (fun hc12 => ?_)
              · skip
                refine za rfl (oR 3 rfl (oP rfl (zC (k := k) rfl rfl Tryz.runUnderlying22 Tryz.sizeOf53 (by first | rfl | omega) (zt hx1)) (oP rfl (zar (d := RowD.d x1) rfl Tryz.isAgg53 Tryz.sizeOf53 rfl rfl) (oE rfl (zJ [.tmp 78] rfl rfl (.cons CellD.agg .nil) rfl Tryz.runUnderlying22 Tryz.sizeOf53 Tryz.zeroValue53 rfl rfl rfl rfl) ?_))))
                rintro _ _ ⟨g13, rfl, rfl⟩
                refine oE rfl (zK (f := RowD.d) (l := o) (l' := [x1]) (i := 1) rfl rfl rfl (SrcD.own (j := 0) rfl rfl) zao z9 rfl rfl (by unfold maxLen; (try simp only [la, lc, ln, lm, lt', ld, ls, lr]); omega) (by (try simp only [la, lc, ln, lm, lt', ld, ls, lr]); omega)) ?_
                rintro _ _ ⟨v14, rfl, rfl⟩
                refine on rfl (oR 1 rfl (zg rfl (zw (zc (za rfl (oR 1 rfl (oP rfl (zS (c := ((k + 1 : Nat) : Int)) rfl rfl (zF (by omega) (by omega))) (oR 1 rfl (zg rfl (PD.subH (HSub.perm (zk (i := 1) rfl)) (pn rfl (PD.subH (HSub.fst 1 rfl) (pn rfl ?_)))))))))))))
                exact pl3 (k + 1) v14 (o ++ [x1]) (sa rfl) HSub.rfl' ⟨by show k + 1 ≤ l.length; omega, by rw [zbY (y := x1) hx1 (by simp [zbL, hsf, hc8, hc12]), ← ho], zak hx1 he (by rw [hsf]; have h := hc7; omega)⟩ (by omega)
              · skip
                refine zq rfl (zw (zc (za rfl (oR 1 rfl (oP rfl (zS (c := ((k + 1 : Nat) : Int)) rfl rfl (zF (by omega) (by omega))) (oR 1 rfl (zg rfl (pn rfl ?_))))))))
                exact pl3 (k + 1) ov o (sa rfl) HSub.rfl' ⟨by show k + 1 ≤ l.length; omega, by rw [scOut_not hx1 (by simp [zbL, hsf, hc8, hc12]), ← ho], zak hx1 he (by rw [hsf]; have h := hc7; omega)⟩ (by omega)
        · skip
          have hsf : scF op v left x1 = doE op x1.v v := by unfold scF; simp [hc6]
          refine zq rfl (zc (jT rfl (oR 3 rfl (oW rfl rfl acs Tryz.call52 (refDo_c op x1.v v) (oR 5 rfl (oZ rfl (jS rfl (jT rfl (oR 1 rfl (oP rfl (zau rfl rfl rfl) (oZ rfl ?_)))))))))))
          refine jD rfl (fun hc15 => ?_) (fun hc15 => ?_)
          · skip
            refine jT rfl (oR 3 rfl (oZ rfl (zs rfl (ze (zi (ze (zQ (zi (ze (PD.subH (HSub.nil 2 53) (PD.norm [.sl (.slice none 0 0) 2 53 ((zb op l v left).map RowD.d), .sl ov 2 53 (o.map RowD.d)] (by have hw : [] = zb op l v left := (by first | exact (za7 (left := left) hgood hx1 he (by rw [hsf]; have h := hc15; omega)).1 | exact (za7 (left := left) hgood hx1 he (by rw [hsf]; have h := hc15; omega)).2 | (rw [← hsf]; exact (za7 (left := left) hgood hx1 he (by rw [hsf]; have h := hc15; omega)).2)); rw [show ([] : List D) = List.map RowD.d (zb op l v left) from congrArg (List.map RowD.d) hw]) ?_)))))))))))
            exact zj Tryz.results20 (.cons (zB (zf rfl) (Cv.ov rfl)) (.cons (zB (zf rfl) (Cv.eq (congrArg (fun n => D.v (.int .i64 n)) (by first | exact (za7 (left := left) hgood hx1 he (by rw [hsf]; have h := hc15; omega)).1 | exact (za7 (left := left) hgood hx1 he (by rw [hsf]; have h := hc15; omega)).2 | (rw [← hsf]; exact (za7 (left := left) hgood hx1 he (by rw [hsf]; have h := hc15; omega)).2))))) .nil)) rfl (HSub.fst 1 rfl) ⟨(.slice none 0 0), rfl, rfl⟩
          · skip
            refine zq rfl (zc (jT rfl (oR 1 rfl (oW rfl rfl acs Tryz.call53 (zW op) (oP rfl (zaP rfl) (oZ rfl ?_))))))
            refine jC rfl (fun hc16 => ?_) (fun hc16 => ?_)
            · simp only [bA, bB, bC, bD, bE, bF, bG, bH, bI, bJ] at hc16
              refine za rfl (oR 3 rfl (oP rfl (zC (k := k) rfl rfl Tryz.runUnderlying22 Tryz.sizeOf53 (by first | rfl | omega) (zt hx1)) (oP rfl (zD rfl z2 rfl) (oP rfl (zH rfl Tryz.isAgg50 rfl) (oE rfl (zx [] _ [] rfl rfl (.cons ArgC.id (.cons (ArgC.cv Cv.nil) (.cons ArgC.id .nil))) zo Tryz.call25 (zdt 0 [] x1.ls (by omega) (by first | omega | decide)) (.inl rfl)) ?_)))))
              rintro _ _ ⟨_, ⟨v17, rfl, rfl⟩, rfl⟩
              refine on rfl (oR 1 rfl ?_)
              refine OpsD.mv (Mv.freeze (K' := [(0, .s op), (1, .sh 2 (l.map RowD.d)), (2, dI v), (3, dB left), (10, .ov ov), (11, dN k), (12, dI x1.v), (13, dI v), (14, dI ((doE op x1.v v).1)), (15, dI ((doE op x1.v v).2)), (29, dN k), (30, .sh 2 (l.map RowD.d)), (31, dN l.length), (32, dB (decide (((k : Nat) : Int) < ((l.length : Nat) : Int)))), (35, .sh 2 (l.map RowD.d)), (36, dN k), (37, .el (RowD.d x1) 0), (38, .el (RowD.d x1) 1), (39, dI x1.v), (40, dI v), (41, dB left), (48, .tup [dI ((doE op x1.v v).1), dI ((doE op x1.v v).2)]), (49, .s op), (50, dI x1.v), (51, dI v), (52, .tup [dI ((doE op x1.v v).1), dI ((doE op x1.v v).2)]), (53, dI ((doE op x1.v v).1)), (54, dI ((doE op x1.v v).2)), (55, dI ((doE op x1.v v).2)), (56, dB (decide ((doE op x1.v v).2 ≠ (0 : Int)))), (58, .s op), (59, dB (cmpB op)), (60, dB (!(cmpB op))), (61, .ov ov), (62, .sh 2 (l.map RowD.d)), (63, dN k), (64, .el (RowD.d x1) 0), (65, .el (RowD.d x1) 0), (66, .sh 2 (x1.ls.map Lbl.d)), (67, .sh 2 ((keyL 0 [] x1.ls).map Lbl.d)), (68, dI ((doE op x1.v v).1))]) [.sl v17 2 62 ((keyL 0 [] x1.ls).map Lbl.d)] (H1 := [.sl ov 2 53 (o.map RowD.d)]) (H1' := [.sl ov 2 53 (o.map RowD.d)]) ⟨⟨_, rfl, ArgC.id⟩, ⟨_, rfl, ArgC.id⟩, ⟨_, rfl, ArgC.id⟩, ⟨_, rfl, ArgC.id⟩, ⟨_, rfl, ArgC.id⟩, ⟨_, rfl, ArgC.id⟩, ⟨_, rfl, ArgC.id⟩, ⟨_, rfl, ArgC.id⟩, ⟨_, rfl, ArgC.id⟩, ⟨_, rfl, ArgC.id⟩, ⟨_, rfl, ArgC.id⟩, ⟨_, rfl, ArgC.id⟩, ⟨_, rfl, ArgC.id⟩, ⟨_, rfl, ArgC.id⟩, ⟨_, rfl, ArgC.id⟩, ⟨_, rfl, ArgC.id⟩, ⟨_, rfl, ArgC.id⟩, ⟨_, rfl, ArgC.id⟩, ⟨_, rfl, ArgC.id⟩, ⟨_, rfl, ArgC.id⟩, ⟨_, rfl, ArgC.id⟩, ⟨_, rfl, ArgC.id⟩, ⟨_, rfl, ArgC.id⟩, ⟨_, rfl, ArgC.id⟩, ⟨_, rfl, ArgC.id⟩, ⟨_, rfl, ArgC.id⟩, ⟨_, rfl, ArgC.id⟩, ⟨_, rfl, ArgC.id⟩, ⟨_, rfl, ArgC.id⟩, ⟨_, rfl, ArgC.id⟩, ⟨_, rfl, ArgC.id⟩, ⟨_, rfl, ArgC.id⟩, ⟨_, rfl, ArgC.id⟩, ⟨_, rfl, ArgC.id⟩, ⟨_, rfl, ArgC.id⟩, ⟨_, rfl, ArgC.id⟩, ⟨_, rfl, ArgC.id⟩, ⟨_, rfl, ArgC.id⟩, ⟨_, rfl, ArgC.id⟩, ⟨_, rfl, ArgC.own (j := 0) rfl rfl⟩, ⟨_, rfl, ArgC.id⟩, trivial⟩ (.same .nil)) ?_
              refine oP rfl (zbx [0, 1] [.tmp 67, .tmp 68] (zv := (.agg #[(.slice none 0 0), (.int .i64 0)])) rfl rfl (.cons CellD.sh (.cons (CellD.v rfl) .nil)) (Tryz.runUnderlying53) Tryz.zeroValue53 zbQ ⟨rfl, rfl, trivial⟩ rfl) (oE rfl (zJ [.tmp 69] rfl rfl (.cons CellD.agg .nil) rfl Tryz.runUnderlying22 Tryz.sizeOf53 Tryz.zeroValue53 rfl rfl rfl rfl) ?_)
              rintro _ _ ⟨g18, rfl, rfl⟩
              refine oE rfl (zK (f := RowD.d) (l := o) (l' := [(RowD.mk (keyL 0 [] x1.ls) ((doE op x1.v v).1))]) (i := 1) rfl rfl rfl (SrcD.own (j := 0) rfl rfl) zao z9 rfl rfl (by unfold maxLen; (try simp only [la, lc, ln, lm, lt', ld, ls, lr]); omega) (by (try simp only [la, lc, ln, lm, lt', ld, ls, lr]); omega)) ?_
              rintro _ _ ⟨v19, rfl, rfl⟩
              refine on rfl (oR 1 rfl (zg rfl (zw (zc (za rfl (oR 1 rfl (oP rfl (zS (c := ((k + 1 : Nat) : Int)) rfl rfl (zF (by omega) (by omega))) (oR 1 rfl (zg rfl (PD.subH (HSub.perm (zk (i := 1) rfl)) (pn rfl (PD.subH (HSub.fst 1 rfl) (pn rfl ?_)))))))))))))
              exact pl3 (k + 1) v19 (o ++ [(RowD.mk (keyL 0 [] x1.ls) ((doE op x1.v v).1))]) (sa rfl) HSub.rfl' ⟨by show k + 1 ≤ l.length; omega, by rw [zbY (y := (RowD.mk (keyL 0 [] x1.ls) ((doE op x1.v v).1))) hx1 (by simp [zbL, hsf, hc16]), ← ho], zak hx1 he (by rw [hsf]; have h := hc15; omega)⟩ (by omega)
            · simp only [bA, bB, bC, bD, bE, bF, bG, bH, bI, bJ] at hc16
              refine jT rfl (oR 1 rfl (oP rfl (zV rfl rfl rfl) (oZ rfl ?_)))
              refine jD rfl (fun hc20 => ?_) (fun hc20 => ?_)
              · skip
                refine za rfl (oR 3 rfl (oP rfl (zC (k := k) rfl rfl Tryz.runUnderlying22 Tryz.sizeOf53 (by first | rfl | omega) (zt hx1)) (oP rfl (zar (d := RowD.d x1) rfl Tryz.isAgg53 Tryz.sizeOf53 rfl rfl) (oE rfl (zJ [.tmp 78] rfl rfl (.cons CellD.agg .nil) rfl Tryz.runUnderlying22 Tryz.sizeOf53 Tryz.zeroValue53 rfl rfl rfl rfl) ?_))))
                rintro _ _ ⟨g21, rfl, rfl⟩
                refine oE rfl (zK (f := RowD.d) (l := o) (l' := [x1]) (i := 1) rfl rfl rfl (SrcD.own (j := 0) rfl rfl) zao z9 rfl rfl (by unfold maxLen; (try simp only [la, lc, ln, lm, lt', ld, ls, lr]); omega) (by (try simp only [la, lc, ln, lm, lt', ld, ls, lr]); omega)) ?_
                rintro _ _ ⟨v22, rfl, rfl⟩
                refine on rfl (oR 1 rfl (zg rfl (zw (zc (za rfl (oR 1 rfl (oP rfl (zS (c := ((k + 1 : Nat) : Int)) rfl rfl (zF (by omega) (by omega))) (oR 1 rfl (zg rfl (PD.subH (HSub.perm (zk (i := 1) rfl)) (pn rfl (PD.subH (HSub.fst 1 rfl) (pn rfl ?_)))))))))))))
                exact pl3 (k + 1) v22 (o ++ [x1]) (sa rfl) HSub.rfl' ⟨by show k + 1 ≤ l.length; omega, by rw [zbY (y := x1) hx1 (by simp [zbL, hsf, hc16, hc20]), ← ho], zak hx1 he (by rw [hsf]; have h := hc15; omega)⟩ (by omega)
              · skip
                refine zq rfl (zw (zc (za rfl (oR 1 rfl (oP rfl (zS (c := ((k + 1 : Nat) : Int)) rfl rfl (zF (by omega) (by omega))) (oR 1 rfl (zg rfl (pn rfl ?_))))))))
                exact pl3 (k + 1) ov o (sa rfl) HSub.rfl' ⟨by show k + 1 ≤ l.length; omega, by rw [scOut_not hx1 (by simp [zbL, hsf, hc16, hc20]), ← ho], zak hx1 he (by rw [hsf]; have h := hc15; omega)⟩ (by omega)
      · skip
        refine zE rfl (zr (zn (zh (zc (jk [10] rfl (jS rfl (JD.mv (Mv.freeze (K' := [(10, .sh 2 (o.map RowD.d))]) [.sl ov 2 53 (o.map RowD.d)] (H1 := []) (H1' := []) ⟨⟨_, rfl, ArgC.own (j := 0) rfl rfl⟩, trivial⟩ .nil) (za rfl (oR 1 rfl (oE rfl (zx [] _ [] rfl rfl (.cons ArgC.id .nil) zo Tryz.call50 (zcE o (by omega)) (.inl rfl)) ?_))))))))))
        rintro _ _ ⟨_, ⟨v23, rfl, rfl⟩, rfl⟩
        refine on rfl (oR 4 rfl (oZ rfl (zs rfl (PD.norm [.sl v23 2 53 ((zb op l v left).map RowD.d)] (by have hw : ordL o = zb op l v left := (by first | (rw [ho]; exact (sc_ord hgood he (by omega)).1) | (rw [ho]; exact (sc_ord hgood he (by omega)).2)); rw [hw]) ?_))))
        exact zj Tryz.results20 (.cons (zf rfl) (.cons (zB (zf rfl) (Cv.eq (congrArg (fun n => D.v (.int .i64 n)) (by first | (rw [ho]; exact (sc_ord hgood he (by omega)).1) | (rw [ho]; exact (sc_ord hgood he (by omega)).2))))) .nil)) rfl (HSub.fst 1 rfl) ⟨v23, rfl, rfl⟩
end Lp
