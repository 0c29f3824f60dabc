/- Walks, printed by a program of mine. -/
import Derived.Laws.IdiomCopy
import Derived.Lib.AppendZerosOnto
import Derived.Lib.Overlaps
import Derived.Test.YtfjinapgehafiaaGreatPVect
set_option linter.unusedSimpArgs false
set_option linter.unusedVariables false
set_option maxHeartbeats 4000000
set_option maxRecDepth 100000
namespace Lp
open Go Go.RowKit Go.Proofs

namespace HdYtfjinapgehafiaaGreatV62
theorem zcu : ∀ w, ((#[⟨"Labels", 50, 0, false, "", "", 0⟩, ⟨"V", 3, 1, false, "", "", 24⟩] : Array Field).mapM fun f => do pure (f.offset, ← Go.sizeOf f.type) : Sem (Array (Nat × Nat))).run Tryz.prog w = .ok ([(0, 1), (1, 1)] : List (Nat × Nat)).toArray w := fun _ => by kernel_rfl
theorem zad (b o : Nat) : ∀ w, (Instr.fieldAt 53 (.pointer (some ⟨b, o, none⟩)) 0).run Tryz.prog w = .ok (.pointer (some ⟨b, o + 0, none⟩)) w := fun _ => by kernel_rfl
theorem zam (b o : Nat) : ∀ w, (Instr.fieldAt 53 (.pointer (some ⟨b, o, none⟩)) 1).run Tryz.prog w = .ok (.pointer (some ⟨b, o + 1, none⟩)) w := fun _ => by kernel_rfl
theorem zaO : ∃ i, Tryz.prog.info? 53 = some i ∧ i.zero = some (.agg #[(.slice none 0 0), (.int .i64 0)]) ∧ i.size = 2 ∧ i.bytes = 32 := za3 (by kernel_rfl)
theorem zbf : Tryz.prog.underlying 22 = some (.slice 53) := by kernel_rfl
end HdYtfjinapgehafiaaGreatV62
open HdYtfjinapgehafiaaGreatV62

theorem vorder_c (a : RowD) (b : RowD)  :
    CD Tryz.prog 42 [] [RowD.d a, RowD.d b] (isR (dI (zM a.ls b.ls))) := by
  refine zq Tryz.func42 rfl (N := 10) rfl rfl (fun C => ?_)
  refine jk [0, 1] rfl ?_
  refine JD.bd 0 rfl (fun bd0 => ?_)
  refine JD.bd 1 rfl (fun bd1 => ?_)
  refine jT rfl (oE rfl (zbW rfl (CellD.agg)) ?_)
  rintro _ _ ⟨g1, rfl, rfl⟩
  refine oE rfl (zbW rfl (CellD.agg)) ?_
  rintro _ _ ⟨g2, rfl, rfl⟩
  refine oR 1 rfl (oZ rfl (jT rfl (oP rfl (zw rfl zad rfl) (oP rfl (zK rfl (i := 1) rfl Tryz.isAgg50 rfl) (oP rfl (zw rfl zad rfl) (oP rfl (zK rfl (i := 0) rfl Tryz.isAgg50 rfl) (oW rfl rfl acs Tryz.call106 (zcp a.ls b.ls) (oR 1 rfl (oZ rfl (jk [4] rfl (zm rfl ?_)))))))))))
  exact zl Tryz.results42 (.cons (zh rfl) .nil) rfl HSub.none ⟨rfl, rfl⟩

theorem single_c (r : RowD)  :
    CD Tryz.prog 39 [] [RowD.d r] (isR (dB (za6 r))) := by
  refine zq Tryz.func39 rfl (N := 11) rfl rfl (fun C => ?_)
  refine jk [0] rfl ?_
  refine JD.bd 0 rfl (fun bd0 => ?_)
  refine jT rfl (oE rfl (zbW rfl (CellD.agg)) ?_)
  rintro _ _ ⟨g1, rfl, rfl⟩
  refine oR 1 rfl (oZ rfl (jS rfl (jk [1] rfl ?_)))
  refine zal 2 (((decide (zaH r.ls = 0) && decide (zM (zJ r.ls) r.ls = 0)) && zaD r.v)) [.bx g1 53 (RowD.d r)] (fun _ hQ2 => ?_) ?_
  · skip
    rcases Bool.eq_false_or_eq_true ((decide (zaH r.ls = 0) && decide (zM (zJ r.ls) r.ls = 0))) with hg3 | hg3
    · skip
      refine za rfl (oP rfl (zw rfl zad rfl) (oP rfl (zK rfl (i := 0) rfl Tryz.isAgg50 rfl) (oW rfl rfl acs Tryz.call111 (right_c r.ls) (os 5 rfl (congrArg (fun b => D.v (.bool b)) hg3) (oR 1 rfl (oG rfl (zw rfl zam rfl) (oG rfl (zK rfl (i := 0) rfl Tryz.isAgg3 rfl) (oV rfl rfl acs Tryz.call44 (fRight_c r.v) (oR 2 rfl (ze rfl ?_))))))))))
      exact PD.sub ((2, dB ((decide (zaH r.ls = 0) && decide (zM (zJ r.ls) r.ls = 0)) && zaD r.v)) :: [(1, dP g1 0)]) ⟨sc rfl (Cv.eq (congrArg (fun b => D.v (.bool b)) (by first | (simp [hg3]; done) | (simp_all; done)))), sk rfl, trivial⟩ hQ2
    · skip
      refine za rfl (oP rfl (zw rfl zad rfl) (oP rfl (zK rfl (i := 0) rfl Tryz.isAgg50 rfl) (oW rfl rfl acs Tryz.call111 (right_c r.ls) (os 5 rfl (congrArg (fun b => D.v (.bool b)) hg3) (oR 6 rfl (ze rfl ?_))))))
      exact PD.sub ((2, dB ((decide (zaH r.ls = 0) && decide (zM (zJ r.ls) r.ls = 0)) && zaD r.v)) :: [(1, dP g1 0)]) ⟨sc rfl (Cv.eq (congrArg (fun b => D.v (.bool b)) (by first | (simp [hg3]; done) | (simp_all; done)))), sk rfl, trivial⟩ hQ2
  · skip
    refine zb (zm rfl ?_)
    exact zl Tryz.results39 (.cons (zx (zh rfl) (Cv.eq (congrArg (fun b => D.v (.bool b)) (by unfold za6; rw [rightB_eq])))) .nil) rfl HSub.none ⟨rfl, rfl⟩

theorem vown_c (r : RowD) (hl : r.ls.length ≤ 1000000) :
    CD Tryz.prog 40 [] [RowD.d r] (isR (RowD.d r)) := by
  refine zq Tryz.func40 rfl (N := 9) rfl rfl (fun C => ?_)
  refine jk [0] rfl ?_
  refine JD.bd 0 rfl (fun bd0 => ?_)
  refine jT rfl (oE rfl (zbW rfl (CellD.agg)) ?_)
  rintro _ _ ⟨g1, rfl, rfl⟩
  refine oE rfl (zar (zv := (.agg #[(.slice none 0 0), (.int .i64 0)])) Tryz.zeroValue53 ⟨rfl, rfl, trivial⟩ (Cv.vagg (by decide))) ?_
  rintro _ _ ⟨g2, rfl, rfl⟩
  refine oZ rfl (jS rfl (jk [0, 1, 2] rfl (jn rfl (zW 5 [(3, dP g1 0, none), (4, .sh 2 (r.ls.map Lbl.d), none), (5, .sh 2 (r.ls.map Lbl.d), none), (6, dP g1 1, none), (7, dI r.v, none)] [.bx g2 53 (.agg [dZ, dI 0]), .bx g1 53 (RowD.d r)] (Hn := [.bx g2 53 (.agg [dZ, dI 0]), .bx g1 53 (RowD.d r)]) mixed rfl rfl rfl rfl HSub.rfl' rfl ⟨sa_p rfl rfl rfl (zw rfl zad rfl), sa_p rfl rfl rfl (zK rfl (i := 1) rfl Tryz.isAgg50 rfl), sa_q rfl rfl rfl (zaI rfl (.cons Cv.rfl' .nil) Tryz.call108 (cloneL_c r.ls (by omega)) zbq), sa_p rfl rfl rfl (zw rfl zam rfl), sa_p rfl rfl rfl (zK rfl (i := 1) rfl Tryz.isAgg3 rfl), trivial⟩ (ok [0, 1, 2, 3, 4, 5, 6, 7] rfl (oP rfl (za2 [0, 1] [.tmp 5, .tmp 7] (zv := (.agg #[(.slice none 0 0), (.int .i64 0)])) rfl rfl (.cons CellD.sh (.cons (CellD.v rfl) .nil)) (Tryz.runUnderlying53) Tryz.zeroValue53 zcu ⟨rfl, rfl, trivial⟩ rfl) (oE rfl (zY (i := 0) (X' := .agg [.sh 2 (r.ls.map Lbl.d), dI r.v]) rfl rfl rfl (CellD.agg) Tryz.sizeOf53 rfl rfl rfl) ?_)))))))
  rintro _ _ ⟨rfl, rfl⟩
  refine on rfl (oZ rfl (zm rfl ?_))
  exact zl Tryz.results40 (.cons (ro_cell (i := 0) rfl rfl Tryz.isAgg53 Tryz.sizeOf53 rfl rfl) .nil) rfl HSub.none ⟨rfl, rfl⟩

theorem key_c (mode : Int) (names : List ByteArray) (l : List Lbl) (hl : l.length ≤ 1000000) :
    CD Tryz.prog 24 [] [dI mode, .sh 1 (names.map D.s), .sh 2 (l.map Lbl.d)] (zcU 2 62 ((keyL mode names l).map Lbl.d)) := by
  refine zq Tryz.func24 rfl (N := 23) rfl rfl (fun C => ?_)
  refine jk [0, 1, 2] rfl ?_
  refine JD.bd 1 rfl (fun bd1 => ?_)
  have nl1 := zS bd1
  refine JD.bd 2 rfl (fun bd2 => ?_)
  have nl2 := zS bd2
  have hp1 := zbG l names false
  refine jT rfl (oR 1 rfl (oZ rfl (jS rfl (jT rfl (oR 1 rfl (oZ rfl (jB rfl (jT rfl (oP rfl (zR rfl rfl rfl) (oR 1 rfl (oZ rfl ?_)))))))))))
  refine jD rfl (fun hc1 => ?_) (fun hc1 => ?_)
  · skip
    refine jT rfl (oR 2 rfl (oE rfl (zN [] _ [] rfl rfl (.cons ArgC.id (.cons ArgC.id .nil)) zz Tryz.call55 (only_c l names (by omega)) (.inl rfl)) ?_))
    rintro _ _ ⟨_, ⟨v2, rfl, rfl⟩, rfl⟩
    refine on rfl (oR 1 rfl (oZ rfl (zm rfl (zf (zd (PD.subH (HSub.less (zbr (i := 0) rfl)) (PD.subH (HSub.turn (h' := .sl v2 2 62 ((keyL mode names l).map Lbl.d)) rfl (Hp.eq_sl (show List.map Lbl.d (zbb l names true) = List.map Lbl.d (keyL mode names l) from congrArg _ (by unfold keyL metB; simp [*])))) ?_)))))))
    exact zbn Tryz.results24 (.cons (zh rfl) .nil) rfl ⟨_, rfl, rfl⟩
  · skip
    refine jT rfl (oP rfl (zR rfl rfl rfl) (oR 1 rfl (oZ rfl ?_)))
    refine jD rfl (fun hc3 => ?_) (fun hc3 => ?_)
    · skip
      refine jT rfl (oR 2 rfl (oE rfl (zN [] _ [] rfl rfl (.cons ArgC.id (.cons ArgC.id .nil)) zz Tryz.call56 (without_c l names (by omega)) (.inl rfl)) ?_))
      rintro _ _ ⟨_, ⟨v4, rfl, rfl⟩, rfl⟩
      refine on rfl (oE rfl (zap [.const (.string (⟨#[109, 101, 116, 114, 105, 99]⟩ : ByteArray))] rfl rfl (.cons (CellD.v rfl) .nil) rfl Tryz.runUnderlying23 Tryz.sizeOf9 Tryz.zeroValue9 rfl rfl rfl rfl) ?_)
      rintro _ _ ⟨g5, rfl, rfl⟩
      refine OpsD.subH (HSub.turn (h' := .sl (vS g5 1 1) 1 9 ([(⟨#[109, 101, 116, 114, 105, 99]⟩ : ByteArray)].map D.s)) rfl (Hp.cvs_sl (.cons (Cv.str (by first | decide | (unfold maxLen; omega))) .nil))) (oE rfl (zN [] _ [.sl v4 2 62 ((zbb l names false).map Lbl.d), .sl (vS g5 1 1) 1 9 ([(⟨#[109, 101, 116, 114, 105, 99]⟩ : ByteArray)].map D.s)] rfl rfl (.cons (ArgC.own (j := 0) rfl rfl) (.cons (ArgC.own (j := 1) rfl rfl) .nil)) (zaV (j := 1) rfl (zaV (j := 0) rfl zz)) Tryz.call56 (without_c (zbb l names false) [(⟨#[109, 101, 116, 114, 105, 99]⟩ : ByteArray)] (by omega)) (.inr (isOwn_flat (flatL_map (fun _ => rfl) _)))) ?_)
      rintro _ _ ⟨_, ⟨v6, rfl, rfl⟩, rfl⟩
      refine on rfl (oR 1 rfl (oZ rfl (jk [2, 6] rfl (zm rfl (zf (zd (PD.subH (HSub.less (zbr (i := 0) rfl)) (PD.subH (HSub.turn (h' := .sl v6 2 62 ((keyL mode names l).map Lbl.d)) rfl (Hp.eq_sl (show List.map Lbl.d (zbb (zbb l names false) [(⟨#[109, 101, 116, 114, 105, 99]⟩ : ByteArray)] false) = List.map Lbl.d (keyL mode names l) from congrArg _ (by unfold keyL metB; simp [*])))) ?_))))))))
      exact zbn Tryz.results24 (.cons (zh rfl) .nil) rfl ⟨_, rfl, rfl⟩
    · skip
      refine zj rfl (zp (zb (jT rfl (oR 1 rfl (oE rfl (zap [.const (.string (⟨#[109, 101, 116, 114, 105, 99]⟩ : ByteArray))] rfl rfl (.cons (CellD.v rfl) .nil) rfl Tryz.runUnderlying23 Tryz.sizeOf9 Tryz.zeroValue9 rfl rfl rfl rfl) ?_)))))
      rintro _ _ ⟨g7, rfl, rfl⟩
      refine OpsD.subH (HSub.turn (h' := .sl (vS g7 1 1) 1 9 ([(⟨#[109, 101, 116, 114, 105, 99]⟩ : ByteArray)].map D.s)) rfl (Hp.cvs_sl (.cons (Cv.str (by first | decide | (unfold maxLen; omega))) .nil))) (oE rfl (zN [] _ [.sl (vS g7 1 1) 1 9 ([(⟨#[109, 101, 116, 114, 105, 99]⟩ : ByteArray)].map D.s)] rfl rfl (.cons ArgC.id (.cons (ArgC.own (j := 0) rfl rfl) .nil)) (zaV (j := 0) rfl zz) Tryz.call56 (without_c l [(⟨#[109, 101, 116, 114, 105, 99]⟩ : ByteArray)] (by omega)) (.inr (isOwn_flat (flatL_map (fun _ => rfl) _)))) ?_)
      rintro _ _ ⟨_, ⟨v8, rfl, rfl⟩, rfl⟩
      refine on rfl (oR 1 rfl (oZ rfl (jk [6] rfl (zm rfl (PD.subH (HSub.less (zbr (i := 0) rfl)) (PD.subH (HSub.turn (h' := .sl v8 2 62 ((keyL mode names l).map Lbl.d)) rfl (Hp.eq_sl (show List.map Lbl.d (zbb l [(⟨#[109, 101, 116, 114, 105, 99]⟩ : ByteArray)] false) = List.map Lbl.d (keyL mode names l) from congrArg _ (by unfold keyL metB; simp [*])))) ?_))))))
      exact zbn Tryz.results24 (.cons (zh rfl) .nil) rfl ⟨_, rfl, rfl⟩

theorem vRight_c (l : List RowD)  :
    CD Tryz.prog 26 [] [.sh 2 (l.map RowD.d)] (isR (dB (zT l))) := by
  refine zq Tryz.func26 rfl (N := 33) rfl rfl (fun C => ?_)
  refine jk [0] rfl ?_
  refine JD.bd 0 rfl (fun bd0 => ?_)
  have nl0 := zS bd0
  refine jT rfl (oR 1 rfl (oZ rfl (jS rfl (jT rfl (oR 1 rfl (oP rfl (z6 (n := l.length) rfl Tryz.runUnderlying22 (by simp only [lm, lc, ln])) (oP rfl (zah rfl rfl rfl) (oZ rfl ?_))))))))
  refine jD rfl (fun hc1 => ?_) (fun hc1 => ?_)
  · skip
    refine jT rfl (oR 1 rfl (oZ rfl (zm rfl (zd ?_))))
    exact zl Tryz.results26 (.cons (zx (zh rfl) (Cv.eq (congrArg (fun b => D.v (.bool b)) (by exact vr_long hc1)))) .nil) rfl HSub.none ⟨rfl, rfl⟩
  · skip
    refine zj rfl (zb (jS rfl (jT rfl (oR 1 rfl (oP rfl (z6 (n := l.length) rfl Tryz.runUnderlying22 (by simp only [lm, lc, ln])) (oR 1 rfl (oZ rfl (jB rfl (jl1 (fun (a_ : Nat) => [(0, .sh 2 (l.map RowD.d)), (8, .sh 2 (l.map RowD.d)), (9, dN l.length), (10, dN a_)]) (fun a_ => []) (fun a_ => (zbu l 0 = zbu l a_)) (fun a_ => l.length - a_) 0 rfl (sa rfl) HSub.rfl' rfl ?_)))))))))
    rintro k hk
    refine ja rfl (jn rfl (jT rfl (oP rfl (zQ rfl rfl rfl) (oZ rfl (jS rfl ?_)))))
    refine jD rfl (fun hc2 => ?_) (fun hc2 => ?_)
    · skip
      refine zj rfl (zb (jS rfl (jB rfl (jT rfl (oR 1 rfl ?_)))))
      obtain ⟨x1, hx1⟩ := zy l k (by omega)
      refine oP rfl (zr (k := k) rfl rfl Tryz.runUnderlying22 Tryz.sizeOf53 (by first | rfl | omega) (zg hx1)) (oP rfl (zaJ (d := RowD.d x1) rfl Tryz.isAgg53 Tryz.sizeOf53 rfl rfl) (oE rfl (zar (zv := (.agg #[(.slice none 0 0), (.int .i64 0)])) Tryz.zeroValue53 ⟨rfl, rfl, trivial⟩ (Cv.vagg (by decide))) ?_))
      rintro _ _ ⟨g3, rfl, rfl⟩
      refine oR 1 rfl (oE rfl (zY (i := 0) (X' := RowD.d x1) rfl rfl rfl (CellD.agg) Tryz.sizeOf53 rfl rfl rfl) ?_)
      rintro _ _ ⟨rfl, rfl⟩
      refine on rfl (oZ rfl (jS rfl ?_))
      rcases Bool.eq_false_or_eq_true (za6 x1) with hg4 | hg4
      · skip
        by_cases hg5 : (0 : Int) < ((k : Nat) : Int)
        · skip
          refine jk [0, 3, 4, 8, 9, 10, 11, 12, 13, 14] rfl (jn rfl ?_)
          obtain ⟨x2, hx2⟩ := zy l (k - 1) (by omega)
          refine zW 13 [(15, RowD.d x1, none), (16, dB true, none), (17, dB false, none), (18, dB false, none), (19, dN k, none), (20, dB true, none), (21, dB true, none), (22, .sh 2 (l.map RowD.d), none), (23, dN k, none), (24, dN (k - 1), none), (25, .el (RowD.d x2) 0, none), (26, RowD.d x2, none), (27, RowD.d x1, none)] [.bx g3 53 (RowD.d x1)] (Hn := [.bx g3 53 (RowD.d x1)]) mixed rfl rfl rfl rfl HSub.rfl' rfl ⟨sa_p rfl rfl rfl (zaP (d := RowD.d x1) rfl (i := 0) rfl Tryz.isAgg53 Tryz.sizeOf53 rfl rfl), sa_q rfl rfl rfl ((zaI rfl (.cons Cv.rfl' .nil) Tryz.call39 (single_c x1) zaQ).cv (Cv.eq (congrArg (fun b => D.v (.bool b)) hg4))), sa_p rfl rfl rfl (zbc (q := true) rfl), sa_p rfl rfl rfl (zc rfl), zG rfl rfl rfl rfl rfl rfl (zc rfl).qu, zG rfl rfl rfl rfl rfl rfl (zah rfl rfl (decide_eq_true hg5)).qu, zG rfl rfl rfl rfl rfl rfl (zc rfl).qu, zG rfl rfl rfl rfl rfl rfl (zc rfl).qu, zG rfl rfl rfl rfl rfl rfl (zc rfl).qu, zG rfl rfl rfl rfl rfl rfl (zav (c := ((k - 1 : Nat) : Int)) rfl rfl (zB (by omega) (by omega))).qu, zG rfl rfl rfl rfl rfl rfl (zr (k := k - 1) rfl rfl Tryz.runUnderlying22 Tryz.sizeOf53 (by first | rfl | omega) (zg hx2)).qu, zG rfl rfl rfl rfl rfl rfl (zaJ (d := RowD.d x2) rfl Tryz.isAgg53 Tryz.sizeOf53 rfl rfl).qu, zG rfl rfl rfl rfl rfl rfl (zaP (d := RowD.d x1) rfl (i := 0) rfl Tryz.isAgg53 Tryz.sizeOf53 rfl rfl).qu, trivial⟩ ?_
          refine ok [0, 3, 4, 8, 9, 10, 11, 12, 13, 14, 15, 16, 17, 18, 19, 20, 21, 22, 23, 24, 25, 26, 27] rfl (oV rfl rfl acs Tryz.call42 (vorder_c x2 x1) (oG rfl (zV rfl rfl rfl) (oR 2 rfl (oZ rfl ?_))))
          refine jD rfl (fun hc6 => ?_) (fun hc6 => ?_)
          · skip
            refine jT rfl (oR 1 rfl (oZ rfl (zm rfl (zf (zd (zP (zf (zd ?_))))))))
            exact zl Tryz.results26 (.cons (zx (zh rfl) (Cv.eq (congrArg (fun b => D.v (.bool b)) (by exact vr_bad2 hk hx1 (prevR_pos hg5 hx2) hc6)))) .nil) rfl HSub.none ⟨rfl, rfl⟩
          · skip
            refine zj rfl (zp (zb (za rfl (oP rfl (zO (c := ((k + 1 : Nat) : Int)) rfl rfl (zB (by omega) (by omega))) (oR 1 rfl (ze rfl ?_))))))
            exact pl1 (k + 1) (sa rfl) HSub.none (vr_step hk hx1 hg4 (prevR_pos hg5 hx2) hc6) (by omega)
        · skip
          refine jk [0, 3, 4, 8, 9, 10, 11, 12, 13, 14] rfl (jn rfl (zW 13 [(15, RowD.d x1, none), (16, dB true, none), (17, dB false, none), (18, dB false, none), (19, dN k, none), (20, dB false, none), (21, dB false, none), (22, .v undef, none), (23, .v undef, none), (24, .v undef, none), (25, .v undef, none), (26, .v undef, none), (27, .v undef, none)] [.bx g3 53 (RowD.d x1)] (Hn := [.bx g3 53 (RowD.d x1)]) mixed rfl rfl rfl rfl HSub.rfl' rfl ⟨sa_p rfl rfl rfl (zaP (d := RowD.d x1) rfl (i := 0) rfl Tryz.isAgg53 Tryz.sizeOf53 rfl rfl), sa_q rfl rfl rfl ((zaI rfl (.cons Cv.rfl' .nil) Tryz.call39 (single_c x1) zaQ).cv (Cv.eq (congrArg (fun b => D.v (.bool b)) hg4))), sa_p rfl rfl rfl (zbc (q := true) rfl), sa_p rfl rfl rfl (zc rfl), zG rfl rfl rfl rfl rfl rfl (zc rfl).qu, zG rfl rfl rfl rfl rfl rfl (zah rfl rfl (decide_eq_false hg5)).qu, zG rfl rfl rfl rfl rfl rfl (zc rfl).qu, sa_s rfl rfl rfl rfl rfl rfl (by decide), sa_s rfl rfl rfl rfl rfl rfl (by decide), sa_s rfl rfl rfl rfl rfl rfl (by decide), sa_s rfl rfl rfl rfl rfl rfl (by decide), sa_s rfl rfl rfl rfl rfl rfl (by decide), sa_s rfl rfl rfl rfl rfl rfl (by decide), trivial⟩ (ok [0, 3, 4, 8, 9, 10, 11, 12, 13, 14, 15, 16, 17, 18, 19, 20, 21, 22, 23, 24, 25, 26, 27] rfl (oR 4 rfl (oZ rfl (jCf rfl (zj rfl (zp (zb (za rfl ?_))))))))))
          refine oP rfl (zO (c := ((k + 1 : Nat) : Int)) rfl rfl (zB (by omega) (by omega))) (oR 1 rfl (ze rfl ?_))
          exact pl1 (k + 1) (sa rfl) HSub.none (vr_step0 hk hx1 hg4 (prevR_zero hg5)) (by omega)
      · skip
        refine jk [0, 3, 4, 8, 9, 10, 11, 12, 13, 14] rfl (jn rfl (zW 13 [(15, RowD.d x1, none), (16, dB false, none), (17, dB true, none), (18, dB true, none), (19, .v undef, none), (20, .v undef, none), (21, .v undef, none), (22, .v undef, none), (23, .v undef, none), (24, .v undef, none), (25, .v undef, none), (26, .v undef, none), (27, .v undef, none)] [.bx g3 53 (RowD.d x1)] (Hn := [.bx g3 53 (RowD.d x1)]) mixed rfl rfl rfl rfl HSub.rfl' rfl ⟨sa_p rfl rfl rfl (zaP (d := RowD.d x1) rfl (i := 0) rfl Tryz.isAgg53 Tryz.sizeOf53 rfl rfl), sa_q rfl rfl rfl ((zaI rfl (.cons Cv.rfl' .nil) Tryz.call39 (single_c x1) zaQ).cv (Cv.eq (congrArg (fun b => D.v (.bool b)) hg4))), sa_p rfl rfl rfl (zbc (q := false) rfl), sa_p rfl rfl rfl (zc rfl), sa_s rfl rfl rfl rfl rfl rfl (by decide), sa_s rfl rfl rfl rfl rfl rfl (by decide), sa_s rfl rfl rfl rfl rfl rfl (by decide), sa_s rfl rfl rfl rfl rfl rfl (by decide), sa_s rfl rfl rfl rfl rfl rfl (by decide), sa_s rfl rfl rfl rfl rfl rfl (by decide), sa_s rfl rfl rfl rfl rfl rfl (by decide), sa_s rfl rfl rfl rfl rfl rfl (by decide), sa_s rfl rfl rfl rfl rfl rfl (by decide), trivial⟩ (ok [0, 3, 4, 8, 9, 10, 11, 12, 13, 14, 15, 16, 17, 18, 19, 20, 21, 22, 23, 24, 25, 26, 27] rfl (oR 4 rfl (oZ rfl (jCt rfl (jT rfl (oR 1 rfl (oZ rfl (zm rfl (zf (zd (zP (zf (zd ?_)))))))))))))))
        exact zl Tryz.results26 (.cons (zx (zh rfl) (Cv.eq (congrArg (fun b => D.v (.bool b)) (by exact vr_bad1 hk hx1 hg4)))) .nil) rfl HSub.none ⟨rfl, rfl⟩
    · skip
      refine zL rfl (zo (zn (zk (zb (jT rfl (oR 1 rfl (oZ rfl (zm rfl ?_))))))))
      exact zl Tryz.results26 (.cons (zx (zh rfl) (Cv.eq (congrArg (fun b => D.v (.bool b)) (by exact vr_good hk (by omega) (by omega))))) .nil) rfl HSub.none ⟨rfl, rfl⟩

theorem vTidy_c (l : List RowD)  :
    CD Tryz.prog 14 [] [.sh 2 (l.map RowD.d)] (fun r H' => ∃ v0_, r = .tup [.ov v0_, dI (rtE l)] ∧ H' = [.sl v0_ 2 53 ((rtL l).map RowD.d)]) := by
  refine zq Tryz.func14 rfl (N := 46) rfl rfl (fun C => ?_)
  refine jk [0] rfl ?_
  refine JD.bd 0 rfl (fun bd0 => ?_)
  have nl0 := zS bd0
  refine jT rfl (oR 2 rfl (oZ rfl (jS rfl (jT rfl (oR 1 rfl (oP rfl (z6 (n := l.length) rfl Tryz.runUnderlying22 (by simp only [lm, lc, ln])) (oP rfl (zah rfl rfl rfl) (oZ rfl ?_))))))))
  refine jD rfl (fun hc1 => ?_) (fun hc1 => ?_)
  · skip
    refine jT rfl (oR 2 rfl (oZ rfl (zm rfl (zd (PD.subH (HSub.nil 2 53) (PD.norm [.sl (.slice none 0 0) 2 53 ((rtL l).map RowD.d)] (by have hw : [] = rtL l := (by first | exact (zcr hc1).1 | exact (zcr hc1).2); rw [show ([] : List D) = List.map RowD.d (rtL l) from congrArg (List.map RowD.d) hw]) ?_))))))
    exact zl Tryz.results14 (.cons (zx (zh rfl) (Cv.ov rfl)) (.cons (zx (zh rfl) (Cv.eq (congrArg (fun n => D.v (.int .i64 n)) (by first | exact (zcr hc1).1 | exact (zcr hc1).2)))) .nil)) rfl (HSub.fst 1 rfl) ⟨(.slice none 0 0), rfl, rfl⟩
  · skip
    refine zj rfl (zb (jT rfl (oR 1 rfl (oZ rfl (jS rfl (jT rfl (oR 1 rfl (oP rfl (z6 (n := l.length) rfl Tryz.runUnderlying22 (by simp only [lm, lc, ln])) (oR 1 rfl (oZ rfl (jB rfl (jl3 (fun (a_ : Nat) (b_ : Value) (c_ : List RowD) => [(11, .sh 2 (l.map RowD.d)), (12, dN l.length), (13, dN a_), (4, .ov b_)]) (fun a_ b_ c_ => [.sl b_ 2 53 (c_.map RowD.d)]) (fun a_ b_ c_ => (a_ ≤ l.length) ∧ (c_ = l.take a_) ∧ (zbm (l.take a_) = true)) (fun a_ b_ c_ => l.length - a_) 0 (.slice none 0 0) [] rfl ⟨sk rfl, sk rfl, sk rfl, sc rfl (Cv.ov rfl), trivial⟩ (HSub.nil 2 53) ⟨Nat.zero_le _, rfl, rfl⟩ ?_))))))))))))
    rintro k ov o ⟨hkl, ho, hw⟩
    refine ja rfl (jn rfl ?_)
    have hol : o.length ≤ 2000 := by rw [ho, List.length_take]; omega
    refine jT rfl (oP rfl (zQ rfl rfl rfl) (oZ rfl (jS rfl ?_)))
    refine jD rfl (fun hc2 => ?_) (fun hc2 => ?_)
    · skip
      refine zj rfl (zb (jS rfl (jB rfl (jT rfl ?_))))
      obtain ⟨x1, hx1⟩ := zy l k (by omega)
      refine oP rfl (zr (k := k) rfl rfl Tryz.runUnderlying22 Tryz.sizeOf53 (by first | rfl | omega) (zg hx1)) (oP rfl (zaJ (d := RowD.d x1) rfl Tryz.isAgg53 Tryz.sizeOf53 rfl rfl) (oE rfl (zar (zv := (.agg #[(.slice none 0 0), (.int .i64 0)])) Tryz.zeroValue53 ⟨rfl, rfl, trivial⟩ (Cv.vagg (by decide))) ?_))
      rintro _ _ ⟨g3, rfl, rfl⟩
      refine oE rfl (zY (i := 0) (X' := RowD.d x1) rfl rfl rfl (CellD.agg) Tryz.sizeOf53 rfl rfl rfl) ?_
      rintro _ _ ⟨rfl, rfl⟩
      refine on rfl (oZ rfl (jS rfl (jT rfl (oP rfl (zaP (d := RowD.d x1) rfl (i := 0) rfl Tryz.isAgg53 Tryz.sizeOf53 rfl rfl) (oW rfl rfl acs Tryz.call39 (single_c x1) (oP rfl (zbc rfl) (oZ rfl ?_)))))))
      refine jC rfl (fun hc4 => ?_) (fun hc4 => ?_)
      · simp only [bA, bB, bC, bD, bE, bF, bG, bH, bI, bJ] at hc4
        refine jT rfl (oR 2 rfl (oZ rfl (zm rfl (zd (zf (zd (zP (zf (zd (PD.subH (HSub.nil 2 53) (PD.norm [.sl (.slice none 0 0) 2 53 ((rtL l).map RowD.d), .bx g3 53 (RowD.d x1), .sl ov 2 53 (o.map RowD.d)] (by have hw : [] = rtL l := (by first | exact (rt_bad' hx1 hc4).1 | exact (rt_bad' hx1 hc4).2); rw [show ([] : List D) = List.map RowD.d (rtL l) from congrArg (List.map RowD.d) hw]) ?_)))))))))))
        exact zl Tryz.results14 (.cons (zx (zh rfl) (Cv.ov rfl)) (.cons (zx (zh rfl) (Cv.eq (congrArg (fun n => D.v (.int .i64 n)) (by first | exact (rt_bad' hx1 hc4).1 | exact (rt_bad' hx1 hc4).2)))) .nil)) rfl (HSub.fst 1 rfl) ⟨(.slice none 0 0), rfl, rfl⟩
      · simp only [bA, bB, bC, bD, bE, bF, bG, bH, bI, bJ] at hc4
        refine zj rfl (zb (za rfl (oR 1 rfl (oP rfl (zaP (d := RowD.d x1) rfl (i := 0) rfl Tryz.isAgg53 Tryz.sizeOf53 rfl rfl) (oW rfl rfl acs Tryz.call40 (vown_c x1 (by have h := okRow_len hc4; omega)) (oE rfl (zap [.tmp 22] rfl rfl (.cons CellD.agg .nil) rfl Tryz.runUnderlying22 Tryz.sizeOf53 Tryz.zeroValue53 rfl rfl rfl rfl) ?_))))))
        rintro _ _ ⟨g5, rfl, rfl⟩
        refine oE rfl (zac (f := RowD.d) (l := o) (l' := [x1]) (i := 2) rfl rfl rfl (SrcD.own (j := 0) rfl rfl) zbf zaO rfl rfl (by unfold maxLen; (try simp only [la, lc, ln, lm, lt', ld, ls, lr]); omega) (by (try simp only [la, lc, ln, lm, lt', ld, ls, lr]); omega)) ?_
        rintro _ _ ⟨v6, rfl, rfl⟩
        refine on rfl (oR 1 rfl (ze rfl (zp (zb (za rfl (oP rfl (zO (c := ((k + 1 : Nat) : Int)) rfl rfl (zB (by omega) (by omega))) (oR 1 rfl (ze rfl (PD.subH (HSub.perm (z2 (i := 2) rfl)) (pn rfl (PD.subH (HSub.fst 1 rfl) (pn rfl ?_))))))))))))
        exact pl3 (k + 1) v6 (o ++ [x1]) (sa rfl) HSub.rfl' ⟨by show k + 1 ≤ l.length; omega, by rw [ho, zab hx1], rowsB_snoc' hx1 hw hc4⟩ (by omega)
    · skip
      have hrow := td_rows hw (by omega)
      obtain rfl : l = o := by rw [ho, List.take_of_length_le (by omega)]
      have hil := zbL (c := zI 0) _ l rfl
      refine zL rfl (zo (zn (zk (zb (jT rfl (oR 1 rfl (oE rfl (zN [.sl ov 2 53 (l.map RowD.d)] [] [] rfl rfl (.cons ArgC.id (.cons ArgC.id .nil)) zz Tryz.call41 (sortstR_c ov l 0 (by omega)) (.inl rfl)) ?_)))))))
      rintro _ _ ⟨_, ⟨rfl, rfl⟩, rfl⟩
      refine on rfl (oZ rfl (jS rfl (jT rfl (oR 1 rfl (oZ rfl (jB rfl (jl1 (fun (a_ : Nat) => [(4, .ov ov), (7, dN a_)]) (fun a_ => [.sl ov 2 53 ((zt (zI 0) l).map RowD.d)]) (fun a_ => (1 ≤ a_) ∧ (zcT (zt (zI 0) l) a_)) (fun a_ => l.length - a_) 1 rfl (sa rfl) HSub.rfl' ⟨Nat.le_refl _, zcT.one _⟩ ?_)))))))
      rintro i ⟨hi, hn⟩
      refine ja rfl (jn rfl (jS rfl (jT rfl (oR 2 rfl (oP rfl (zU (n := (zt (zI 0) l).length) (j := 0) rfl rfl Tryz.runUnderlying22 (List.length_map _)) (oP rfl (zQ rfl rfl rfl) (oZ rfl ?_)))))))
      refine jD rfl (fun hc7 => ?_) (fun hc7 => ?_)
      · skip
        refine zj rfl (zb (jS rfl (jB rfl (jS rfl (jk [4, 7, 28, 29, 30, 31] rfl (jn rfl ?_))))))
        obtain ⟨x2, hx2⟩ := zy (zt (zI 0) l) (i - 1) (by omega)
        obtain ⟨x3, hx3⟩ := zy (zt (zI 0) l) i (by omega)
        refine zW 9 [(34, .ov ov, none), (35, dN i, none), (36, dN (i - 1), none), (37, .v (.pointer (some ⟨bl ov, (i - 1) * 2 + 0, none⟩)), none), (38, RowD.d x2, none), (39, .ov ov, none), (40, dN i, none), (41, .v (.pointer (some ⟨bl ov, i * 2 + 0, none⟩)), none), (42, RowD.d x3, none)] [.sl ov 2 53 ((zt (zI 0) l).map RowD.d)] (Hn := [.sl ov 2 53 ((zt (zI 0) l).map RowD.d)]) mixed rfl rfl rfl rfl HSub.rfl' rfl ⟨sa_p rfl rfl rfl (zc rfl), sa_p rfl rfl rfl (zc rfl), sa_p rfl rfl rfl (zav (c := ((i - 1 : Nat) : Int)) rfl rfl (zB (by omega) (by omega))), sa_p rfl rfl rfl (zi (k := i - 1) (j := 0) rfl rfl rfl Tryz.runUnderlying22 Tryz.sizeOf53 (by first | rfl | omega) (zg hx2)), sa_p rfl rfl rfl (zX (d := RowD.d x2) rfl (i := 0) rfl (zg hx2) Tryz.isAgg53 Tryz.sizeOf53 rfl rfl), sa_p rfl rfl rfl (zc rfl), sa_p rfl rfl rfl (zc rfl), sa_p rfl rfl rfl (zi (k := i) (j := 0) rfl rfl rfl Tryz.runUnderlying22 Tryz.sizeOf53 (by first | rfl | omega) (zg hx3)), sa_p rfl rfl rfl (zX (d := RowD.d x3) rfl (i := 0) rfl (zg hx3) Tryz.isAgg53 Tryz.sizeOf53 rfl rfl), trivial⟩ (ok [4, 7, 28, 29, 30, 31, 34, 35, 36, 37, 38, 39, 40, 41, 42] rfl (oW rfl rfl acs Tryz.call42 (vorder_c x2 x3) (oP rfl (zR rfl rfl rfl) (oZ rfl ?_))))
        refine jD rfl (fun hc8 => ?_) (fun hc8 => ?_)
        · skip
          refine jT rfl (oR 2 rfl (oZ rfl (zm rfl (zf (zd (zP (zf (zd (PD.subH (HSub.nil 2 53) (PD.norm [.sl (.slice none 0 0) 2 53 ((rtL l).map RowD.d), .sl ov 2 53 ((zt (zI 0) l).map RowD.d)] (by have hw : [] = rtL l := (by first | exact (td_twin (by omega) hrow hi hx2 hx3 hc8).1 | exact (td_twin (by omega) hrow hi hx2 hx3 hc8).2); rw [show ([] : List D) = List.map RowD.d (rtL l) from congrArg (List.map RowD.d) hw]) ?_))))))))))
          exact zl Tryz.results14 (.cons (zx (zh rfl) (Cv.ov rfl)) (.cons (zx (zh rfl) (Cv.eq (congrArg (fun n => D.v (.int .i64 n)) (by first | exact (td_twin (by omega) hrow hi hx2 hx3 hc8).1 | exact (td_twin (by omega) hrow hi hx2 hx3 hc8).2)))) .nil)) rfl (HSub.fst 1 rfl) ⟨(.slice none 0 0), rfl, rfl⟩
        · skip
          refine zj rfl (zp (zb (za rfl (oR 1 rfl (oP rfl (zO (c := ((i + 1 : Nat) : Int)) rfl rfl (zB (by omega) (by omega))) (oR 1 rfl (ze rfl ?_)))))))
          exact pl1 (i + 1) (sa rfl) HSub.rfl' ⟨by show 1 ≤ i + 1; omega, hn.next hi hx2 hx3 hc8⟩ (by omega)
      · skip
        refine zL rfl (zo (zn (zk (zb (jT rfl (oR 3 rfl (oZ rfl (zm rfl (PD.norm [.sl ov 2 53 ((rtL l).map RowD.d)] (by have hw : (zt (zI 0) l) = rtL l := (by first | exact (td_good (by omega) hrow hn (by omega)).1 | exact (td_good (by omega) hrow hn (by omega)).2); rw [hw]) ?_)))))))))
        exact zl Tryz.results14 (.cons (zh rfl) (.cons (zx (zh rfl) (Cv.eq (congrArg (fun n => D.v (.int .i64 n)) (by first | exact (td_good (by omega) hrow hn (by omega)).1 | exact (td_good (by omega) hrow hn (by omega)).2)))) .nil)) rfl (HSub.fst 1 rfl) ⟨ov, rfl, rfl⟩
end Lp
/-
  INSERTING INTO A ROW OF THE CALL's OWN (elements of one cell): what room there is, cutting beyond the length, copying, zeros behind.
-/
set_option linter.unusedVariables false
namespace Lp
open Go Go.RowKit
def capV : Value → Nat
  | .slice _ _ c => c
  | _ => 0
theorem zcc {w : World} {z : Nat} {T : TypeId} {v : Value} {us : List Value} (h : Own vcs z T w 0 v us) : ∃ A, v = .slice A us.length (capV v) ∧ us.length ≤ capV v ∧ capV v ≤ maxLen ∧ (0 < capV v → ∃ g r, A = some ⟨g, 0, none⟩ ∧ Box w g T (us.flatMap vcs ++ r) ∧ (us.flatMap vcs ++ r).length = capV v * z ∧ v.ownBlock = some g) := by
  rcases h.1.2 with ⟨rfl, h0⟩ | ⟨g, cap, cur, rfl, hb, hg, hnc, hm, hsz, htake⟩
  · exact ⟨none, by rw [h0]; rfl, by rw [h0]; exact Nat.zero_le _, Nat.zero_le _, fun h => by simp [capV] at h⟩
  · refine ⟨_, rfl, hnc, hm, fun _ => ⟨g, cur.toList.drop (us.length * z), rfl, ?_, ?_, rfl⟩⟩
    · unfold Box; rw [← htake, List.take_append_drop]; simpa using hg
    · rw [← htake, List.take_append_drop]; simpa [capV] using hsz
theorem add0 (g o k : Nat) : (⟨g, o, none⟩ : Addr).add k = ⟨g, o + k, none⟩ := Addr.add_lit _ _ _
theorem zc7 {z : Nat} {g n c a b : Nat} (h : a < c) : cut z (.slice (some ⟨g, 0, none⟩) n c) a b = .slice (some ⟨g, a * z, none⟩) (b - a) (c - a) := by
  unfold cut; simp only [if_neg (show ¬ c = a by omega), Option.map_some, add0, Nat.zero_add]
section
variable {P : Program} {N : Nat} {C : Ctx} {ty : TypeId} {K : Kd} {H : List Hp}
theorem OpsD.cap {ops : List Oper} {i : Nat} {Kt : Env → World → (Nat → Prop) → Prop} (j : Nat) {v : Value} {z : Nat} {T : TypeId} {xs : List D} (hm : nth H j = some (.sl v z T xs)) (k : xs.length ≤ capV v → capV v ≤ maxLen → OpsD P N C ops i K H Kt) : OpsD P N C ops i K H Kt :=
  OpsD.fact (φ := xs.length ≤ capV v ∧ capV v ≤ maxLen) (fun w F ρ _ g => by
    obtain ⟨us, hr, ho⟩ := g.h.ok _ (zZ hm)
    obtain ⟨A, _, h1, h2, _⟩ := zcc ho
    rw [hr.len] at h1; exact ⟨h1, h2⟩) fun h => k h.1 h.2
theorem p_cap {t e : TypeId} {x : Operand} {z j : Nat} {v : Value} {T : TypeId} {xs : List D} (hx : opO K x = some v) (hm : nth H j = some (.sl v z T xs)) (ht : ∀ w, (underlying t).run P w = .ok (.slice e) w) : Pu P (.call { callee := .builtin .cap, args := #[x], argTypes := #[t] }) ty K H (.v (.int .i64 (capV v : Int))) :=
  ⟨fun ρ w F hk _ hH => by
    obtain ⟨us, hr, ho⟩ := hH _ (zZ hm)
    obtain ⟨A, hv, _⟩ := zcc ho
    have e1 : ev ρ x = _ := hk.opO hx
    rw [hv] at e1
    exact EOp.of_run (v := .int .i64 (capV v)) (w' := w) (by simp [execOp, zao, resolve, invoke, builtin, e1, Builtin.cap_, ht, goInt]) ⟨rfl, rfl⟩⟩
/-- cut at the end beyond what there is, within the room -/
theorem p_slice_more {t e : TypeId} {z b j : Nat} {x : Operand} {lo hi : Option Operand} {v : Value} {T : TypeId} {xs : List D} {rl rh : Option Int} (hx : opO K x = some v) (hm : nth H j = some (.sl v z T xs)) (hlo : bndD K lo = some rl) (hhi : bndD K hi = some rh) (ha : Bnd rl 0 0) (hb : Bnd rh xs.length b)
    (ht : ∀ w, (underlying t).run P w = .ok (.slice e) w) (hs : ∀ w, (Go.sizeOf e).run P w = .ok z w) (hbc : b ≤ capV v) : Pu P (.slice t x lo hi none) ty K H (.v (cut z v 0 b)) :=
  ⟨fun ρ w F hk hF hH => by
    obtain ⟨us, hr, ho⟩ := hH _ (zZ hm)
    have hul := hr.len
    obtain ⟨A, hv, _⟩ := zcc ho
    exact e_slice (n := xs.length) (a := 0) (b := b) (z := z) (zA ρ [x]) (opv1 ρ (hk.opO hx)) rfl rfl (ha.out (zbz hk hlo)) (hb.out (zbz hk hhi)) ht hs ⟨A, _, by rw [← hul]; exact hv, hbc⟩ (Nat.zero_le _) ⟨rfl, rfl⟩⟩
/-- a part of that -/
theorem p_slice_part {t e : TypeId} {z a b m j : Nat} {x : Operand} {lo hi : Option Operand} {v : Value} {T : TypeId} {xs : List D} {rl rh : Option Int} (hx : opD K x = some (.v (cut z v 0 m))) (hm : nth H j = some (.sl v z T xs)) (hlo : bndD K lo = some rl) (hhi : bndD K hi = some rh) (ha : Bnd rl 0 a) (hb : Bnd rh m b)
    (ht : ∀ w, (underlying t).run P w = .ok (.slice e) w) (hs : ∀ w, (Go.sizeOf e).run P w = .ok z w) (hab : a ≤ b) (hbm : b ≤ m) (hbc : m ≤ capV v) (h0 : 0 < m) : Pu P (.slice t x lo hi none) ty K H (.v (cut z (cut z v 0 m) a b)) :=
  ⟨fun ρ w F hk hF hH => by
    obtain ⟨us, hr, ho⟩ := hH _ (zZ hm)
    obtain ⟨A, hv, _, _, hA⟩ := zcc ho
    obtain ⟨g, r, rfl, _⟩ := hA (by omega)
    have e0 : cut z v 0 m = .slice (some ⟨g, 0, none⟩) m (capV v) := by rw [hv, zc7 (by simpa using by omega)]; simp [capV]
    exact e_slice (n := m) (a := a) (b := b) (z := z) (zA ρ [x]) (opv1 ρ (hk.op hx)) rfl rfl (ha.out (zbz hk hlo)) (hb.out (zbz hk hhi)) ht hs ⟨_, _, e0, by omega⟩ hab ⟨rfl, rfl⟩⟩
theorem len_one {us : List Value} {xs : List D} {w : World} {F : Nat → Prop} (hr : RepE w F 1 xs us) : (us.flatMap vcs).length = xs.length := by
  rw [zbx (z := 1) hr.size, hr.len, Nat.mul_one]
theorem zcn {us : List Value} (h : ∀ x ∈ us, (vcs x).length = 1) (n : Nat) : (us.flatMap vcs).take n = (us.take n).flatMap vcs := by
  induction us generalizing n with
  | nil => simp
  | cons y r ih =>
    cases n with
    | zero => simp
    | succ n =>
      have hy := h y List.mem_cons_self
      obtain ⟨c, hc⟩ := List.length_eq_one_iff.1 hy
      simp only [List.flatMap_cons, List.take_succ_cons, hc, List.cons_append, List.nil_append]
      rw [ih (fun x hx => h x (List.mem_cons_of_mem _ hx))]
theorem flat_drop1 {us : List Value} (h : ∀ x ∈ us, (vcs x).length = 1) (n : Nat) : (us.flatMap vcs).drop n = (us.drop n).flatMap vcs := by
  induction us generalizing n with
  | nil => simp
  | cons y r ih =>
    cases n with
    | zero => simp
    | succ n =>
      have hy := h y List.mem_cons_self
      obtain ⟨c, hc⟩ := List.length_eq_one_iff.1 hy
      simp only [List.flatMap_cons, List.drop_succ_cons, hc, List.cons_append, List.nil_append]
      rw [ih (fun x hx => h x (List.mem_cons_of_mem _ hx))]
/-- cells are copied into a block that is known whole -/
theorem run_copy_box {w : World} {t t' ty e g o dLen dCap sLen sCap : Nat} {a : Addr} {cs cc : List Value} {T : TypeId} (hu : P.underlying t = some (.slice e)) (hs : ∀ w, (Go.sizeOf e).run P w = .ok 1 w) (hB : Box w g T cc) (hn : cs.length = Nat.min sLen dLen) (hsrc : ∀ j v, cs[j]? = some v → w.cell? (a.add j) = some v)
    (ho : o + cs.length ≤ cc.length) (h1 : ∀ v ∈ cs, v.oneCell' = true) : ∃ w', (Builtin.copy_ #[t, t'] ty #[.slice (some ⟨g, o, none⟩) dLen dCap, .slice (some a) sLen sCap]).run P w = .ok (goInt cs.length) w' ∧ Box w' g T (spl cc o cs) ∧ Upd g (g + 1) w w' ∧ w'.heap.size = w.heap.size := by
  have hl := run_loadCells_list (P := P) w a cs hsrc
  obtain ⟨w', h2, h3, h4, h5⟩ := run_storeCells P g T cs w cc o 0 hB (by simpa using ho) h1
  refine ⟨w', ?_, by simpa using h3, h4, h5⟩
  simp [Builtin.copy_, run_underlying hu, Builtin.lenOf, Builtin.firstCells, hs, ← hn, hl, h2]
theorem e_copy {ρ : Env} {w w' : World} {x y : Operand} {t t' : TypeId} {u v r : Value} {Kt : Value → World → Prop} (hx : ev ρ x = u) (hy : ev ρ y = v) (hr : (Builtin.copy_ #[t, t'] ty #[u, v]).run P w = .ok r w') (h : Kt r w') : EOp P (.call { callee := .builtin .copy, args := #[x, y], argTypes := #[t, t'] }) ty ρ w Kt :=
  EOp.of_run (v := r) (w' := w') (by simp [execOp, zao, resolve, invoke, builtin, hx, hy, hr]) h
theorem one_flat {us : List Value} (h : ∀ u ∈ us, One u) : ∀ c ∈ us.flatMap vcs, c.oneCell' = true := fun c hc => by
  obtain ⟨u, hu, hc⟩ := List.mem_flatMap.1 hc; exact h u hu c hc
theorem Own.mkBox {w : World} {g n c : Nat} {T : TypeId} {us : List Value} {r : List Value} (hB : Box w g T (us.flatMap vcs ++ r)) (hl : (us.flatMap vcs ++ r).length = c) (hz : ∀ x ∈ us, (vcs x).length = 1) (hn : us.length = n) (hc : n ≤ c) (hm : c ≤ maxLen) : Own vcs 1 T w 0 (.slice (some ⟨g, 0, none⟩) n c) us := by
  have hf := zbx (z := 1) hz
  refine ⟨⟨by rw [hf], .inr ⟨g, c, (us.flatMap vcs ++ r).toArray, by rw [hn], Nat.zero_le _, hB, by omega, hm, by simpa using hl, ?_⟩⟩, hz⟩
  rw [← hf]; simp
theorem Good.row {H : List Hp} {w w' : World} {F : Nat → Prop} {i g : Nat} {v v' : Value} {T : TypeId} {xs xs' : List D} (gd : Good C H w F) (hm : nth H i = some (.sl v 1 T xs)) (hg : v.ownBlock = some g) (hg' : v'.ownBlock = some g) (U : Upd g (g + 1) w w') (ok : Keep w F w' F → (Hp.sl v' 1 T xs').ok w' F) : Good C (H.set i (.sl v' 1 T xs')) w' F ∧ Keep w F w' F :=
  gd.turn hm (fun b hb hn => U.block b hb (by
    have : g ≠ b := fun e => hn (by show v.ownBlock = _; rw [hg, e])
    omega)) U.size U.os U.tape U.output U.drawn (fun b e => .inl (by show v.ownBlock = _; rw [hg]; have e' : v'.ownBlock = some b := e; rw [hg'] at e'; exact e')) ok
/-- what stands from a on, one place further -/
theorem ef_copy_shift {x y : Operand} {t t' e : TypeId} {i a n : Nat} {v : Value} {T : TypeId} {xs : List D} (hm : nth H i = some (.sl v 1 T xs)) (hn : xs.length = n) (hx : opD K x = some (.v (cut 1 (cut 1 v 0 (n + 1)) (a + 1) (n + 1)))) (hy : opD K y = some (.v (cut 1 (cut 1 v 0 (n + 1)) a (n + 1))))
    (ht : P.underlying t = some (.slice e)) (hs : ∀ w, (Go.sizeOf e).run P w = .ok 1 w) (ha : a < n) (hc : n + 1 ≤ capV v) : Ef P (.call { callee := .builtin .copy, args := #[x, y], argTypes := #[t, t'] }) ty K H (fun d H' => d = .v (.int .i64 ((n - a : Nat) : Int)) ∧ H' = H.set i (.sl (cut 1 v 0 (n + 1)) 1 T (xs.take (a + 1) ++ xs.drop a))) :=
  ⟨fun C ρ w F hk gd => by
    obtain ⟨us, hr, ho⟩ := gd.h.ok _ (zZ hm)
    have hul := hr.len
    obtain ⟨A, hv, _, hmx, hA⟩ := zcc ho
    obtain ⟨g, r, rfl, hB, hl, hgb⟩ := hA (by omega)
    generalize hcv : capV v = c at *
    have hf := len_one hr
    have e0 : cut 1 v 0 (n + 1) = .slice (some ⟨g, 0, none⟩) (n + 1) c := by rw [hv, zc7 (by omega)]; simp
    have e1 : cut 1 (cut 1 v 0 (n + 1)) (a + 1) (n + 1) = .slice (some ⟨g, a + 1, none⟩) (n - a) (c - (a + 1)) := by rw [e0, zc7 (by omega)]; simp [Nat.add_sub_add_right]
    have e2 : cut 1 (cut 1 v 0 (n + 1)) a (n + 1) = .slice (some ⟨g, a, none⟩) (n + 1 - a) (c - a) := by rw [e0, zc7 (by omega)]; simp
    have hx' : ev ρ x = _ := hk.op hx
    have hy' : ev ρ y = _ := hk.op hy
    rw [e1] at hx'; rw [e2] at hy'
    have hdl : ((us.flatMap vcs).drop a).length = n - a := by rw [List.length_drop, hf, hn]
    obtain ⟨w', hrun, hB', U, hsz⟩ := run_copy_box (P := P) (t := t) (t' := t') (ty := ty) (dLen := n - a) (dCap := c - (a + 1)) (sLen := n + 1 - a) (sCap := c - a) (a := ⟨g, a, none⟩) (o := a + 1) (cs := (us.flatMap vcs).drop a) ht hs hB (by rw [hdl]; simp only [Nat.min_def]; split <;> omega)
      (fun j u hj => by
        rw [add0]; have := hB.at_.2 (a + j) u (by rw [List.getElem?_append_left (by rw [hf]; have := (List.getElem?_eq_some_iff.1 hj).1; rw [hdl] at this; omega)]; rwa [List.getElem?_drop] at hj)
        simpa using this) (by rw [hdl, hl]; omega) (fun u hu => one_flat hr.one u (List.mem_of_mem_drop hu))
    refine e_copy hx' hy' hrun ?_
    have hz := hr.size
    have hsp : spl (us.flatMap vcs ++ r) (a + 1) ((us.flatMap vcs).drop a) = (us.take (a + 1) ++ us.drop a).flatMap vcs ++ r.drop 1 := by
      have hd : (us.flatMap vcs ++ r).drop (a + 1 + (n - a)) = r.drop 1 := by rw [List.drop_append, List.drop_eq_nil_of_le (by rw [hf]; omega), hf, List.nil_append, show a + 1 + (n - a) - xs.length = 1 by omega]
      unfold spl
      rw [hdl, hd, List.take_append_of_le_length (by rw [hf]; omega), zcn hz, flat_drop1 hz, List.flatMap_append]
    rw [hsp] at hB'
    have hr2 : RepE w F 1 (xs.take (a + 1) ++ xs.drop a) (us.take (a + 1) ++ us.drop a) := (hr.take _).app (hr.drop _)
    have hl2 : (us.take (a + 1) ++ us.drop a).length = n + 1 := by simp only [List.length_append, List.length_take, List.length_drop]; omega
    have key := gd.row (v' := cut 1 v 0 (n + 1)) (xs' := xs.take (a + 1) ++ xs.drop a) hm hgb (by rw [e0]; rfl) U (fun kp => ⟨_, hr2.keep kp, by
      rw [e0]
      refine Own.mkBox hB' ?_ hr2.size hl2 hc hmx
      rw [← hsp, zbT _ _ _ (by rw [hdl, hl]; omega), hl, Nat.mul_one]⟩)
    exact ⟨F, _, _, ⟨rfl, rfl⟩, by show _ = _; rw [hdl]; rfl, key.1, key.2⟩⟩
/-- elements copied over others -/
theorem ef_copy_in {x y : Operand} {t t' e : TypeId} {i a b : Nat} {v : Value} {T : TypeId} {xs ys : List D} {d : D} (hm : nth H i = some (.sl v 1 T xs)) (hx : opD K x = some (.v (cut 1 v a b))) (hy : opD K y = some d) (hsrc : SrcD H 1 d ys) (ht : P.underlying t = some (.slice e)) (hs : ∀ w, (Go.sizeOf e).run P w = .ok 1 w)
    (h0 : 0 < ys.length) (hab : a + ys.length ≤ b) (hb : b ≤ xs.length) (ho' : ys.length ≤ b - a) : Ef P (.call { callee := .builtin .copy, args := #[x, y], argTypes := #[t, t'] }) ty K H (fun d H' => d = .v (.int .i64 ((ys.length : Nat) : Int)) ∧ H' = H.set i (.sl v 1 T (xs.take a ++ ys ++ xs.drop (a + ys.length)))) :=
  ⟨fun C ρ w F hk gd => by
    obtain ⟨us, hr, ho⟩ := gd.h.ok _ (zZ hm)
    have hul := hr.len
    obtain ⟨A, hv, hle, hmx, hA⟩ := zcc ho
    obtain ⟨g, r, rfl, hB, hl, hgb⟩ := hA (by omega)
    obtain ⟨vs, hvs, hsl⟩ := hsrc.out w F _ gd.flt gd.h.ok (hk.op hy)
    generalize hcv : capV v = c at *
    have hf := len_one hr
    have hfv := len_one hvs
    have hvl := hvs.len
    have hx' : ev ρ x = _ := hk.op hx
    rw [hv, zc7 (by omega)] at hx'
    obtain ⟨A', c', e1, e2, e3, e4, _⟩ := hsl
    simp only [List.length_map] at e1 e2
    obtain ⟨b', o', rfl, _, _, hat⟩ := e4 (by intro e; simp at e; subst e; simp at hvl; omega)
    have hcell : ∀ j u, (vs.flatMap vcs)[j]? = some u → w.cell? ((⟨b', o', none⟩ : Addr).add j) = some u := by
      intro j u hj
      rw [add0]
      have hz := hvs.size
      have hjl : j < vs.length := by have := (List.getElem?_eq_some_iff.1 hj).1; rw [hfv, ← hvl] at this; exact this
      obtain ⟨q, hq⟩ : ∃ q, vs[j]? = some q := ⟨_, List.getElem?_eq_getElem hjl⟩
      obtain ⟨c, hc⟩ := List.length_eq_one_iff.1 (hz q (List.mem_of_getElem? hq))
      have hqu : vcs q = [u] := by
        have := zb8 (cs := vcs) hz j q hq 0 c (by rw [hc]; rfl)
        rw [Nat.mul_one, Nat.add_zero, hj] at this
        injection this with this; rw [hc, this]
      have := (hat j (vcs q) (by rw [List.getElem?_map, hq]; rfl)).2 0 u (by rw [hqu]; rfl)
      simpa using this
    obtain ⟨w', hrun, hB', U, hsz⟩ := run_copy_box (P := P) (t := t) (t' := t') (ty := ty) (dLen := b - a) (dCap := c - a) (sLen := vs.length) (sCap := c') (a := ⟨b', o', none⟩) (o := a * 1) (cs := vs.flatMap vcs) ht hs hB (by rw [hfv, hvl]; simp only [Nat.min_def]; split <;> omega) hcell (by rw [hfv, hl]; omega) (one_flat hvs.one)
    refine e_copy hx' (e1 ▸ rfl) hrun ?_
    have hz := hr.size
    have hsp : spl (us.flatMap vcs ++ r) (a * 1) (vs.flatMap vcs) = (us.take a ++ vs ++ us.drop (a + ys.length)).flatMap vcs ++ r := by
      unfold spl
      rw [hfv, Nat.mul_one, List.take_append_of_le_length (by rw [hf]; omega), zcn hz, List.drop_append_of_le_length (by rw [hf]; omega), flat_drop1 hz, List.flatMap_append, List.flatMap_append, List.append_assoc, List.append_assoc, List.append_assoc]
    rw [hsp] at hB'
    have hl2 : (us.take a ++ vs ++ us.drop (a + ys.length)).length = us.length := by simp only [List.length_append, List.length_take, List.length_drop]; omega
    have key := gd.row (v' := v) (xs' := xs.take a ++ ys ++ xs.drop (a + ys.length)) hm hgb hgb U (fun kp => ⟨_, (((hr.take _).keep kp).app (hvs.keep kp)).app ((hr.drop _).keep kp), by
      rw [hv]
      have hr2 := ((hr.take a).app hvs).app (hr.drop (a + ys.length))
      refine Own.mkBox hB' ?_ hr2.size hl2 hle hmx
      rw [← hsp, zbT _ _ _ (by rw [hfv, hl]; omega), hl, Nat.mul_one]⟩)
    exact ⟨F, _, _, ⟨rfl, rfl⟩, by show _ = _; rw [hfv]; rfl, key.1, key.2⟩⟩
/-- the front of a row, and zeros behind, where there is no room for them: a new row -/
theorem ef_append_zeros {x y : Operand} {t tn : TypeId} {j a k : Nat} {v zv : Value} {T : TypeId} {xs : List D} {d : D} {kn kq : IntKind} {m : Int} {by_ : Nat} (hm : nth H j = some (.sl v 1 T xs)) (hx : opD K x = some (.v (cut 1 v 0 a))) (hy : opD K y = some (.v (.int kq m))) (hk' : m = (k : Int)) (ht : P.underlying t = some (.slice T)) (htn : P.underlying tn = some (.int kn))
    (hi' : ∃ i, P.info? T = some i ∧ i.zero = some zv ∧ i.size = 1 ∧ i.bytes = by_) (hz1 : zv.oneCell' = true) (hd : Cv (.v zv) d) (ha : a ≤ xs.length) (hc : capV v < a + k) (h0 : 0 < capV v) (hk0 : 0 < k) (hb : (a + k) * by_ ≤ 140737488355328) (hl : a + k ≤ maxLen) :
    Ef P (.call { callee := .builtin .append, args := #[x, y], argTypes := #[t, tn] }) ty K H (fun d' H' => ∃ v', d' = .ov v' ∧ H' = .sl v' 1 T (xs.take a ++ List.replicate k d) :: H) :=
  ⟨fun C ρ w F hk gd => by
    obtain ⟨us, hr, ho⟩ := gd.h.ok _ (zZ hm)
    have hul := hr.len
    obtain ⟨A, hv, hle, hmx, hA⟩ := zcc ho
    obtain ⟨g, r, rfl, hB, hlb, hgb⟩ := hA h0
    obtain ⟨i, q1, q2, q3, q4⟩ := hi'
    generalize hcv : capV v = c at *
    have hf := len_one hr
    have hz := hr.size
    have hx' : ev ρ x = _ := hk.op hx
    have hy' : ev ρ y = _ := hk.op hy
    rw [hv, zc7 (by omega)] at hx'
    subst hk'
    have hold : (Builtin.firstCells i.size (a - 0) (.slice (some ⟨g, 0 * 1, none⟩) (a - 0) (c - 0))).run P w.drew = .ok ((us.take a).flatMap vcs).toArray w.drew := by
      rw [q3]
      refine run_firstCells_some w.drew 1 (a - 0) ⟨g, 0 * 1, none⟩ (a - 0) (c - 0) ((us.take a).flatMap vcs) (by rw [← zcn hz, List.length_take, hf]; omega) (fun j u hj => ?_)
      rw [add0, Nat.zero_mul, Nat.zero_add]
      rw [← zcn hz, List.getElem?_take] at hj
      split at hj
      · have h1 := (List.getElem?_eq_some_iff.1 hj).1
        have := hB.at_.2 j u (by rw [List.getElem?_append_left h1]; exact hj)
        have e : w.drew.cell? ⟨g, j, none⟩ = w.cell? ⟨g, j, none⟩ := rfl
        rw [e]; simpa using this
      · cases hj
    have hu63 : ((a - 0 + k : Nat) : Int) ≤ 9223372036854775807 := by unfold maxLen at hl; omega
    have hk48 : k * i.bytes ≤ 281474976710656 := by
      rw [q4]; have : k * by_ ≤ (a + k) * by_ := Nat.mul_le_mul_right _ (by omega)
      omega
    have hrun := Lib.run_append_grow_zeros (P := P) w t tn ty T i zv kq kn ht htn q1 q2 (some ⟨g, 0 * 1, none⟩) (a - 0) (c - 0) _ hold k hk0 (by omega) (by omega) hu63 hk48 (by rw [q4]; exact growslice_fits (by omega) (by simpa using hb))
    have hn : New w (w.drew.alloc (.cells (((us.take a).flatMap vcs).toArray ++ Builtin.zeroCells zv.cells k ++ Builtin.zeroCells zv.cells (grownCap w (a - 0 + k) (c - 0) T - (a - 0 + k))) T)) w.heap.size T (((us.take a).flatMap vcs).toArray ++ Builtin.zeroCells zv.cells k ++ Builtin.zeroCells zv.cells (grownCap w (a - 0 + k) (c - 0) T - (a - 0 + k))).toList := by
      have n0 := New.mk' w.drew T (((us.take a).flatMap vcs).toArray ++ Builtin.zeroCells zv.cells k ++ Builtin.zeroCells zv.cells (grownCap w (a - 0 + k) (c - 0) T - (a - 0 + k)))
      exact ⟨rfl, n0.box, (Ext.drew w).trans n0.ext, n0.size⟩
    have hzc : ∀ n, (Builtin.zeroCells zv.cells n).toList = List.replicate n zv := by
      intro n
      rw [zci hz1]
      unfold Builtin.zeroCells
      have hf : (fun i => (#[zv] : Array Value)[i % (#[zv] : Array Value).size]!) = fun _ => zv := by
        funext i
        have : i % (#[zv] : Array Value).size = 0 := Nat.mod_one i
        rw [this]; rfl
      rw [hf, Array.toList_map, List.map_const']
      simp
    refine EOp.of_run (by simp only [execOp, zao, resolve, invoke, builtin, Sem.run_bind, Sem.run_pure, Result.andThen_ok, List.map_toArray, List.map_cons, List.map_nil, hx', hy', hrun]; rfl) ?_
    have hG := grownCap_ge w (a - 0 + k) (c - 0) T
    have hG2 := grownCap_le_maxLen w (a - 0 + k) (c - 0) T (by simpa using hl)
    have hrep : ∀ {w' : World} n, RepE w' F 1 (List.replicate n d) (List.replicate n zv) := fun n => RepE.rep n (hd.out _ _ _ rfl) (One.one hz1) (by rw [zci hz1]; rfl)
    have hrz : ∀ n : Nat, (List.replicate n zv).flatMap vcs = List.replicate n zv := by
      intro n; induction n with
      | zero => rfl
      | succ n ih => rw [List.replicate_succ, List.flatMap_cons, ih, vcs_one hz1]; rfl
    have hr2 := (hr.take a).app (hrep (w' := w) k)
    have hl2 : (us.take a ++ List.replicate k zv).length = a - 0 + k := by rw [List.length_append, List.length_take, List.length_replicate]; omega
    refine ⟨F, _, _, ⟨_, rfl, rfl⟩, ⟨rfl, rfl⟩, gd.born hn ⟨us.take a ++ List.replicate k zv, hr2.keep (Keep.ext hn.ext), ?_⟩ (fun b e => by cases e; rfl), Keep.ext hn.ext⟩
    have hbx := hn.box
    have e : (((us.take a).flatMap vcs).toArray ++ Builtin.zeroCells zv.cells k ++ Builtin.zeroCells zv.cells (grownCap w (a - 0 + k) (c - 0) T - (a - 0 + k))).toList = (us.take a ++ List.replicate k zv).flatMap vcs ++ List.replicate (grownCap w (a - 0 + k) (c - 0) T - (a - 0 + k)) zv := by
      rw [Array.toList_append, Array.toList_append, hzc, hzc, List.flatMap_append, hrz]
    rw [e] at hbx
    refine Own.mkBox hbx ?_ hr2.size hl2 hG hG2
    rw [List.length_append, List.flatMap_append, hrz, List.length_append, ← zcn hz, List.length_take, hf, List.length_replicate, List.length_replicate]; omega⟩
theorem Box.shape {w : World} {g : Nat} {T : TypeId} {cs : List Value} (h : Box w g T cs) : w.shape? g = some (T, cs.length) := by
  unfold Box at h; unfold World.shape?; rw [h]; simp
end
end Lp
