/- Walks, printed by a program of mine. -/
import Derived.Test.YtfjinapgehafiaaGreatDIns
set_option linter.unusedSimpArgs false
set_option linter.unusedVariables false
set_option maxHeartbeats 4000000
set_option maxRecDepth 100000
namespace Lp
open Go Go.RowKit Go.Proofs

namespace HdYtfjinapgehafiaaGreatV72
theorem infz_22 : ∃ i, Tryz.prog.info? 22 = some i ∧ i.zero = some (.slice none 0 0) ∧ i.size = 1 ∧ i.bytes = 24 := za3 (by kernel_rfl)
theorem zdt : Tryz.prog.underlying 36 = some (.slice 22) := by kernel_rfl
end HdYtfjinapgehafiaaGreatV72
open HdYtfjinapgehafiaaGreatV72

theorem cut_one {z a b : Nat} {v : Value} (h : v.oneCell' = true) : (cut z v a b).oneCell' = true := by
  cases v <;> first | exact h | rfl
theorem JD.ov1 {P : Program} {N : Nat} {C : Ctx} {K : Kd} {H : List Hp} {Q : zaG} {c : Code} (t : Nat) {v : Value} (ht : zai K t = some (.ov v)) (k : v.oneCell' = true → JD P N C c K H Q) : JD P N C c K H Q :=
  JD.fact (fun w F ρ hk g => (hk t _ ht).2) k
theorem p_overlaps {ty : TypeId} {K : Kd} {H : List Hp} {x y : Operand} {ats : Array TypeId} {i j a b m : Nat} {u v : Value} {T T' : TypeId} {xs ys : List D} (hx : opO K x = some u) (hi : nth H i = some (.sl u 1 T' ys)) (hy : opD K y = some (.v (cut 1 (cut 1 v 0 m) a b))) (hj : nth H j = some (.sl v 1 T xs)) (hij : Nat.beq i j = false) (hm : m ≤ capV v) (ha : a < m) (hl : 0 < ys.length)
    (hA : H.Pairwise zcO) : Pu Tryz.prog (.call { callee := .value (.func 155), args := #[x, y], argTypes := ats }) ty K H (dB false) :=
  ⟨fun ρ w F hk _ hH => by
    obtain ⟨us, hr, ho⟩ := hH _ (zZ hi)
    obtain ⟨vs, hr', ho'⟩ := hH _ (zZ hj)
    have h1 := ho.len; rw [hr.len] at h1
    obtain ⟨A, hu, hle, _, hB⟩ := zcc ho
    rw [hr.len] at hu hle
    obtain ⟨g, r, rfl, hBx, _, hg⟩ := hB (by omega)
    obtain ⟨A', hv, _, _, hB'⟩ := zcc ho'
    obtain ⟨g', r', rfl, hBx', hl', hg'⟩ := hB' (by omega)
    have hne : g ≠ g' := by
      intro e
      have hi' : H[i]? = _ := (za1 H i).symm.trans hi
      have hj' : H[j]? = _ := (za1 H j).symm.trans hj
      exact pair_get (fun _ _ => zcO.symm) hA hi' hj' (fun e => by rw [e, Nat.beq_refl] at hij; cases hij) g hg (by show v.ownBlock = _; rw [hg', e])
    have hx' : ev ρ x = _ := hk.opO hx
    have hy' : ev ρ y = _ := hk.op hy
    generalize hcv : capV v = c at *
    rw [hu] at hx'
    have e0 : cut 1 v 0 m = vS g' m c := by rw [hv, zc7 (by omega)]; simp
    rw [e0, zc7 (by omega)] at hy'
    have hrun : (callFunc 155 #[ev ρ x, ev ρ y]).run Tryz.prog w = .ok (.value (.bool false)) w := by
      rw [hx', hy', run_callFunc_extern Tryz.func155 (by kernel_rfl) (by kernel_rfl) (by kernel_rfl) (e := Extern.SlicesOverlaps.overlaps #[36, 36] #[4]) (by kernel_rfl)]
      rw [Lib.run_overlaps_apart w 36 4 22 (show Tryz.prog.underlying 36 = some (.slice 22) by kernel_rfl) 1 Tryz.sizeOf22 ⟨g, 0, none⟩ ⟨g', a * 1, none⟩ _ _ _ _ hne _ _ _ _ hBx.shape hBx'.shape (by omega) (hBx.frozen 0) (hBx.frozen _)]
      rfl
    have e2 : ev ρ (.func 155) = .func (.func 155) #[] #[] := rfl
    exact EOp.of_run (v := .bool false) (w' := w) (by simp [execOp, zao, resolve, e2, Deferred.ofValue, invoke, hrun]) ⟨rfl, rfl⟩⟩
theorem OpsD.apart {P : Program} {N : Nat} {C : Ctx} {K : Kd} {H : List Hp} {ops : List Oper} {i : Nat} {Kt : Env → World → (Nat → Prop) → Prop} (k : H.Pairwise zcO → OpsD P N C ops i K H Kt) : OpsD P N C ops i K H Kt := OpsD.fact (fun _ _ _ _ g => g.h.apart) k

theorem ins_end {xs : List D} {y : D} {i : Nat} (h : i = xs.length) : xs ++ [y] = xs.take i ++ y :: xs.drop i := by
  subst h; simp
theorem ins_shift {xs : List D} {y : D} {i : Nat} (h : i < xs.length) : (xs.take (i + 1) ++ xs.drop i).take i ++ [y] ++ (xs.take (i + 1) ++ xs.drop i).drop (i + [y].length) = xs.take i ++ y :: xs.drop i := by
  rw [List.take_append_of_le_length (by rw [List.length_take]; omega), List.take_take, Nat.min_eq_left (by omega), show [y].length = 1 from rfl, List.drop_append, List.drop_eq_nil_of_le (by rw [List.length_take]; omega), List.length_take, show i + 1 - min (i + 1) xs.length = 0 by omega]
  simp
theorem ins_grow {xs : List D} {y z : D} {i : Nat} (h : i < xs.length) : ((xs.take i ++ List.replicate (xs.length + 1 - i) z).take i ++ [y] ++ (xs.take i ++ List.replicate (xs.length + 1 - i) z).drop (i + [y].length)).take (i + 1) ++ ((xs.take xs.length).drop i) ++ ((xs.take i ++ List.replicate (xs.length + 1 - i) z).take i ++ [y] ++ (xs.take i ++ List.replicate (xs.length + 1 - i) z).drop (i + [y].length)).drop (i + 1 + ((xs.take xs.length).drop i).length) = xs.take i ++ y :: xs.drop i := by
  have h1 : (xs.take i ++ List.replicate (xs.length + 1 - i) z).take i = xs.take i := by rw [List.take_append_of_le_length (by rw [List.length_take]; omega), List.take_take, Nat.min_self]
  have hl : (xs.take i ++ [y]).length = i + 1 := by simp; omega
  generalize hD : (xs.take i ++ List.replicate (xs.length + 1 - i) z).drop (i + [y].length) = D
  have hDl : D.length = xs.length - i := by rw [← hD, List.length_drop, List.length_append, List.length_take, List.length_replicate]; show _ - (i + 1) = _; omega
  rw [h1, List.take_left' hl, List.take_length]
  have hd : (xs.take i ++ [y] ++ D).drop (i + 1 + (xs.drop i).length) = [] := List.drop_eq_nil_of_le (by rw [List.length_append, hl, hDl, List.length_drop]; omega)
  rw [hd]
  simp

theorem insert_c (v u : Value) (xs : List D) (y : D) (i : Nat) (hi : i ≤ xs.length) (hl : xs.length ≤ 1000000) :
    CD Tryz.prog 107 [.sl v 1 22 (xs), .sl u 1 22 ([y])] [.ov v, dN i, .ov u] (fun r H' => ∃ v', r = .ov v' ∧ H' = [.sl v' 1 22 (xs.take i ++ y :: xs.drop i)]) := by
  refine zq Tryz.func107 rfl (N := 95) rfl rfl (fun C => ?_)
  refine jk [0, 1, 2] rfl ?_
  refine JD.ov1 0 rfl (fun ho1 => ?_)
  refine jT rfl (oR 1 rfl (oZ rfl (jT rfl (oR 2 rfl (oP rfl (zan (a := i) (b := xs.length) (j := 0) rfl rfl rfl rfl (by first | rfl | (show _ = _; omega) | (show _ = _; simp only [la, lc, ln, lm, lt', ld, ls, lr]; omega)) (by first | rfl | (show _ = _; omega) | (show _ = _; simp only [la, lc, ln, lm, lt', ld, ls, lr]; omega)) Tryz.runUnderlying36 Tryz.sizeOf22 (by omega) (by first | rfl | omega | (simp only [la, lc, ln, lm, lt', ld, ls, lr]; omega))) (oZ rfl (jT rfl (oR 1 rfl (oP rfl (zU (n := 1) (j := 1) rfl rfl Tryz.runUnderlying36 (by first | rfl | omega | (simp only [la, lc, ln, lm, lt', ld, ls, lr]; omega))) (oR 1 rfl (oZ rfl (jS rfl (jT rfl (oR 1 rfl (oP rfl (zR rfl rfl rfl) (oZ rfl ?_))))))))))))))))
  refine jD rfl (fun hc1 => ?_) (fun hc1 => ?_)
  · skip
    exfalso; omega
  · skip
    refine zj rfl (zb (jT rfl (oR 1 rfl (oP rfl (zU (n := xs.length) (j := 0) rfl rfl Tryz.runUnderlying36 (by first | rfl | omega | (simp only [la, lc, ln, lm, lt', ld, ls, lr]; omega))) (oR 1 rfl (oZ rfl (jk [0, 1, 2, 6, 7, 8] rfl (jS rfl (jT rfl (oR 2 rfl (oP rfl (zR rfl rfl rfl) (oZ rfl ?_))))))))))))
    refine jD rfl (fun hc2 => ?_) (fun hc2 => ?_)
    · skip
      have hi2 : i = xs.length := by omega
      refine jT rfl (oR 2 rfl (oE rfl (ef_append (i := 0) rfl rfl rfl (SrcD.own (j := 1) rfl rfl) zdt infz_22 rfl rfl (by unfold maxLen; show _ + 1 ≤ _; omega) (by show (_ + 1) * _ ≤ _; omega)) ?_))
      rintro _ _ ⟨v3, rfl, rfl⟩
      refine on rfl (oR 1 rfl (oZ rfl (zm rfl (zd (PD.norm [.sl v3 1 22 (xs.take i ++ y :: xs.drop i), .sl u 1 22 ([y])] (by rw [show xs ++ [y] = xs.take i ++ y :: xs.drop i from by first | exact ins_end hi2 | exact ins_grow hi3 | exact ins_shift hi3]) ?_)))))
      exact zl Tryz.results107 (.cons (zh rfl) .nil) rfl (HSub.fst 1 rfl) ⟨v3, rfl, rfl⟩
    · skip
      have hi3 : i < xs.length := by omega
      refine zj rfl (zb (jS rfl (jT rfl (oR 2 rfl (oP rfl (zO (c := ((xs.length + 1 : Nat) : Int)) rfl rfl (zB (by omega) (by omega))) (oR 1 rfl ?_))))))
      refine OpsD.cap 0 rfl (fun hc1 hc2 => ?_)
      refine oP rfl (p_cap (j := 0) rfl rfl Tryz.runUnderlying36) (oP rfl (zah rfl rfl rfl) (oZ rfl ?_))
      refine jD rfl (fun hc4 => ?_) (fun hc4 => ?_)
      · skip
        refine jT rfl (oR 2 rfl (oP rfl (zan (a := 0) (b := i) (j := 0) rfl rfl rfl rfl (by first | rfl | (show _ = _; omega) | (show _ = _; simp only [la, lc, ln, lm, lt', ld, ls, lr]; omega)) (by first | rfl | (show _ = _; omega) | (show _ = _; simp only [la, lc, ln, lm, lt', ld, ls, lr]; omega)) Tryz.runUnderlying36 Tryz.sizeOf22 (by omega) (by first | rfl | omega | (simp only [la, lc, ln, lm, lt', ld, ls, lr]; omega))) (oR 2 rfl (oP rfl (zO (c := ((xs.length + 1 : Nat) : Int)) rfl rfl (zB (by omega) (by omega))) (oR 1 rfl (oP rfl (zav (c := (((xs.length + 1) - i : Nat) : Int)) rfl rfl (zB (by omega) (by omega))) (oE rfl (ef_append_zeros (j := 0) (k := xs.length + 1 - i) rfl rfl rfl (by first | rfl | omega) zdt (show Tryz.prog.underlying 3 = some (.int .i64) by kernel_rfl) infz_22 rfl Cv.rfl' (by omega) (by omega) (by omega) (by omega) (by omega) (by unfold maxLen; omega)) ?_)))))))
        rintro _ _ ⟨v5, rfl, rfl⟩
        refine on rfl (oR 1 rfl (oZ rfl (jk [0, 1, 2, 6, 7, 8, 9] rfl (jT rfl (oR 2 rfl (oP rfl (zan (a := i) (b := xs.length + 1) (j := 0) rfl rfl rfl rfl (by first | rfl | (show _ = _; omega) | (show _ = _; simp only [la, lc, ln, lm, lt', ld, ls, lr]; omega)) (by first | rfl | (show _ = _; omega) | (show _ = _; simp only [la, lc, ln, lm, lt', ld, ls, lr]; omega)) Tryz.runUnderlying36 Tryz.sizeOf22 (by omega) (by first | rfl | omega | (simp only [la, lc, ln, lm, lt', ld, ls, lr]; omega))) (oR 1 rfl (oE rfl (ef_copy_in (i := 0) (a := i) (b := xs.length + 1) rfl rfl rfl (SrcD.own (j := 2) rfl rfl) zdt Tryz.sizeOf22 Nat.zero_lt_one (by first | rfl | omega | (simp only [la, lc, ln, lm, lt', ld, ls, lr]; omega)) (by first | rfl | omega | (simp only [la, lc, ln, lm, lt', ld, ls, lr]; omega)) (by first | rfl | omega | (simp only [la, lc, ln, lm, lt', ld, ls, lr]; omega))) ?_))))))))
        rintro _ _ ⟨rfl, rfl⟩
        refine on rfl (oZ rfl (jS rfl (jk [0, 1, 2, 6, 7, 8, 9, 41, 42, 43, 44, 45] rfl (jn rfl ?_))))
        refine zW 8 [(46, .ov v5, none), (47, dN i, none), (48, dI 1, none), (49, dN (i + 1), none), (50, .v (cut 1 v5 (i + 1) (xs.length + 1)), none), (51, .ov v, none), (52, dN i, none), (53, .v (cut 1 v i xs.length), none)] [.sl v5 1 22 ((xs.take i ++ List.replicate (xs.length + 1 - i) (D.v (.slice none 0 0))).take i ++ [y] ++ (xs.take i ++ List.replicate (xs.length + 1 - i) (D.v (.slice none 0 0))).drop (i + ([y]).length)), .sl v 1 22 (xs), .sl u 1 22 ([y])] (Hn := [.sl v5 1 22 ((xs.take i ++ List.replicate (xs.length + 1 - i) (D.v (.slice none 0 0))).take i ++ [y] ++ (xs.take i ++ List.replicate (xs.length + 1 - i) (D.v (.slice none 0 0))).drop (i + ([y]).length)), .sl v 1 22 (xs), .sl u 1 22 ([y])]) mixed rfl rfl rfl rfl HSub.rfl' rfl ⟨sa_p rfl rfl rfl (zc rfl), sa_p rfl rfl rfl (zc rfl), sa_p rfl rfl rfl (zc rfl), sa_p rfl rfl rfl (zO (c := ((i + 1 : Nat) : Int)) rfl rfl (zB (by omega) (by omega))), sa_p rfl rfl rfl (zan (a := i + 1) (b := xs.length + 1) (j := 0) rfl rfl rfl rfl (by first | rfl | (show _ = _; omega) | (show _ = _; simp only [la, lc, ln, lm, lt', ld, ls, lr]; omega)) (by first | rfl | (show _ = _; omega) | (show _ = _; simp only [la, lc, ln, lm, lt', ld, ls, lr]; omega)) Tryz.runUnderlying36 Tryz.sizeOf22 (by omega) (by first | rfl | omega | (simp only [la, lc, ln, lm, lt', ld, ls, lr]; omega))), sa_p rfl rfl rfl (zc rfl), sa_p rfl rfl rfl (zc rfl), sa_p rfl rfl rfl (zan (a := i) (b := xs.length) (j := 1) rfl rfl rfl rfl (by first | rfl | (show _ = _; omega) | (show _ = _; simp only [la, lc, ln, lm, lt', ld, ls, lr]; omega)) (by first | rfl | (show _ = _; omega) | (show _ = _; simp only [la, lc, ln, lm, lt', ld, ls, lr]; omega)) Tryz.runUnderlying36 Tryz.sizeOf22 (by omega) (by first | rfl | omega | (simp only [la, lc, ln, lm, lt', ld, ls, lr]; omega))), trivial⟩ ?_
        refine ok [0, 1, 2, 6, 7, 8, 9, 41, 42, 43, 44, 45, 46, 47, 48, 49, 50, 51, 52, 53] rfl (oE rfl (ef_copy_in (i := 0) (a := i + 1) (b := xs.length + 1) rfl rfl rfl (SrcD.cut (j := 1) rfl (by omega) (by omega)) zdt Tryz.sizeOf22 (by show 0 < _; simp only [la, lc, ln, lm, lt', ld, ls, lr]; omega) (by first | rfl | omega | (simp only [la, lc, ln, lm, lt', ld, ls, lr]; omega)) (by first | rfl | omega | (simp only [la, lc, ln, lm, lt', ld, ls, lr]; omega)) (by first | rfl | omega | (simp only [la, lc, ln, lm, lt', ld, ls, lr]; omega))) ?_)
        rintro _ _ ⟨rfl, rfl⟩
        refine on rfl (oZ rfl (jk [0, 1, 2, 6, 7, 8, 9] rfl (jT rfl (oR 2 rfl (oZ rfl (zm rfl (zd (PD.norm [.sl v5 1 22 (xs.take i ++ y :: xs.drop i), .sl v 1 22 (xs), .sl u 1 22 ([y])] (by rw [show ((xs.take i ++ List.replicate (xs.length + 1 - i) (D.v (.slice none 0 0))).take i ++ [y] ++ (xs.take i ++ List.replicate (xs.length + 1 - i) (D.v (.slice none 0 0))).drop (i + ([y]).length)).take (i + 1) ++ ((xs.take xs.length).drop i) ++ ((xs.take i ++ List.replicate (xs.length + 1 - i) (D.v (.slice none 0 0))).take i ++ [y] ++ (xs.take i ++ List.replicate (xs.length + 1 - i) (D.v (.slice none 0 0))).drop (i + ([y]).length)).drop ((i + 1) + ((xs.take xs.length).drop i).length) = xs.take i ++ y :: xs.drop i from by first | exact ins_end hi2 | exact ins_grow hi3 | exact ins_shift hi3]) ?_))))))))
        exact zl Tryz.results107 (.cons (zh rfl) .nil) rfl (HSub.fst 1 rfl) ⟨v5, rfl, rfl⟩
      · skip
        refine zj rfl (zb (jk [0, 1, 2, 6, 7, 8] rfl (jT rfl (oR 3 rfl (oP rfl (zO (c := ((xs.length + 1 : Nat) : Int)) rfl rfl (zB (by omega) (by omega))) (oP rfl (p_slice_more (b := xs.length + 1) (j := 0) rfl rfl rfl rfl (by first | rfl | (show _ = _; omega) | (show _ = _; simp only [la, lc, ln, lm, lt', ld, ls, lr]; omega)) (by first | rfl | (show _ = _; omega) | (show _ = _; simp only [la, lc, ln, lm, lt', ld, ls, lr]; omega)) Tryz.runUnderlying36 Tryz.sizeOf22 (by omega)) (oR 1 rfl (oZ rfl (jS rfl (jT rfl (oR 4 rfl (oP rfl (zO (c := ((i + 1 : Nat) : Int)) rfl rfl (zB (by omega) (by omega))) (oP rfl (p_slice_part (a := i + 1) (b := xs.length + 1) (j := 0) rfl rfl rfl rfl (by first | rfl | (show _ = _; omega) | (show _ = _; simp only [la, lc, ln, lm, lt', ld, ls, lr]; omega)) (by first | rfl | (show _ = _; omega) | (show _ = _; simp only [la, lc, ln, lm, lt', ld, ls, lr]; omega)) Tryz.runUnderlying36 Tryz.sizeOf22 (by omega) (by omega) (by omega) (by omega)) ?_)))))))))))))
        refine OpsD.apart (fun hap => ?_)
        refine oP rfl (p_overlaps (i := 1) (j := 0) rfl rfl rfl rfl rfl (by omega) (by omega) (Nat.zero_lt_one) hap) (oR 1 rfl (oZ rfl (jk [0, 1, 2, 6, 7, 8, 68] rfl (jCt rfl (jS rfl (jk [0, 1, 2, 6, 7, 8, 68] rfl (jn rfl ?_)))))))
        refine zW 8 [(69, .v (cut 1 v 0 (xs.length + 1)), none), (70, dN i, none), (71, dI 1, none), (72, dN (i + 1), none), (73, .v (cut 1 (cut 1 v 0 (xs.length + 1)) (i + 1) (xs.length + 1)), none), (74, .v (cut 1 v 0 (xs.length + 1)), none), (75, dN i, none), (76, .v (cut 1 (cut 1 v 0 (xs.length + 1)) i (xs.length + 1)), none)] [.sl v 1 22 (xs), .sl u 1 22 ([y])] (Hn := [.sl v 1 22 (xs), .sl u 1 22 ([y])]) mixed rfl rfl rfl rfl HSub.rfl' rfl ⟨sa_p rfl rfl rfl (zc rfl), sa_p rfl rfl rfl (zc rfl), sa_p rfl rfl rfl (zc rfl), sa_p rfl rfl rfl (zO (c := ((i + 1 : Nat) : Int)) rfl rfl (zB (by omega) (by omega))), sa_p rfl rfl rfl (p_slice_part (a := i + 1) (b := xs.length + 1) (j := 0) rfl rfl rfl rfl (by first | rfl | (show _ = _; omega) | (show _ = _; simp only [la, lc, ln, lm, lt', ld, ls, lr]; omega)) (by first | rfl | (show _ = _; omega) | (show _ = _; simp only [la, lc, ln, lm, lt', ld, ls, lr]; omega)) Tryz.runUnderlying36 Tryz.sizeOf22 (by omega) (by omega) (by omega) (by omega)), sa_p rfl rfl rfl (zc rfl), sa_p rfl rfl rfl (zc rfl), sa_p rfl rfl rfl (p_slice_part (a := i) (b := xs.length + 1) (j := 0) rfl rfl rfl rfl (by first | rfl | (show _ = _; omega) | (show _ = _; simp only [la, lc, ln, lm, lt', ld, ls, lr]; omega)) (by first | rfl | (show _ = _; omega) | (show _ = _; simp only [la, lc, ln, lm, lt', ld, ls, lr]; omega)) Tryz.runUnderlying36 Tryz.sizeOf22 (by omega) (by omega) (by omega) (by omega)), trivial⟩ ?_
        refine ok [0, 1, 2, 6, 7, 8, 68, 69, 70, 71, 72, 73, 74, 75, 76] rfl (oE rfl (ef_copy_shift (i := 0) (a := i) (n := xs.length) rfl rfl rfl rfl zdt Tryz.sizeOf22 (by omega) (by omega)) ?_)
        rintro _ _ ⟨rfl, rfl⟩
        refine on rfl (oZ rfl (jk [0, 1, 2, 6, 7, 8] rfl (jT rfl (oR 2 rfl (oP rfl (zan (a := i) (b := xs.length + 1) (j := 0) rfl rfl rfl rfl (by first | rfl | (show _ = _; omega) | (show _ = _; simp only [la, lc, ln, lm, lt', ld, ls, lr]; omega)) (by first | rfl | (show _ = _; omega) | (show _ = _; simp only [la, lc, ln, lm, lt', ld, ls, lr]; omega)) Tryz.runUnderlying36 Tryz.sizeOf22 (by omega) (by first | rfl | omega | (simp only [la, lc, ln, lm, lt', ld, ls, lr]; omega))) (oR 1 rfl (oE rfl (ef_copy_in (i := 0) (a := i) (b := xs.length + 1) rfl rfl rfl (SrcD.own (j := 1) rfl rfl) zdt Tryz.sizeOf22 Nat.zero_lt_one (by first | rfl | omega | (simp only [la, lc, ln, lm, lt', ld, ls, lr]; omega)) (by first | rfl | omega | (simp only [la, lc, ln, lm, lt', ld, ls, lr]; omega)) (by first | rfl | omega | (simp only [la, lc, ln, lm, lt', ld, ls, lr]; omega))) ?_)))))))
        rintro _ _ ⟨rfl, rfl⟩
        refine on rfl (oZ rfl (jT rfl (oR 2 rfl (oZ rfl (zm rfl (zd (PD.norm [.sl (cut 1 v 0 (xs.length + 1)) 1 22 (xs.take i ++ y :: xs.drop i), .sl u 1 22 ([y])] (by rw [show (xs.take (i + 1) ++ xs.drop i).take i ++ [y] ++ (xs.take (i + 1) ++ xs.drop i).drop (i + ([y]).length) = xs.take i ++ y :: xs.drop i from by first | exact ins_end hi2 | exact ins_grow hi3 | exact ins_shift hi3]) ?_)))))))
        exact zl Tryz.results107 (.cons (zx (zh rfl) (Cv.ov (cut_one ho1))) .nil) rfl (HSub.fst 1 rfl) ⟨(cut 1 v 0 (xs.length + 1)), rfl, rfl⟩
end Lp
/-
  Groups of rows (chapter 11), as plain data: rows with the same key together, the groups in the order of their keys.
-/
set_option linter.unusedVariables false
namespace Lp
open Go
def byL (mode : Int) (ns : List ByteArray) (l : List Lbl) : List Lbl := if mode = 1 ∨ mode = 2 then keyL mode ns l else []
section
variable (κ : RowD → List Lbl)
def zaF : List RowD → List Lbl
  | [] => []
  | x :: _ => κ x
def insG : List (List RowD) → RowD → List (List RowD)
  | [], r => [[r]]
  | g :: gs, r => if zM (zaF κ g) (κ r) < 0 then g :: insG gs r else if zaF κ g = κ r then (g ++ [r]) :: gs else [r] :: g :: gs
def zaT (l : List RowD) : List (List RowD) := l.foldl (insG κ) []
/-- no group is empty, and their keys stand in order, each once -/
structure GOk (gs : List (List RowD)) : Prop where
  ne : ∀ g ∈ gs, g ≠ []
  lt : gs.Pairwise (fun a b => zM (zaF κ a) (zaF κ b) < 0)
end
section
variable {κ : RowD → List Lbl} {gs : List (List RowD)} {r : RowD}
theorem cmpLs_lt {a b c : List Lbl} (h1 : zM a b < 0) (h2 : zM b c < 0) : zM a c < 0 := (zcL a b c).lt1 h1 (by omega)
theorem cmpLs_gt {a b : List Lbl} (h : ¬ zM a b < 0) (hne : a ≠ b) : zM b a < 0 := by
  have h1 := zcM a b
  have h2 : zM a b ≠ 0 := fun e => hne (zcN.1 e)
  omega
theorem headK_app {g : List RowD} (h : g ≠ []) : zaF κ (g ++ [r]) = zaF κ g := by cases g with
  | nil => exact absurd rfl h
  | cons x g => rfl
theorem insG_head (h : GOk κ gs) : ∀ g ∈ insG κ gs r, zaF κ g = κ r ∨ ∃ g' ∈ gs, zaF κ g = zaF κ g' := by
  induction gs with
  | nil => intro g hg; rw [show insG κ [] r = [[r]] from rfl, List.mem_singleton] at hg; subst hg; exact .inl rfl
  | cons a gs ih =>
    have h' : GOk κ gs := ⟨fun g hg => h.ne g (List.mem_cons_of_mem _ hg), (List.pairwise_cons.1 h.lt).2⟩
    intro g hg
    unfold insG at hg
    split at hg
    · rcases List.mem_cons.1 hg with e | e
      · exact .inr ⟨a, List.mem_cons_self, by rw [e]⟩
      · rcases ih h' g e with e | ⟨g', h1, h2⟩
        · exact .inl e
        · exact .inr ⟨g', List.mem_cons_of_mem _ h1, h2⟩
    · split at hg
      · rcases List.mem_cons.1 hg with e | e
        · exact .inr ⟨a, List.mem_cons_self, by rw [e, headK_app (h.ne a List.mem_cons_self)]⟩
        · exact .inr ⟨g, List.mem_cons_of_mem _ e, rfl⟩
      · rcases List.mem_cons.1 hg with e | e
        · exact .inl (by rw [e]; rfl)
        · exact .inr ⟨g, e, rfl⟩
theorem insG_ok (h : GOk κ gs) : GOk κ (insG κ gs r) := by
  induction gs with
  | nil => exact ⟨fun g hg => by rw [show insG κ [] r = [[r]] from rfl, List.mem_singleton] at hg; subst hg; simp, List.pairwise_singleton _ _⟩
  | cons a gs ih =>
    have hp := List.pairwise_cons.1 h.lt
    have h' : GOk κ gs := ⟨fun g hg => h.ne g (List.mem_cons_of_mem _ hg), hp.2⟩
    have ha := h.ne a List.mem_cons_self
    unfold insG
    split
    · rename_i hlt
      have i := ih h'
      refine ⟨fun g hg => ?_, List.pairwise_cons.2 ⟨fun g hg => ?_, i.lt⟩⟩
      · rcases List.mem_cons.1 hg with e | e
        · rw [e]; exact ha
        · exact i.ne g e
      · rcases insG_head h' g hg with e | ⟨g', h1, h2⟩
        · rw [e]; exact hlt
        · rw [h2]; exact hp.1 g' h1
    · rename_i hlt
      split
      · rename_i he
        refine ⟨fun g hg => ?_, List.pairwise_cons.2 ⟨fun g hg => ?_, hp.2⟩⟩
        · rcases List.mem_cons.1 hg with e | e
          · rw [e]; simp
          · exact h'.ne g e
        · rw [headK_app ha]; exact hp.1 g hg
      · rename_i he
        have hr : zM (κ r) (zaF κ a) < 0 := cmpLs_gt hlt he
        refine ⟨fun g hg => ?_, List.pairwise_cons.2 ⟨fun g hg => ?_, h.lt⟩⟩
        · rcases List.mem_cons.1 hg with e | e
          · rw [e]; simp
          · exact h.ne g e
        · rcases List.mem_cons.1 hg with e | e
          · rw [e]; exact hr
          · exact cmpLs_lt hr (hp.1 g e)
theorem splitG_snoc {l : List RowD} {k : Nat} {x : RowD} (h : l[k]? = some x) : zaT κ (l.take (k + 1)) = insG κ (zaT κ (l.take k)) x := by
  unfold zaT; rw [zab h, List.foldl_append]; rfl
theorem zcy (l : List RowD) : GOk κ (zaT κ l) := by
  unfold zaT
  generalize hs : ([] : List (List RowD)) = s
  have h0 : GOk κ s := by rw [← hs]; exact ⟨fun _ h => (by cases h), List.Pairwise.nil⟩
  clear hs
  induction l generalizing s with
  | nil => exact h0
  | cons x l ih => exact ih _ (insG_ok h0)
theorem insG_len : (insG κ gs r).length ≤ gs.length + 1 := by
  induction gs with
  | nil => exact Nat.le_refl _
  | cons a gs ih =>
    unfold insG; split
    · simp only [List.length_cons]; omega
    · split <;> simp only [List.length_cons] <;> omega
theorem splitG_len (l : List RowD) : (zaT κ l).length ≤ l.length := by
  unfold zaT
  have : ∀ s : List (List RowD), (l.foldl (insG κ) s).length ≤ s.length + l.length := by
    induction l with
    | nil => intro s; exact Nat.le_refl _
    | cons x l ih => intro s; have := ih (insG κ s x); have := @insG_len κ s x; simp only [List.foldl_cons, List.length_cons]; omega
  simpa using this []
theorem splitG_rows (l : List RowD) : ∀ g ∈ zaT κ l, g.length ≤ l.length := by
  unfold zaT
  have hi : ∀ (gs : List (List RowD)) (r : RowD) (n : Nat), (∀ g ∈ gs, g.length ≤ n) → ∀ g ∈ insG κ gs r, g.length ≤ n + 1 := by
    intro gs r n h
    induction gs with
    | nil => intro g hg; rw [show insG κ [] r = [[r]] from rfl, List.mem_singleton] at hg; subst hg; simp
    | cons a gs ih =>
      have ha := h a List.mem_cons_self
      intro g hg
      unfold insG at hg
      split at hg
      · rcases List.mem_cons.1 hg with e | e
        · rw [e]; omega
        · exact ih (fun g hg => h g (List.mem_cons_of_mem _ hg)) g e
      · split at hg
        · rcases List.mem_cons.1 hg with e | e
          · rw [e]; simp; omega
          · exact Nat.le_succ_of_le (h g (List.mem_cons_of_mem _ e))
        · rcases List.mem_cons.1 hg with e | e
          · rw [e]; simp
          · exact Nat.le_succ_of_le (h g e)
  have : ∀ (s : List (List RowD)) (n : Nat), (∀ g ∈ s, g.length ≤ n) → ∀ g ∈ l.foldl (insG κ) s, g.length ≤ n + l.length := by
    induction l with
    | nil => intro s n h; exact h
    | cons x l ih => intro s n h g hg; have := ih _ (n + 1) (hi s x n h) g hg; simp only [List.length_cons]; omega
  intro g hg
  have := this [] 0 (fun _ h => by cases h) g hg
  omega
theorem splitG_mem (l : List RowD) : ∀ g ∈ zaT κ l, ∀ x ∈ g, x ∈ l := by
  unfold zaT
  have hi : ∀ (gs : List (List RowD)) (r : RowD) (p : RowD → Prop), p r → (∀ g ∈ gs, ∀ x ∈ g, p x) → ∀ g ∈ insG κ gs r, ∀ x ∈ g, p x := by
    intro gs r p hr h
    induction gs with
    | nil => intro g hg x hx; rw [show insG κ [] r = [[r]] from rfl, List.mem_singleton] at hg; subst hg; rw [List.mem_singleton.1 hx]; exact hr
    | cons a gs ih =>
      have ih := ih (fun g hg => h g (List.mem_cons_of_mem _ hg))
      intro g hg x hx
      unfold insG at hg
      split at hg
      · rcases List.mem_cons.1 hg with e | e
        · exact h a List.mem_cons_self x (e ▸ hx)
        · exact ih g e x hx
      · split at hg
        · rcases List.mem_cons.1 hg with e | e
          · rw [e] at hx
            rcases List.mem_append.1 hx with hx | hx
            · exact h a List.mem_cons_self x hx
            · rw [List.mem_singleton.1 hx]; exact hr
          · exact h g (List.mem_cons_of_mem _ e) x hx
        · rcases List.mem_cons.1 hg with e | e
          · rw [e] at hx; rw [List.mem_singleton.1 hx]; exact hr
          · exact h g e x hx
  have : ∀ (m : List RowD) (s : List (List RowD)) (p : RowD → Prop), (∀ x ∈ m, p x) → (∀ g ∈ s, ∀ x ∈ g, p x) → ∀ g ∈ m.foldl (insG κ) s, ∀ x ∈ g, p x := by
    intro m
    induction m with
    | nil => intro s p _ h; exact h
    | cons y m ih => intro s p hm h; exact ih _ p (fun x hx => hm x (List.mem_cons_of_mem _ hx)) (hi s y p (hm y List.mem_cons_self) h)
  exact this l [] (· ∈ l) (fun _ h => h) (fun _ h => by cases h)
/-- where a row goes: what a search by halves finds -/
structure BsOk (κ : RowD → List Lbl) (gs : List (List RowD)) (key : List Lbl) (i : Nat) (f : Bool) : Prop where
  le : i ≤ gs.length
  lo : ∀ t g, t < i → gs[t]? = some g → zM (zaF κ g) key < 0
  hi : ∀ t g, i ≤ t → gs[t]? = some g → ¬ zM (zaF κ g) key < 0
  is : f = true ↔ ∃ g, gs[i]? = some g ∧ zaF κ g = key
theorem insG_at {f : Bool} {i : Nat} (h : BsOk κ gs (κ r) i f) : insG κ gs r = if f = true then gs.set i ((gs[i]?).getD [] ++ [r]) else gs.take i ++ [r] :: gs.drop i := by
  induction gs generalizing i with
  | nil =>
    have hi : i = 0 := by have := h.le; simpa using this
    have hf : f = false := by
      cases f with
      | false => rfl
      | true => obtain ⟨g, hg, _⟩ := h.is.1 rfl; simp at hg
    subst hi; subst hf; rfl
  | cons a gs ih =>
    cases i with
    | zero =>
      have h0 := h.hi 0 a (Nat.le_refl _) rfl
      unfold insG
      rw [if_neg h0]
      by_cases he : zaF κ a = κ r
      · rw [if_pos he, if_pos (h.is.2 ⟨a, rfl, he⟩)]; rfl
      · rw [if_neg he, if_neg (fun e => by obtain ⟨g, hg, h2⟩ := h.is.1 e; simp at hg; subst hg; exact he h2)]; rfl
    | succ i =>
      have h0 := h.lo 0 a (Nat.succ_pos _) rfl
      unfold insG
      rw [if_pos h0, ih (i := i) ⟨by have := h.le; simpa using this, fun t g ht hg => h.lo (t + 1) g (by omega) (by simpa using hg), fun t g ht hg => h.hi (t + 1) g (by omega) (by simpa using hg), by simpa using h.is⟩]
      cases f with
      | true => simp
      | false => simp
theorem GOk.pair (h : GOk κ gs) {s t : Nat} {a b : List RowD} (ha : gs[s]? = some a) (hb : gs[t]? = some b) (hst : s < t) : zM (zaF κ a) (zaF κ b) < 0 := by
  obtain ⟨h1, e1⟩ := List.getElem?_eq_some_iff.1 ha
  obtain ⟨h2, e2⟩ := List.getElem?_eq_some_iff.1 hb
  have := List.pairwise_iff_getElem.1 h.lt s t h1 h2 hst
  rwa [e1, e2] at this
theorem GOk.below (h : GOk κ gs) {s t : Nat} {a b : List RowD} {key : List Lbl} (ha : gs[s]? = some a) (hb : gs[t]? = some b) (hst : s ≤ t) (hk : zM (zaF κ b) key < 0) : zM (zaF κ a) key < 0 := by
  rcases Nat.lt_or_ge s t with hl | hl
  · exact cmpLs_lt (h.pair ha hb hl) hk
  · have : s = t := by omega
    subst this; rw [ha] at hb; injection hb with hb; rw [hb]; exact hk
end
end Lp
/- Walks, printed by a program of mine. -/
set_option linter.unusedSimpArgs false
set_option linter.unusedVariables false
set_option maxHeartbeats 4000000
set_option maxRecDepth 100000
namespace Lp
open Go Go.RowKit Go.Proofs

namespace HdYtfjinapgehafiaaGreatV73
theorem zcK {a : Int} (h : -9223372036854775808 ≤ a ∧ a ≤ 9223372036854775807) : ∀ w, (convert 165 3 (.int .u64 a)).run Tryz.prog w = .ok (.int .i64 a) w := fun w => by
  have e : IntKind.i64.wrap a = a := by exact w64 (by omega)
  simp [convert, run_underlying (show Tryz.prog.underlying 165 = some _ by kernel_rfl), run_underlying (show Tryz.prog.underlying 3 = some _ by kernel_rfl), Conv.intToInt, e]
theorem zby {a : Int} (h : 0 ≤ a ∧ a ≤ 18446744073709551615) : ∀ w, (convert 3 165 (.int .i64 a)).run Tryz.prog w = .ok (.int .u64 a) w := fun w => by
  have e : IntKind.u64.wrap a = a := by simp [IntKind.wrap, IntKind.bits, IntKind.signed]; omega
  simp [convert, run_underlying (show Tryz.prog.underlying 3 = some _ by kernel_rfl), run_underlying (show Tryz.prog.underlying 165 = some _ by kernel_rfl), Conv.intToInt, e]
theorem zad (b o : Nat) : ∀ w, (Instr.fieldAt 53 (.pointer (some ⟨b, o, none⟩)) 0).run Tryz.prog w = .ok (.pointer (some ⟨b, o + 0, none⟩)) w := fun _ => by kernel_rfl
end HdYtfjinapgehafiaaGreatV73
open HdYtfjinapgehafiaaGreatV73

theorem er_perm {α : Type} {G : List α} {k : Nat} {x : α} (hx : G[k]? = some x) : G.Perm (x :: G.eraseIdx k) := by
  obtain ⟨hk, e⟩ := List.getElem?_eq_some_iff.1 hx
  have h : G = G.take k ++ x :: G.drop (k + 1) := by rw [← e, List.getElem_cons_drop, List.take_append_drop]
  rw [List.eraseIdx_eq_take_drop_succ]
  exact (List.Perm.of_eq h).trans List.perm_middle
theorem tl_out {α : Type} {h : α → Hp} {A : List Hp} {G : List α} {k : Nat} {x : α} (hx : G[k]? = some x) : HSub (A ++ G.map h) (h x :: A ++ (G.eraseIdx k).map h) := by
  have hp := (er_perm hx).map h
  rw [List.map_cons] at hp
  exact HSub.perm ((hp.append_left A).trans List.perm_middle)
theorem tl_in {α : Type} {h : α → Hp} {A : List Hp} {G : List α} {k : Nat} {x y : α} (hx : G[k]? = some x) : HSub (h y :: A ++ (G.eraseIdx k).map h) (A ++ (G.set k y).map h) := by
  obtain ⟨hk, e⟩ := List.getElem?_eq_some_iff.1 hx
  have hp := (er_perm (show (G.set k y)[k]? = some y from by rw [List.getElem?_set_self hk])).map h
  rw [List.eraseIdx_set_eq, List.map_cons] at hp
  exact HSub.perm (List.perm_middle.symm.trans (hp.symm.append_left A))
theorem tl_same {α : Type} {G : List α} {k : Nat} {x : α} (hx : G[k]? = some x) : G.set k x = G := by
  obtain ⟨hk, e⟩ := List.getElem?_eq_some_iff.1 hx
  rw [← e]; exact List.set_getElem_self hk
abbrev RH : Kp RowD → Hp := Kp.h 2 53 RowD.d

theorem by_c (mode : Int) (names : List ByteArray) (l : List Lbl) (hl : l.length ≤ 1000000) :
    CD Tryz.prog 34 [] [dI mode, .sh 1 (names.map D.s), .sh 2 (l.map Lbl.d)] (zcU 2 62 ((byL mode names l).map Lbl.d)) := by
  refine zq Tryz.func34 rfl (N := 15) rfl rfl (fun C => ?_)
  refine jk [0, 1, 2] rfl ?_
  refine JD.bd 1 rfl (fun bd1 => ?_)
  have nl1 := zS bd1
  refine JD.bd 2 rfl (fun bd2 => ?_)
  have nl2 := zS bd2
  refine jT rfl (oR 1 rfl (oZ rfl (jS rfl (jT rfl (oR 1 rfl (oZ rfl (jB rfl (jS rfl (jT rfl (oP rfl (zR rfl rfl rfl) (oR 1 rfl (oZ rfl ?_))))))))))))
  refine jD rfl (fun hc1 => ?_) (fun hc1 => ?_)
  · skip
    refine zj rfl (zb ?_)
    refine jD rfl (fun hc2 => ?_) (fun hc2 => ?_)
    · skip
      refine jT rfl (oR 3 rfl (oE rfl (zN [] _ [] rfl rfl (.cons ArgC.id (.cons ArgC.id (.cons ArgC.id .nil))) zz Tryz.call24 (key_c mode names l (by omega)) (.inl rfl)) ?_))
      rintro _ _ ⟨_, ⟨v3, rfl, rfl⟩, rfl⟩
      refine on rfl (oR 1 rfl (oZ rfl (jk [6] rfl (zm rfl (zf (zd (PD.subH (HSub.less (zbr (i := 0) rfl)) (PD.subH (HSub.turn (h' := .sl v3 2 62 ((byL mode names l).map Lbl.d)) rfl (Hp.eq_sl (show List.map Lbl.d (keyL mode names l) = List.map Lbl.d (byL mode names l) from congrArg _ (by first | (unfold byL; simp [*]; done) | (exfalso; omega))))) ?_))))))))
      exact zbn Tryz.results34 (.cons (zh rfl) .nil) rfl ⟨_, rfl, rfl⟩
    · skip
      refine zj rfl (zp (zb (jT rfl (oR 1 rfl (oZ rfl (zm rfl ?_))))))
      refine PD.drop (PD.subH (HSub.nil 2 62) ?_)
      refine PD.subH (HSub.turn (h' := .sl (.slice none 0 0) 2 62 ((byL mode names l).map Lbl.d)) rfl (Hp.eq_sl (show List.map Lbl.d [] = List.map Lbl.d (byL mode names l) from congrArg _ (by first | (unfold byL; simp [*]; done) | (exfalso; omega))))) ?_
      exact zbn Tryz.results34 (.cons (zx (zh rfl) (Cv.ov rfl)) .nil) rfl ⟨_, rfl, rfl⟩
  · skip
    refine za rfl (oP rfl (zR rfl rfl rfl) (oR 1 rfl (oZ rfl ?_)))
    refine jD rfl (fun hc4 => ?_) (fun hc4 => ?_)
    · skip
      refine jT rfl (oR 3 rfl (oE rfl (zN [] _ [] rfl rfl (.cons ArgC.id (.cons ArgC.id (.cons ArgC.id .nil))) zz Tryz.call24 (key_c mode names l (by omega)) (.inl rfl)) ?_))
      rintro _ _ ⟨_, ⟨v5, rfl, rfl⟩, rfl⟩
      refine on rfl (oR 1 rfl (oZ rfl (jk [6] rfl (zm rfl (zf (zd (PD.subH (HSub.less (zbr (i := 0) rfl)) (PD.subH (HSub.turn (h' := .sl v5 2 62 ((byL mode names l).map Lbl.d)) rfl (Hp.eq_sl (show List.map Lbl.d (keyL mode names l) = List.map Lbl.d (byL mode names l) from congrArg _ (by first | (unfold byL; simp [*]; done) | (exfalso; omega))))) ?_))))))))
      exact zbn Tryz.results34 (.cons (zh rfl) .nil) rfl ⟨_, rfl, rfl⟩
    · skip
      refine zj rfl (zp (zb (jT rfl (oR 1 rfl (oZ rfl (zm rfl ?_))))))
      refine PD.drop (PD.subH (HSub.nil 2 62) ?_)
      refine PD.subH (HSub.turn (h' := .sl (.slice none 0 0) 2 62 ((byL mode names l).map Lbl.d)) rfl (Hp.eq_sl (show List.map Lbl.d [] = List.map Lbl.d (byL mode names l) from congrArg _ (by first | (unfold byL; simp [*]; done) | (exfalso; omega))))) ?_
      exact zbn Tryz.results34 (.cons (zx (zh rfl) (Cv.ov rfl)) .nil) rfl ⟨_, rfl, rfl⟩

theorem split1_c (l : List RowD) (key : List Lbl) (mode : Int) (names : List ByteArray) (x : RowD) (hx : l[0]? = some x) (hz : x.ls.length ≤ 1000000) :
    CD Tryz.prog 105 [] [.sh 2 (l.map RowD.d), .sh 2 (key.map Lbl.d), .el (dI mode) 0, .el (.sh 1 (names.map D.s)) 0] (isR (dI (zM (byL mode names x.ls) key))) := by
  refine zq Tryz.func105 rfl (N := 16) rfl rfl (fun C => ?_)
  refine jk [0, 1, 2, 3] rfl ?_
  refine JD.bd 0 rfl (fun bd0 => ?_)
  have nl0 := zS bd0
  refine JD.bd 1 rfl (fun bd1 => ?_)
  have nl1 := zS bd1
  refine JD.bd 2 rfl (fun bd2 => ?_)
  refine JD.bd 3 rfl (fun bd3 => ?_)
  have hl0 := (List.getElem?_eq_some_iff.1 hx).1
  have hlx := hz
  refine jT rfl (oR 1 rfl (oZ rfl (jS rfl (jk [0, 1, 2, 3, 6] rfl (jn rfl (zW 8 [(7, dI mode, none), (8, .sh 1 (names.map D.s), none), (9, .sh 2 (l.map RowD.d), none), (10, .el (RowD.d x) 0, none), (11, .el (RowD.d x) 0, none), (12, .sh 2 (x.ls.map Lbl.d), none), (13, .sh 2 ((byL mode names x.ls).map Lbl.d), none), (14, .sh 2 (key.map Lbl.d), none)] [] (Hn := []) mixed rfl rfl rfl rfl HSub.rfl' rfl ⟨sa_p rfl rfl rfl (zH rfl Tryz.isAgg3 rfl), sa_p rfl rfl rfl (zH rfl Tryz.isAgg23 rfl), sa_p rfl rfl rfl (zc rfl), sa_p rfl rfl rfl (zr (k := 0) rfl rfl Tryz.runUnderlying22 Tryz.sizeOf53 (by first | rfl | omega) (zg hx)), sa_p rfl rfl rfl (zF rfl zad rfl), sa_p rfl rfl rfl (zH rfl Tryz.isAgg50 rfl), sa_q rfl rfl rfl (zaI rfl (.cons Cv.rfl' (.cons Cv.rfl' (.cons Cv.rfl' .nil))) Tryz.call34 (by_c mode names x.ls (by omega)) zbq), sa_p rfl rfl rfl (zc rfl), trivial⟩ (ok [0, 1, 2, 3, 6, 7, 8, 9, 10, 11, 12, 13, 14] rfl (oW rfl rfl acs Tryz.call106 (zcp (byL mode names x.ls) key) (oR 1 rfl (oZ rfl (jk [6] rfl (zm rfl ?_))))))))))))
  exact zl Tryz.results105 (.cons (zh rfl) .nil) rfl HSub.none ⟨rfl, rfl⟩

theorem hd_some {κ : RowD → List Lbl} {G : List (Kp RowD)} {k : Nat} {x : Kp RowD} (hG : GOk κ (G.map (·.l))) (hx : G[k]? = some x) : ∃ y, x.l[0]? = some y := by
  have := hG.ne x.l (List.mem_map.2 ⟨x, zae hx, rfl⟩)
  cases h : x.l with
  | nil => exact absurd h this
  | cons y r => exact ⟨y, rfl⟩
theorem head_of {κ : RowD → List Lbl} {l : List RowD} {y : RowD} (h : l[0]? = some y) : zaF κ l = κ y := by
  cases l with
  | nil => cases h
  | cons z r => simp at h; rw [← h]; rfl
theorem zc3 {G : List (Kp RowD)} {k : Nat} {x : Kp RowD} (h : G[k]? = some x) : (G.map (·.l))[k]? = some x.l := by rw [List.getElem?_map, h]; rfl

theorem bs_end {κ : RowD → List Lbl} {G : List (Kp RowD)} {key : List Lbl} {i : Nat} {x : Kp RowD} {y : RowD} (h1 : ∀ t g, t < i → (G.map (·.l))[t]? = some g → zM (zaF κ g) key < 0) (h2 : ∀ t g, i ≤ t → (G.map (·.l))[t]? = some g → ¬ zM (zaF κ g) key < 0) (hx : G[i]? = some x) (hy : zaF κ x.l = κ y) (hi : i ≤ G.length) : BsOk κ (G.map (·.l)) key i (decide (zM (κ y) key = (0 : Int))) :=
  ⟨by rw [List.length_map]; exact hi, h1, h2, by
    rw [decide_eq_true_eq, zcN]
    constructor
    · intro e; exact ⟨x.l, zc3 hx, by rw [hy, e]⟩
    · rintro ⟨g, hg, e⟩; rw [zc3 hx] at hg; injection hg with hg; rw [← hg, hy] at e; exact e⟩
theorem bs_none {κ : RowD → List Lbl} {G : List (Kp RowD)} {key : List Lbl} {i : Nat} (h1 : ∀ t g, t < i → (G.map (·.l))[t]? = some g → zM (zaF κ g) key < 0) (h2 : ∀ t g, i ≤ t → (G.map (·.l))[t]? = some g → ¬ zM (zaF κ g) key < 0) (hi : i = G.length) : BsOk κ (G.map (·.l)) key i false :=
  ⟨by rw [List.length_map]; omega, h1, h2, ⟨fun h => (by cases h), fun ⟨g, hg, _⟩ => by rw [List.getElem?_eq_none (by rw [List.length_map]; omega)] at hg; cases hg⟩⟩

theorem bsf_c (mode : Int) (names : List ByteArray) (v : Value) (G : List (Kp RowD)) (key : List Lbl) (hG : GOk (fun r => byL mode names r.ls) (G.map (·.l))) (hn : G.length ≤ 1000000) (hz : ∀ g ∈ G, ∀ x ∈ g.l, x.ls.length ≤ 1000000) :
    CD Tryz.prog 104 ([.sl v 1 22 (G.map Kp.d)] ++ (G.map RH)) [.ov v, .sh 2 (key.map Lbl.d), .fn 105 [] [.el (dI mode) 0, .el (.sh 1 (names.map D.s)) 0]] (fun r H' => ∃ i f, BsOk (fun r => byL mode names r.ls) (G.map (·.l)) key i f ∧ r = .tup [dN i, dB f] ∧ H' = ([.sl v 1 22 (G.map Kp.d)] ++ G.map RH)) := by
  refine zq Tryz.func104 rfl (N := 49) rfl rfl (fun C => ?_)
  refine jk [0, 1, 2] rfl ?_
  refine JD.bd 1 rfl (fun bd1 => ?_)
  have nl1 := zS bd1
  refine jT rfl (oR 2 rfl (oZ rfl (jT rfl (oR 1 rfl (oP rfl (zU (n := G.length) (j := 0) rfl rfl Tryz.runUnderlying36 (List.length_map _)) (oR 1 rfl (oZ rfl (jT rfl (oR 3 rfl (oZ rfl (jS rfl (jB rfl ?_))))))))))))
  refine jl2 (fun (a_ : Nat) (b_ : Nat) => [(0, .ov v), (1, .sh 2 (key.map Lbl.d)), (2, .fn 105 [] [.el (dI mode) 0, .el (.sh 1 (names.map D.s)) 0]), (6, dI 0), (7, dB false), (8, dN G.length), (9, dN a_), (10, dN b_)]) (fun a_ b_ => ([.sl v 1 22 (G.map Kp.d)] ++ (G.map RH))) (fun a_ b_ => (a_ ≤ b_) ∧ (b_ ≤ G.length) ∧ (∀ t g, t < a_ → (G.map (·.l))[t]? = some g → zM (zaF (fun r => byL mode names r.ls) g) key < 0) ∧ (∀ t g, b_ ≤ t → (G.map (·.l))[t]? = some g → ¬ zM (zaF (fun r => byL mode names r.ls) g) key < 0)) (fun a_ b_ => b_ - a_) 0 G.length rfl (sa rfl) HSub.rfl' ⟨Nat.zero_le _, Nat.le_refl _, (fun t g h => absurd h (by omega)), (fun t g h e => by rw [List.getElem?_eq_none (by rw [List.length_map]; exact h)] at e; cases e)⟩ ?_
  rintro lo hi ⟨hle, hh, h1, h2⟩
  refine ja rfl ?_
  refine JD.norm ([.sl v 1 22 (G.map Kp.d)] ++ (G.map RH)) rfl ?_
  refine jS rfl (jT rfl (oR 2 rfl (oP rfl (zQ rfl rfl rfl) (oZ rfl ?_))))
  refine jD rfl (fun hc1 => ?_) (fun hc1 => ?_)
  · skip
    refine zj rfl (zb (jB rfl (jT rfl (oR 2 rfl (oP rfl (zO (c := ((lo + hi : Nat) : Int)) rfl rfl (zB (by omega) (by omega))) (oP rfl (zbN rfl (c := ((lo + hi : Nat) : Int)) (zby (by omega))) (oP rfl (zdT (a := lo + hi) (n := 1) (m := 2) rfl rfl (by decide) (by decide)) (oP rfl (zbN rfl (c := (((lo + hi) / 2 : Nat) : Int)) (zcK (by omega))) (oR 1 rfl (oZ rfl (jT rfl (oR 3 rfl ?_))))))))))))
    obtain ⟨x1, hx1⟩ := zy G ((lo + hi) / 2) (by omega)
    refine oP rfl (zi (k := (lo + hi) / 2) (j := 0) rfl rfl rfl Tryz.runUnderlying36 Tryz.sizeOf22 (by first | rfl | omega) (zg hx1)) (oP rfl (z8 rfl (i := 0) rfl (zg hx1) Tryz.isAgg22 rfl) (oR 1 rfl (OpsD.subH (tl_out (A := [.sl v 1 22 (G.map Kp.d)]) (h := RH) (G := G) hx1) ?_)))
    refine OpsD.norm ([.sl x1.v 2 53 (x1.l.map RowD.d), .sl v 1 22 (G.map Kp.d)] ++ ((G.eraseIdx ((lo + hi) / 2)).map RH)) rfl ?_
    obtain ⟨yx1, hyx1⟩ := hd_some hG hx1
    have hykx1 := head_of (κ := (fun r => byL mode names r.ls)) hyx1
    refine oE rfl (zbk [] _ [.sl x1.v 2 53 (x1.l.map RowD.d)] rfl rfl rfl (.cons (ArgC.own (j := 0) rfl rfl) acs) (zaV (j := 0) rfl zz) Tryz.call105 (split1_c x1.l key mode names yx1 hyx1 (hz _ (zae hx1) _ (zae hyx1))) (.inr (zbO rfl))) ?_
    rintro _ _ ⟨_, ⟨rfl, rfl⟩, rfl⟩
    refine OpsD.norm ([.sl x1.v 2 53 (x1.l.map RowD.d), .sl v 1 22 (G.map Kp.d)] ++ ((G.eraseIdx ((lo + hi) / 2)).map RH)) rfl ?_
    refine OpsD.subH (tl_in (A := [.sl v 1 22 (G.map Kp.d)]) (h := RH) (G := G) (y := x1) hx1) ?_
    refine OpsD.norm ([.sl v 1 22 (G.map Kp.d)] ++ (G.map RH)) (by rw [tl_same hx1]) ?_
    refine oP rfl (zQ rfl rfl rfl) (oZ rfl ?_)
    refine jD rfl (fun hc2 => ?_) (fun hc2 => ?_)
    · skip
      refine za rfl (oR 1 rfl (oP rfl (zO (c := ((((lo + hi) / 2) + 1 : Nat) : Int)) rfl rfl (zB (by omega) (by omega))) (oR 1 rfl (ze rfl (zp ?_)))))
      exact pl2 ((lo + hi) / 2 + 1) hi (sa rfl) HSub.rfl' ⟨by omega, hh, fun t g ht hg => hG.below hg (zc3 hx1) (by omega) (by rw [hykx1]; exact hc2), h2⟩ (by omega)
    · skip
      refine za rfl (oR 2 rfl (ze rfl (zp ?_)))
      exact pl2 lo ((lo + hi) / 2) (sa rfl) HSub.rfl' ⟨by omega, by omega, h1, fun t g ht hg hc => hc2 (by rw [← hykx1]; exact hG.below (zc3 hx1) hg ht hc)⟩ (by omega)
  · skip
    refine zL rfl (zo (zn (zk (zb (jS rfl ?_)))))
    by_cases hg3 : ((lo : Nat) : Int) < ((G.length : Nat) : Int)
    · skip
      refine za rfl (oR 3 rfl (oP rfl (zQ rfl rfl (decide_eq_true hg3)) (oR 4 rfl ?_)))
      obtain ⟨x2, hx2⟩ := zy G lo (by omega)
      refine oG rfl (zi (k := lo) (j := 0) rfl rfl rfl Tryz.runUnderlying36 Tryz.sizeOf22 (by first | rfl | omega) (zg hx2)) (oG rfl (z8 rfl (i := 0) rfl (zg hx2) Tryz.isAgg22 rfl) (oR 1 rfl (OpsD.subH (tl_out (A := [.sl v 1 22 (G.map Kp.d)]) (h := RH) (G := G) hx2) ?_)))
      refine OpsD.norm ([.sl x2.v 2 53 (x2.l.map RowD.d), .sl v 1 22 (G.map Kp.d)] ++ ((G.eraseIdx lo).map RH)) rfl ?_
      obtain ⟨yx2, hyx2⟩ := hd_some hG hx2
      have hykx2 := head_of (κ := (fun r => byL mode names r.ls)) hyx2
      refine oF rfl (zbk [] _ [.sl x2.v 2 53 (x2.l.map RowD.d)] rfl rfl rfl (.cons (ArgC.own (j := 0) rfl rfl) acs) (zaV (j := 0) rfl zz) Tryz.call105 (split1_c x2.l key mode names yx2 hyx2 (hz _ (zae hx2) _ (zae hyx2))) (.inr (zbO rfl))) ?_
      rintro _ _ ⟨_, ⟨rfl, rfl⟩, rfl⟩
      refine OpsD.norm ([.sl x2.v 2 53 (x2.l.map RowD.d), .sl v 1 22 (G.map Kp.d)] ++ ((G.eraseIdx lo).map RH)) rfl ?_
      refine OpsD.subH (tl_in (A := [.sl v 1 22 (G.map Kp.d)]) (h := RH) (G := G) (y := x2) hx2) ?_
      refine OpsD.norm ([.sl v 1 22 (G.map Kp.d)] ++ (G.map RH)) (by rw [tl_same hx2]) ?_
      refine oG rfl (zR rfl rfl rfl) (oR 3 rfl (oZ rfl (jk [6, 7] rfl (zm rfl ?_))))
      exact zl Tryz.results104 (.cons (zh rfl) (.cons (zh rfl) .nil)) rfl HSub.rfl' ⟨lo, decide ((zM (byL mode names yx2.ls) key) = (0 : Int)), bs_end (fun t g ht => h1 t g ht) (fun t g ht => h2 t g (by omega)) hx2 hykx2 (by omega), rfl, rfl⟩
    · skip
      refine za rfl (oR 3 rfl (oP rfl (zQ rfl rfl (decide_eq_false hg3)) (oR 12 rfl (oZ rfl (jk [6, 7] rfl (zm rfl ?_))))))
      exact zl Tryz.results104 (.cons (zh rfl) (.cons (zh rfl) .nil)) rfl HSub.rfl' ⟨lo, false, bs_none (fun t g ht => h1 t g ht) (fun t g ht => h2 t g (by omega)) (by omega), rfl, rfl⟩
end Lp
/-
  What is said of vectors (chapter 10), as plain data.
-/
set_option linter.unusedVariables false
namespace Lp
open Go
/-! ### rows that may be -/
theorem rowsB_iff {l : List RowD} : zbm l = true ↔ ∀ r ∈ l, za6 r = true := by rw [rowsB_ok, List.all_eq_true]
theorem right_n {l : List Lbl} (h : zaL l = true) : zJ l = l ∧ zaH l = 0 ∧ NSrt l ∧ (∀ x ∈ l, okL x = true) ∧ l.length ≤ 8 := by
  unfold zaL at h
  rw [Bool.and_eq_true, decide_eq_true_eq] at h
  have e := zcN.1 h.2
  have e0 : zaH l = 0 := by have := tidyOk_E l; rw [h.1] at this; exact of_decide_eq_true this
  have hn := zdE e0
  rw [e] at hn
  exact ⟨e, e0, hn.1, hn.2, tidy_ok_len h.1⟩
theorem right_of {l : List Lbl} (h1 : l.length ≤ 8) (h2 : NSrt l) (h3 : ∀ x ∈ l, okL x = true) : zaL l = true := by
  obtain ⟨e1, e2⟩ := tidyOk_of h1 h2 (List.Perm.refl l) h3
  unfold zaL zJ
  rw [e1, e2]
  simp [zbE]
theorem right_pick {l : List Lbl} (h : zaL l = true) (ns : List ByteArray) (w : Bool) : zaL (zbb l ns w) = true := by
  obtain ⟨_, _, h3, h4, h5⟩ := right_n h
  exact right_of (Nat.le_trans (zbG _ _ _) h5) (List.Pairwise.filter _ h3) (fun x hx => h4 x (zcE hx))
theorem right_key {l : List Lbl} (h : zaL l = true) (mode : Int) (ns : List ByteArray) : zaL (keyL mode ns l) = true := by
  unfold keyL
  split
  · exact right_pick h _ _
  · split
    · exact right_pick (right_pick h _ _) _ _
    · exact right_pick h _ _
theorem zdo {r : RowD} (h : za6 r = true) : zaL r.ls = true ∧ zaD r.v = true := by unfold za6 at h; rwa [Bool.and_eq_true] at h
theorem okRow_of {r : RowD} (h1 : zaL r.ls = true) (h2 : zaD r.v = true) : za6 r = true := by unfold za6; rw [h1, h2]; rfl
theorem rt_rows {l : List RowD} (h : rtE l = 0) : l.length ≤ 2000 ∧ zbm l = true := by
  unfold rtE at h
  cases hb : decide (l.length ≤ 2000) && zbm l
  · rw [hb] at h; cases h
  · rw [Bool.and_eq_true, decide_eq_true_eq] at hb; exact hb
theorem tidyRs_rows (l : List RowD) : ∀ r ∈ zC l, za6 r = true := by
  have key : ∀ (m out : List RowD), (∀ r ∈ out, za6 r = true) → ∀ r ∈ m.foldl zbg out, za6 r = true := by
    intro m
    induction m with
    | nil => intro out h; exact h
    | cons x m ih =>
      intro out h
      refine ih (zbg out x) ?_
      unfold zbg
      split
      · rename_i hc
        intro r hr
        have h1 := (rt_rows hc.2.2).2
        rw [rowsB_iff] at h1
        exact h1 r ((rt_strict hc.2.2).2.mem_iff.1 hr)
      · exact h
  exact key l [] (fun _ h => by cases h)
theorem zcb {a : List RowD} (h : zT a = true) : ∀ r ∈ a, za6 r = true := rowsB_iff.1 (zay.1 h).2.1
theorem vr_strict {a : List RowD} (h : zT a = true) : zaB cL a := (zay.1 h).2.2
theorem zdQ {a : List RowD} (h1 : a.length ≤ 2000) (h2 : ∀ r ∈ a, za6 r = true) (h3 : zaB cL a) : zT a = true := zay.2 ⟨h1, rowsB_iff.2 h2, h3⟩
theorem vr_tidy {l : List RowD} (h : za7 l = true) : zT (zC l) = true := by
  have t := tidyRs_trs (fun r hr => lightR_row h hr)
  have := lightR_len h
  exact zdQ (by have := t.len; omega) (tidyRs_rows l) t.st
theorem rt_perm {a b : List RowD} (h : zT a = true) (hp : a.Perm b) : rtL b = a ∧ rtE b = 0 := by
  have e := strict_isort zdm (vr_strict h) hp
  have hb : ordB b = true := by unfold ordB; rw [e]; exact decide_eq_true (vr_strict h)
  have h1 : ¬ (2000 : Int) < ((b.length : Nat) : Int) := by have := (zay.1 h).1; rw [← hp.length_eq]; omega
  have h2 : zbm b = true := rowsB_iff.2 (fun r hr => zcb h r (hp.mem_iff.2 hr))
  obtain ⟨e1, e2⟩ := zdF h1 h2
  rw [← e1, ← e2]
  unfold ordL ordE; rw [hb, e]; exact ⟨rfl, rfl⟩
theorem rt_self {a : List RowD} (h : zT a = true) : rtL a = a ∧ rtE a = 0 := rt_perm h (List.Perm.refl a)
theorem text_inj {a b : List Lbl} (ha : zaL a = true) (hb : zaL b = true) (h : zau a = zau b) : a = b := by
  obtain ⟨a1, a2, _⟩ := right_n ha
  obtain ⟨b1, b2, _⟩ := right_n hb
  have := textB_inj a2 b2 (by rw [a1, b1]; exact h)
  rwa [a1, b1] at this
end Lp
/-
  What is said of vectors (chapter 10): the first call, twice the same, splits.
-/
set_option linter.unusedVariables false
namespace Lp
open Go
theorem one_vr {r : RowD} (h : za6 r = true) : zT [r] = true :=
  zdQ (by simp) (fun x hx => by rw [List.mem_singleton.1 hx]; exact h) (List.pairwise_singleton _ _)
end Lp
/-
  What groups of rows give (chapter 11), as plain data.
-/
set_option linter.unusedVariables false
namespace Lp
open Go
def tot (l : List Int) : Int := l.foldl (· + ·) 0
theorem foldl_add (l : List Int) : ∀ a : Int, l.foldl (· + ·) a = a + l.foldl (· + ·) 0 := by
  induction l with
  | nil => intro a; simp
  | cons x l ih => intro a; rw [List.foldl_cons, List.foldl_cons, ih, ih (0 + x)]; omega
theorem tot_cons (x : Int) (l : List Int) : tot (x :: l) = x + tot l := by unfold tot; rw [List.foldl_cons, foldl_add]; omega
theorem tot_snoc {l : List Int} {k : Nat} {x : Int} (h : l[k]? = some x) : tot (l.take (k + 1)) = tot (l.take k) + x := by
  unfold tot; rw [zab h, List.foldl_append]; rfl
def allR (l : List Int) : Bool := l.all zaD && decide (l.length ≤ 2000)
theorem rightV_iff {v : Int} : zaD v = true ↔ -1000000000000 ≤ v ∧ v ≤ 1000000000000 := by unfold zaD; simp
theorem tot_bd {l : List Int} (h : l.all zaD = true) : -1000000000000 * (l.length : Int) ≤ tot l ∧ tot l ≤ 1000000000000 * (l.length : Int) := by
  induction l with
  | nil => simp [tot]
  | cons x l ih =>
    simp only [List.all_cons, Bool.and_eq_true] at h
    have h1 := rightV_iff.1 h.1
    have h2 := ih h.2
    rw [tot_cons]; simp only [List.length_cons]; omega
theorem all_take {l : List Int} {k : Nat} (h : l.all zaD = true) : (l.take k).all zaD = true := by
  rw [List.all_eq_true] at h ⊢; exact fun x hx => h x (List.mem_of_mem_take hx)
def sumE (l : List Int) : Int × Int := if allR l = true then zcP (tot l) else (0, 1)
def zdp (l : List Int) : Int × Int := if l.length = 0 then (0, 7) else if allR l = true then (Int.tdiv (tot l) l.length, 0) else (0, 1)
def minL : List Int → Int
  | [] => 0
  | x :: r => r.foldl min x
def maxL : List Int → Int
  | [] => 0
  | x :: r => r.foldl max x
theorem minL_snoc {l : List Int} {k : Nat} {x : Int} (hk : 0 < k) (h : l[k]? = some x) : minL (l.take (k + 1)) = min (minL (l.take k)) x := by
  cases l with
  | nil => simp at h
  | cons y r =>
    obtain ⟨k, rfl⟩ : ∃ m, k = m + 1 := ⟨k - 1, by omega⟩
    simp only [List.getElem?_cons_succ] at h
    simp only [List.take_succ_cons, minL]
    rw [zab h, List.foldl_append]; rfl
theorem maxL_snoc {l : List Int} {k : Nat} {x : Int} (hk : 0 < k) (h : l[k]? = some x) : maxL (l.take (k + 1)) = max (maxL (l.take k)) x := by
  cases l with
  | nil => simp at h
  | cons y r =>
    obtain ⟨k, rfl⟩ : ∃ m, k = m + 1 := ⟨k - 1, by omega⟩
    simp only [List.getElem?_cons_succ] at h
    simp only [List.take_succ_cons, maxL]
    rw [zab h, List.foldl_append]; rfl
theorem minL_one {l : List Int} {x : Int} (h : l[0]? = some x) : minL (l.take 1) = x := by
  cases l with
  | nil => simp at h
  | cons y r => simp at h; subst h; rfl
theorem maxL_one {l : List Int} {x : Int} (h : l[0]? = some x) : maxL (l.take 1) = x := by
  cases l with
  | nil => simp at h
  | cons y r => simp at h; subst h; rfl
/-- how numbers of a group become one -/
inductive Way where
  | sums (mean : Bool)
  | least
  | most
  | many
  | rank (p : Int)
  | top (n : Int)
def aggN : List ByteArray := [⟨#[115, 117, 109]⟩, ⟨#[109, 105, 110]⟩, ⟨#[109, 97, 120]⟩, ⟨#[99, 111, 117, 110, 116]⟩, ⟨#[97, 118, 103]⟩, ⟨#[116, 111, 112, 107]⟩, ⟨#[113, 117, 97, 110, 116, 105, 108, 101]⟩]
abbrev nSum : ByteArray := ⟨#[115, 117, 109]⟩
abbrev nMin : ByteArray := ⟨#[109, 105, 110]⟩
abbrev nMax : ByteArray := ⟨#[109, 97, 120]⟩
abbrev nCount : ByteArray := ⟨#[99, 111, 117, 110, 116]⟩
abbrev nAvg : ByteArray := ⟨#[97, 118, 103]⟩
abbrev nTop : ByteArray := ⟨#[116, 111, 112, 107]⟩
abbrev nQ : ByteArray := ⟨#[113, 117, 97, 110, 116, 105, 108, 101]⟩
def wayO (name : ByteArray) (n : Int) : Option Way :=
  if name = nSum then some (.sums false) else if name = nAvg then some (.sums true) else if name = nMin then some .least else if name = nMax then some .most else if name = nCount then some .many
  else if name = nQ ∧ 0 ≤ n ∧ n ≤ 100 then some (.rank n) else if name = nTop ∧ 1 ≤ n ∧ n ≤ 2000 then some (.top n) else none
theorem way_agg {name : ByteArray} {n : Int} {w : Way} (h : wayO name n = some w) : hasN aggN name = true := by
  unfold wayO at h
  unfold hasN aggN
  repeat' split at h
  all_goals first | (cases h; done) | simp_all
def Way.red : Way → Bool
  | .sums _ | .least | .most | .many => true
  | .rank p => decide (0 ≤ p ∧ p ≤ 100)
  | .top _ => false
/-- numbers in order, and the one at a place of a hundred -/
def srtI (l : List Int) : List Int := l.mergeSort (fun x y => decide (x ≤ y))
theorem srtI_len (l : List Int) : (srtI l).length = l.length := List.length_mergeSort l
def rankQ (p : Int) (n : Nat) : Int := max (Int.tdiv (p * (n : Int) + 100 - 1) 100) 1
def zdG (p : Int) (n : Nat) : Nat := (rankQ p n - 1).toNat
def zdB (p : Int) (l : List Int) : Int := ((srtI l)[zdG p l.length]?).getD 0
theorem rank_pm {p : Int} {n : Nat} (h0 : 0 ≤ p) (h1 : p ≤ 100) : 0 ≤ p * (n : Int) ∧ p * (n : Int) ≤ 100 * (n : Int) :=
  ⟨Int.mul_nonneg h0 (by omega), Int.mul_le_mul_of_nonneg_right h1 (by omega)⟩
theorem rank_div {p : Int} {n : Nat} (h0 : 0 ≤ p) (h1 : p ≤ 100) : Int.tdiv (p * (n : Int) + 100 - 1) 100 = (p * (n : Int) + 100 - 1) / 100 := by
  have := rank_pm (n := n) h0 h1
  rw [Int.tdiv_eq_ediv_of_nonneg (by omega)]
theorem rank_q {p : Int} {n : Nat} (h0 : 0 ≤ p) (h1 : p ≤ 100) (hn : 0 < n) : max (Int.tdiv (p * (n : Int) + 100 - 1) 100) 1 = ((zdG p n : Nat) : Int) + 1 ∧ zdG p n < n := by
  have := rank_pm (n := n) h0 h1
  unfold zdG rankQ
  rw [rank_div h0 h1]; omega
def oneW : Way → List Int → Int × Int
  | .sums false, l => sumE l
  | .sums true, l => zdp l
  | .least, l => (minL l, 0)
  | .most, l => (maxL l, 0)
  | .many, l => ((l.length : Int), 0)
  | .rank p, l => (zdB p l, 0)
  | _, _ => (0, 0)
def za9 (f : List RowD → Int × Int) : List (List RowD) → Int
  | [] => 0
  | g :: gs => if (f g).2 ≠ 0 then (f g).2 else za9 f gs
abbrev numF (w : Way) : List RowD → Int × Int := fun g => oneW w (g.map (·.v))
def outR (κ : RowD → List Lbl) (w : Way) (gs : List (List RowD)) : List RowD := gs.map (fun g => ⟨zaF κ g, (numF w g).1⟩)
section
variable {f : List RowD → Int × Int} {gs : List (List RowD)} {k : Nat} {x : List RowD}
theorem firstG_app (a b : List (List RowD)) (h : za9 f a = 0) : za9 f (a ++ b) = za9 f b := by
  induction a with
  | nil => rfl
  | cons y r ih =>
    unfold za9 at h
    split at h
    · rename_i e; exact absurd h e
    · rename_i e
      show (if _ then _ else za9 f (r ++ b)) = _
      rw [if_neg e]; exact ih h
theorem firstG_snoc (hx : gs[k]? = some x) (h : za9 f (gs.take k) = 0) (e : (f x).2 = 0) : za9 f (gs.take (k + 1)) = 0 := by
  rw [zab hx, firstG_app _ _ h]; unfold za9; rw [if_neg (by omega)]; rfl
theorem firstG_at (hx : gs[k]? = some x) (h : za9 f (gs.take k) = 0) (e : ¬ (f x).2 = 0) : za9 f gs = (f x).2 := by
  have : gs = gs.take k ++ x :: gs.drop (k + 1) := by
    obtain ⟨hk, e⟩ := List.getElem?_eq_some_iff.1 hx
    rw [← e, List.getElem_cons_drop, List.take_append_drop]
  rw [this, firstG_app _ _ h]; unfold za9; rw [if_pos e]
end
section
variable {mode : Int} {names : List ByteArray} {l : List RowD} {w : Way}
abbrev kapB (mode : Int) (names : List ByteArray) : RowD → List Lbl := fun r => byL mode names r.ls
def zu (mode : Int) (names : List ByteArray) (l : List RowD) : List (List RowD) := if zT l = true then zaT (kapB mode names) l else []
def gdL (w : Way) (mode : Int) (names : List ByteArray) (l : List RowD) : List RowD := if zT l = true then (if za9 (numF w) (zu mode names l) = 0 then rtL (outR (kapB mode names) w (zu mode names l)) else []) else []
def gdE (w : Way) (mode : Int) (names : List ByteArray) (l : List RowD) : Int := if zT l = true then (if za9 (numF w) (zu mode names l) = 0 then rtE (outR (kapB mode names) w (zu mode names l)) else za9 (numF w) (zu mode names l)) else 1
theorem gd_bad (h : zT l = false) : [] = gdL w mode names l ∧ 1 = gdE w mode names l := by unfold gdL gdE; rw [if_neg (by rw [h]; simp), if_neg (by rw [h]; simp)]; exact ⟨rfl, rfl⟩
theorem gd_err (h : zT l = true) {k : Nat} {x : List RowD} (hx : (zu mode names l)[k]? = some x) (h0 : za9 (numF w) ((zu mode names l).take k) = 0) (e : ¬ (numF w x).2 = 0) : [] = gdL w mode names l ∧ (numF w x).2 = gdE w mode names l := by
  unfold gdL gdE; rw [if_pos h, if_pos h, firstG_at hx h0 e, if_neg e, if_neg e]; exact ⟨rfl, rfl⟩
theorem gd_ok (h : zT l = true) {k : Nat} (h0 : za9 (numF w) ((zu mode names l).take k) = 0) (hk : (zu mode names l).length ≤ k) : rtL (outR (kapB mode names) w ((zu mode names l).take k)) = gdL w mode names l ∧ rtE (outR (kapB mode names) w ((zu mode names l).take k)) = gdE w mode names l := by
  rw [List.take_of_length_le hk] at h0 ⊢
  unfold gdL gdE; rw [if_pos h, if_pos h, if_pos h0, if_pos h0]; exact ⟨rfl, rfl⟩
theorem outR_snoc {κ : RowD → List Lbl} {gs : List (List RowD)} {k : Nat} {x : List RowD} (hx : gs[k]? = some x) : outR κ w (gs.take (k + 1)) = outR κ w (gs.take k) ++ [⟨zaF κ x, (numF w x).1⟩] := by
  unfold outR; rw [zab hx, List.map_append]; rfl
end
/-- rows, the greater number first -/
def grC (a b : RowD) : Int := or2 (cmpI b.v a.v) (zM a.ls b.ls)
def topR (n : Int) (gs : List (List RowD)) : List RowD := gs.flatMap (fun g => (zt grC g).take (min n.toNat g.length))
theorem topR_snoc {n : Int} {gs : List (List RowD)} {k : Nat} {x : List RowD} (hx : gs[k]? = some x) : topR n (gs.take (k + 1)) = topR n (gs.take k) ++ (zt grC x).take (min n.toNat x.length) := by
  unfold topR; rw [zab hx, List.flatMap_append]; simp
def gtL (n : Int) (mode : Int) (names : List ByteArray) (l : List RowD) : List RowD := if zT l = true then rtL (topR n (zu mode names l)) else []
def gtE (n : Int) (mode : Int) (names : List ByteArray) (l : List RowD) : Int := if zT l = true then rtE (topR n (zu mode names l)) else 1
end Lp
