/- Walks, printed by a program of mine. -/
import Derived.Sort.OwnSortedInts
import Derived.Shelf.Sort.Plain
import Derived.Test.YtfjinapgehafiaaGreatProg
import Derived.Test.YtfjinapgehafiaaGreatV74
set_option linter.unusedSimpArgs false
set_option linter.unusedVariables false
set_option maxHeartbeats 4000000
set_option maxRecDepth 100000
namespace Lp
open Go Go.RowKit Go.Proofs

namespace HdYtfjinapgehafiaaGreatV75
theorem bd_105 : ∀ w, ((#[⟨"n", 3, 0, false, "", "leporello/group", 0⟩] : Array Field).mapM fun f => do pure (f.offset, ← Go.sizeOf f.type) : Sem (Array (Nat × Nat))).run Tryz.prog w = .ok ([(0, 1)] : List (Nat × Nat)).toArray w := fun _ => by kernel_rfl
theorem bd_156 : ∀ w, ((#[⟨"mean", 4, 0, false, "", "leporello/group", 0⟩] : Array Field).mapM fun f => do pure (f.offset, ← Go.sizeOf f.type) : Sem (Array (Nat × Nat))).run Tryz.prog w = .ok ([(0, 1)] : List (Nat × Nat)).toArray w := fun _ => by kernel_rfl
theorem bd_159 : ∀ w, ((#[⟨"of", 157, 0, false, "", "leporello/group", 0⟩] : Array Field).mapM fun f => do pure (f.offset, ← Go.sizeOf f.type) : Sem (Array (Nat × Nat))).run Tryz.prog w = .ok ([(0, 1)] : List (Nat × Nat)).toArray w := fun _ => by kernel_rfl
theorem bd_161 : ∀ w, ((#[⟨"p", 3, 0, false, "", "leporello/group", 0⟩] : Array Field).mapM fun f => do pure (f.offset, ← Go.sizeOf f.type) : Sem (Array (Nat × Nat))).run Tryz.prog w = .ok ([(0, 1)] : List (Nat × Nat)).toArray w := fun _ => by kernel_rfl
theorem zab (b o : Nat) : ∀ w, (Instr.fieldAt 53 (.pointer (some ⟨b, o, none⟩)) 1).run Tryz.prog w = .ok (.pointer (some ⟨b, o + 1, none⟩)) w := fun _ => by kernel_rfl
theorem infz_3 : ∃ i, Tryz.prog.info? 3 = some i ∧ i.zero = some (.int .i64 0) ∧ i.size = 1 ∧ i.bytes = 8 := za5 (by kernel_rfl)
theorem und_122 : Tryz.prog.underlying 122 = some (.slice 3) := by kernel_rfl
end HdYtfjinapgehafiaaGreatV75
open HdYtfjinapgehafiaaGreatV75

theorem all_next {l : List Int} {k : Nat} {x : Int} (h : (l.take k).all zan = true) (hx : l[k]? = some x) (hr : zan x = true) : (l.take (k + 1)).all zan = true := by
  rw [zas hx, List.all_append, h]; simp [hr]
theorem all_bad {l : List Int} {k : Nat} {x : Int} (h : (l.take k).all zan = true) (hx : l[k]? = some x) (hr : zan x = false) : false = allR l := by
  have : l.all zan = false := by
    rw [List.all_eq_false]; exact ⟨x, List.mem_of_getElem? hx, by rw [hr]; simp⟩
  unfold allR; rw [this]; rfl
theorem all_end {l : List Int} {k : Nat} (h : (l.take k).all zan = true) (hk : l.length ≤ k) : decide (((l.length : Nat) : Int) ≤ (2000 : Int)) = allR l := by
  rw [List.take_of_length_le hk] at h
  unfold allR; rw [h, Bool.true_and]; congr 1; exact propext (by omega)

theorem all_c (l : List Int)  :
    CD Tryz.prog 184 [] [.sh 1 (l.map dI)] (isR (dB (allR l))) := by
  refine zn Tryz.func184 rfl (N := 18) rfl rfl (fun C => ?_)
  refine jk [0] rfl ?_
  refine JD.bd 0 rfl (fun bd0 => ?_)
  have nl0 := zQ bd0
  refine jT rfl (oR 1 rfl (oZ rfl (jS rfl (jT rfl (oR 1 rfl (oP rfl (zaa (n := l.length) rfl Tryz.runUnderlying122 (by simp only [lm, lc, ln])) (oR 1 rfl (oZ rfl (jB rfl (jl1 (fun (a_ : Nat) => [(0, .sh 1 (l.map dI)), (5, .sh 1 (l.map dI)), (6, dN l.length), (7, dN a_)]) (fun a_ => []) (fun a_ => (a_ ≤ l.length) ∧ ((l.take a_).all zan = true)) (fun a_ => l.length - a_) 0 rfl (sa rfl) HSub.rfl' ⟨Nat.zero_le _, rfl⟩ ?_))))))))))
  rintro k ⟨hk, hf⟩
  refine ja rfl (jn rfl (jT rfl (oP rfl (zP rfl rfl rfl) (oZ rfl (jS rfl ?_)))))
  refine jD rfl (fun hc1 => ?_) (fun hc1 => ?_)
  · skip
    refine zk rfl (zc (jS rfl (jB rfl (jT rfl ?_))))
    obtain ⟨x1, hx1⟩ := zx l k (by omega)
    refine oP rfl (zu (k := k) rfl rfl Tryz.runUnderlying122 Tryz.sizeOf3 (by first | rfl | omega) (ze hx1)) (oP rfl (zG rfl Tryz.isAgg3 rfl) (oR 1 rfl (oZ rfl (jT rfl (oR 1 rfl (oW rfl rfl acs Tryz.call44 (fRight_c x1) (oP rfl (zba rfl) (oZ rfl ?_))))))))
    refine jC rfl (fun hc2 => ?_) (fun hc2 => ?_)
    · simp only [bA, bB, bC, bD, bE, bF, bG, bH, bI, bJ] at hc2
      refine jT rfl (oR 1 rfl (oZ rfl (zl rfl (zf (zb (zN (zf (zb ?_))))))))
      exact zj Tryz.results184 (.cons (zr (zh rfl) (Cv.eq (congrArg (fun b => D.v (.bool b)) (by exact all_bad hf hx1 hc2)))) .nil) rfl HSub.none ⟨rfl, rfl⟩
    · simp only [bA, bB, bC, bD, bE, bF, bG, bH, bI, bJ] at hc2
      refine zk rfl (zy (zc (za rfl (oP rfl (zS (c := ((k + 1 : Nat) : Int)) rfl rfl (zB (by omega) (by omega))) (oR 1 rfl (zi rfl ?_))))))
      exact pl1 (k + 1) (sa rfl) HSub.rfl' ⟨by show k + 1 ≤ l.length; omega, all_next hf hx1 hc2⟩ (by omega)
  · skip
    refine zO rfl (zq (zp (zm (zc (jT rfl (oR 1 rfl (oP rfl (zaa (n := l.length) rfl Tryz.runUnderlying122 (by simp only [lm, lc, ln])) (oP rfl (zaw rfl rfl rfl) (oR 1 rfl (oZ rfl (zl rfl ?_)))))))))))
    exact zj Tryz.results184 (.cons (zr (zh rfl) (Cv.eq (congrArg (fun b => D.v (.bool b)) (by exact all_end hf (by omega))))) .nil) rfl HSub.none ⟨rfl, rfl⟩

theorem total_c (l : List Int) (hr : l.all zan = true) (hl : l.length ≤ 2000) :
    CD Tryz.prog 185 [] [.sh 1 (l.map dI)] (isR (dI (tot l))) := by
  refine zn Tryz.func185 rfl (N := 17) rfl rfl (fun C => ?_)
  refine jk [0] rfl ?_
  refine JD.bd 0 rfl (fun bd0 => ?_)
  have nl0 := zQ bd0
  refine jT rfl (oR 1 rfl (oZ rfl (jT rfl (oR 1 rfl (oZ rfl (jS rfl (jT rfl (oR 1 rfl (oP rfl (zaa (n := l.length) rfl Tryz.runUnderlying122 (by simp only [lm, lc, ln])) (oR 1 rfl (oZ rfl (jB rfl (jl1 (fun (a_ : Nat) => [(2, dI 0), (6, .sh 1 (l.map dI)), (7, dN l.length), (8, dN a_), (3, dI (tot (l.take a_)))]) (fun a_ => []) (fun a_ => (a_ ≤ l.length)) (fun a_ => l.length - a_) 0 rfl ⟨sk rfl, sk rfl, sk rfl, sk rfl, sc rfl (Cv.eq rfl), trivial⟩ HSub.rfl' (Nat.zero_le _) ?_)))))))))))))
  rintro k hk
  refine ja rfl (jn rfl (jT rfl (oP rfl (zP rfl rfl rfl) (oZ rfl (jS rfl ?_)))))
  refine jD rfl (fun hc1 => ?_) (fun hc1 => ?_)
  · skip
    refine zk rfl (zc (jS rfl (jB rfl (jT rfl ?_))))
    obtain ⟨x1, hx1⟩ := zx l k (by omega)
    have ht1 := tot_bd (all_take (k := k) hr)
    have ht2 := tot_bd (all_take (k := k + 1) hr)
    rw [tot_snoc hx1] at ht2
    rw [List.length_take, Nat.min_eq_left (by omega)] at ht1 ht2
    refine oP rfl (zu (k := k) rfl rfl Tryz.runUnderlying122 Tryz.sizeOf3 (by first | rfl | omega) (ze hx1)) (oP rfl (zG rfl Tryz.isAgg3 rfl) (oR 1 rfl (oZ rfl (za rfl (oR 2 rfl (oP rfl (zS (c := ((tot (l.take k)) + x1)) rfl rfl (zB (by omega) (by omega))) (oR 1 rfl (zi rfl (zy (zc (za rfl (oP rfl (zS (c := ((k + 1 : Nat) : Int)) rfl rfl (zB (by omega) (by omega))) (oR 1 rfl (zi rfl ?_))))))))))))))
    exact pl1 (k + 1) ⟨sk rfl, sk rfl, sk rfl, sk rfl, sc rfl (Cv.eq (congrArg dI (tot_snoc hx1).symm)), trivial⟩ HSub.rfl' (by show k + 1 ≤ l.length; omega) (by omega)
  · skip
    refine zO rfl (zq (zp (zm (zc (jT rfl (oR 2 rfl (oZ rfl (zl rfl ?_))))))))
    exact zj Tryz.results185 (.cons (zr (zh rfl) (Cv.eq (congrArg (fun n => D.v (.int .i64 n)) (by rw [List.take_of_length_le (by omega)])))) .nil) rfl HSub.none ⟨rfl, rfl⟩

theorem allR_1 {l : List Int} (h : allR l = true) : l.all zan = true := by unfold allR at h; rw [Bool.and_eq_true] at h; exact h.1
theorem allR_2 {l : List Int} (h : allR l = true) : l.length ≤ 2000 := by unfold allR at h; rw [Bool.and_eq_true] at h; exact of_decide_eq_true h.2

theorem sum_c (l : List Int)  :
    CD Tryz.prog 150 [] [.sh 1 (l.map dI)] (isR (.tup [dI ((sumE l).1), dI ((sumE l).2)])) := by
  refine zn Tryz.func150 rfl (N := 12) rfl rfl (fun C => ?_)
  refine jk [0] rfl ?_
  refine JD.bd 0 rfl (fun bd0 => ?_)
  have nl0 := zQ bd0
  refine jT rfl (oR 2 rfl (oZ rfl (jS rfl (jT rfl (oR 1 rfl (oW rfl rfl acs Tryz.call184 (all_c l) (oP rfl (zba rfl) (oZ rfl ?_))))))))
  refine jC rfl (fun hc1 => ?_) (fun hc1 => ?_)
  · simp only [bA, bB, bC, bD, bE, bF, bG, bH, bI, bJ] at hc1
    refine jT rfl (oR 2 rfl (oZ rfl (zl rfl (zb ?_))))
    exact zj Tryz.results150 (.cons (zr (zh rfl) (Cv.eq (congrArg (fun n => D.v (.int .i64 n)) (by unfold sumE; first | rw [if_pos hc1] | rw [if_neg (by rw [hc1]; simp)])))) (.cons (zr (zh rfl) (Cv.eq (congrArg (fun n => D.v (.int .i64 n)) (by unfold sumE; first | rw [if_pos hc1] | rw [if_neg (by rw [hc1]; simp)])))) .nil)) rfl HSub.none ⟨rfl, rfl⟩
  · simp only [bA, bB, bC, bD, bE, bF, bG, bH, bI, bJ] at hc1
    refine zk rfl (zc (jT rfl (oR 1 rfl (oW rfl rfl acs Tryz.call185 (total_c l (allR_1 hc1) (allR_2 hc1)) (oW rfl rfl acs Tryz.call114 (within_c (tot l)) (oR 4 rfl (oZ rfl (jk [2, 3] rfl (zl rfl ?_)))))))))
    exact zj Tryz.results150 (.cons (zr (zh rfl) (Cv.eq (congrArg (fun n => D.v (.int .i64 n)) (by unfold sumE; first | rw [if_pos hc1] | rw [if_neg (by rw [hc1]; simp)])))) (.cons (zr (zh rfl) (Cv.eq (congrArg (fun n => D.v (.int .i64 n)) (by unfold sumE; first | rw [if_pos hc1] | rw [if_neg (by rw [hc1]; simp)])))) .nil)) rfl HSub.none ⟨rfl, rfl⟩

theorem mean_c (l : List Int)  :
    CD Tryz.prog 148 [] [.sh 1 (l.map dI)] (isR (.tup [dI ((zcF l).1), dI ((zcF l).2)])) := by
  refine zn Tryz.func148 rfl (N := 17) rfl rfl (fun C => ?_)
  refine jk [0] rfl ?_
  refine JD.bd 0 rfl (fun bd0 => ?_)
  have nl0 := zQ bd0
  refine jT rfl (oR 2 rfl (oZ rfl (jS rfl (jB rfl (jT rfl (oR 1 rfl (oP rfl (zaa (n := l.length) rfl Tryz.runUnderlying122 (by simp only [lm, lc, ln])) (oP rfl (zJ rfl rfl rfl) (oR 1 rfl (oZ rfl ?_))))))))))
  refine jD rfl (fun hc1 => ?_) (fun hc1 => ?_)
  · skip
    refine jT rfl (oR 2 rfl (oZ rfl (zl rfl (zf (zb ?_)))))
    exact zj Tryz.results148 (.cons (zr (zh rfl) (Cv.eq (congrArg (fun n => D.v (.int .i64 n)) (by unfold zcF; rw [if_pos (by omega)])))) (.cons (zr (zh rfl) (Cv.eq (congrArg (fun n => D.v (.int .i64 n)) (by unfold zcF; rw [if_pos (by omega)])))) .nil)) rfl HSub.none ⟨rfl, rfl⟩
  · skip
    refine jT rfl (oR 1 rfl (oW rfl rfl acs Tryz.call184 (all_c l) (oP rfl (zba rfl) (oR 1 rfl (oZ rfl ?_)))))
    refine jC rfl (fun hc2 => ?_) (fun hc2 => ?_)
    · simp only [bA, bB, bC, bD, bE, bF, bG, bH, bI, bJ] at hc2
      refine jT rfl (oR 2 rfl (oZ rfl (zl rfl (zf (zb ?_)))))
      exact zj Tryz.results148 (.cons (zr (zh rfl) (Cv.eq (congrArg (fun n => D.v (.int .i64 n)) (by unfold zcF; rw [if_neg (by omega)]; first | rw [if_pos hc2] | rw [if_neg (by rw [hc2]; simp)])))) (.cons (zr (zh rfl) (Cv.eq (congrArg (fun n => D.v (.int .i64 n)) (by unfold zcF; rw [if_neg (by omega)]; first | rw [if_pos hc2] | rw [if_neg (by rw [hc2]; simp)])))) .nil)) rfl HSub.none ⟨rfl, rfl⟩
    · simp only [bA, bB, bC, bD, bE, bF, bG, bH, bI, bJ] at hc2
      refine zk rfl (zy (zc (jT rfl (oR 1 rfl (oW rfl rfl acs Tryz.call185 (total_c l (allR_1 hc2) (allR_2 hc2)) (oR 1 rfl (oP rfl (zaa (n := l.length) rfl Tryz.runUnderlying122 (by simp only [lm, lc, ln])) ?_)))))))
      have hb0 := tot_bd (allR_1 hc2)
      have hb1 := allR_2 hc2
      have hb2 := tdiv_bd (tot l) (l.length : Int) (by omega)
      refine oP rfl (p_quo (c := (Int.tdiv (tot l) ((l.length : Nat) : Int))) rfl rfl (by omega) (zB rfl (by omega))) (oR 2 rfl (oZ rfl (jk [2, 3] rfl (zl rfl ?_))))
      exact zj Tryz.results148 (.cons (zr (zh rfl) (Cv.eq (congrArg (fun n => D.v (.int .i64 n)) (by unfold zcF; rw [if_neg (by omega)]; first | rw [if_pos hc2] | rw [if_neg (by rw [hc2]; simp)])))) (.cons (zr (zh rfl) (Cv.eq (congrArg (fun n => D.v (.int .i64 n)) (by unfold zcF; rw [if_neg (by omega)]; first | rw [if_pos hc2] | rw [if_neg (by rw [hc2]; simp)])))) .nil)) rfl HSub.none ⟨rfl, rfl⟩

theorem min_c (l : List Int) (h0 : 0 < l.length) :
    CD Tryz.prog 172 [] [.sh 1 (l.map dI)] (isR (dI (minL l))) := by
  refine zn Tryz.func172 rfl (N := 25) rfl rfl (fun C => ?_)
  refine jk [0] rfl ?_
  refine JD.bd 0 rfl (fun bd0 => ?_)
  have nl0 := zQ bd0
  refine jT rfl (oR 1 rfl (oZ rfl (jS rfl (jT rfl (oR 1 rfl (oP rfl (zaa (n := l.length) rfl Tryz.runUnderlying122 (by simp only [lm, lc, ln])) (oP rfl (zP rfl rfl rfl) (oZ rfl ?_))))))))
  refine jD rfl (fun hc1 => ?_) (fun hc1 => ?_)
  · skip
    exfalso; omega
  · skip
    refine zk rfl (zc (jT rfl (oR 1 rfl ?_)))
    obtain ⟨x1, hx1⟩ := zx l 0 (by omega)
    refine oP rfl (zu (k := 0) rfl rfl Tryz.runUnderlying122 Tryz.sizeOf3 (by first | rfl | omega) (ze hx1)) (oP rfl (zG rfl Tryz.isAgg3 rfl) (oR 1 rfl (oZ rfl (jS rfl (jT rfl (oR 1 rfl (oZ rfl (jB rfl (jl1 (fun (a_ : Nat) => [(0, .sh 1 (l.map dI)), (2, dI 0), (4, dN a_), (3, dI (minL (l.take a_)))]) (fun a_ => []) (fun a_ => (1 ≤ a_) ∧ (a_ ≤ l.length)) (fun a_ => l.length - a_) 1 rfl ⟨sk rfl, sk rfl, sk rfl, sc rfl (Cv.eq (congrArg dI (minL_one hx1).symm)), trivial⟩ HSub.rfl' ⟨Nat.le_refl _, by show 1 ≤ l.length; omega⟩ ?_)))))))))
    rintro k ⟨hk1, hk⟩
    refine ja rfl (jn rfl (jS rfl (jT rfl (oR 2 rfl (oP rfl (zaa (n := l.length) rfl Tryz.runUnderlying122 (by simp only [lm, lc, ln])) (oP rfl (zP rfl rfl rfl) (oZ rfl ?_)))))))
    refine jD rfl (fun hc2 => ?_) (fun hc2 => ?_)
    · skip
      refine zk rfl (zc (jS rfl (jB rfl (za rfl (oR 3 rfl ?_)))))
      obtain ⟨x2, hx2⟩ := zx l k (by omega)
      refine oP rfl (zu (k := k) rfl rfl Tryz.runUnderlying122 Tryz.sizeOf3 (by first | rfl | omega) (ze hx2)) (oP rfl (zG rfl Tryz.isAgg3 rfl) (oP rfl (p_min rfl rfl rfl) (oR 1 rfl (zi rfl (zy (zc (za rfl (oR 1 rfl (oP rfl (zS (c := ((k + 1 : Nat) : Int)) rfl rfl (zB (by omega) (by omega))) (oR 1 rfl (zi rfl ?_)))))))))))
      exact pl1 (k + 1) ⟨sk rfl, sk rfl, sk rfl, sc rfl (Cv.eq (congrArg dI (minL_snoc (by omega) hx2).symm)), trivial⟩ HSub.rfl' ⟨by show 1 ≤ k + 1; omega, by show k + 1 ≤ l.length; omega⟩ (by omega)
    · skip
      refine zO rfl (zq (zp (zm (zc (jT rfl (oR 2 rfl (oZ rfl (zl rfl ?_))))))))
      exact zj Tryz.results172 (.cons (zr (zh rfl) (Cv.eq (congrArg (fun n => D.v (.int .i64 n)) (by rw [List.take_of_length_le (by omega)])))) .nil) rfl HSub.none ⟨rfl, rfl⟩

theorem max_c (l : List Int) (h0 : 0 < l.length) :
    CD Tryz.prog 173 [] [.sh 1 (l.map dI)] (isR (dI (maxL l))) := by
  refine zn Tryz.func173 rfl (N := 25) rfl rfl (fun C => ?_)
  refine jk [0] rfl ?_
  refine JD.bd 0 rfl (fun bd0 => ?_)
  have nl0 := zQ bd0
  refine jT rfl (oR 1 rfl (oZ rfl (jS rfl (jT rfl (oR 1 rfl (oP rfl (zaa (n := l.length) rfl Tryz.runUnderlying122 (by simp only [lm, lc, ln])) (oP rfl (zP rfl rfl rfl) (oZ rfl ?_))))))))
  refine jD rfl (fun hc1 => ?_) (fun hc1 => ?_)
  · skip
    exfalso; omega
  · skip
    refine zk rfl (zc (jT rfl (oR 1 rfl ?_)))
    obtain ⟨x1, hx1⟩ := zx l 0 (by omega)
    refine oP rfl (zu (k := 0) rfl rfl Tryz.runUnderlying122 Tryz.sizeOf3 (by first | rfl | omega) (ze hx1)) (oP rfl (zG rfl Tryz.isAgg3 rfl) (oR 1 rfl (oZ rfl (jS rfl (jT rfl (oR 1 rfl (oZ rfl (jB rfl (jl1 (fun (a_ : Nat) => [(0, .sh 1 (l.map dI)), (2, dI 0), (4, dN a_), (3, dI (maxL (l.take a_)))]) (fun a_ => []) (fun a_ => (1 ≤ a_) ∧ (a_ ≤ l.length)) (fun a_ => l.length - a_) 1 rfl ⟨sk rfl, sk rfl, sk rfl, sc rfl (Cv.eq (congrArg dI (maxL_one hx1).symm)), trivial⟩ HSub.rfl' ⟨Nat.le_refl _, by show 1 ≤ l.length; omega⟩ ?_)))))))))
    rintro k ⟨hk1, hk⟩
    refine ja rfl (jn rfl (jS rfl (jT rfl (oR 2 rfl (oP rfl (zaa (n := l.length) rfl Tryz.runUnderlying122 (by simp only [lm, lc, ln])) (oP rfl (zP rfl rfl rfl) (oZ rfl ?_)))))))
    refine jD rfl (fun hc2 => ?_) (fun hc2 => ?_)
    · skip
      refine zk rfl (zc (jS rfl (jB rfl (za rfl (oR 3 rfl ?_)))))
      obtain ⟨x2, hx2⟩ := zx l k (by omega)
      refine oP rfl (zu (k := k) rfl rfl Tryz.runUnderlying122 Tryz.sizeOf3 (by first | rfl | omega) (ze hx2)) (oP rfl (zG rfl Tryz.isAgg3 rfl) (oP rfl (p_max rfl rfl rfl) (oR 1 rfl (zi rfl (zy (zc (za rfl (oR 1 rfl (oP rfl (zS (c := ((k + 1 : Nat) : Int)) rfl rfl (zB (by omega) (by omega))) (oR 1 rfl (zi rfl ?_)))))))))))
      exact pl1 (k + 1) ⟨sk rfl, sk rfl, sk rfl, sc rfl (Cv.eq (congrArg dI (maxL_snoc (by omega) hx2).symm)), trivial⟩ HSub.rfl' ⟨by show 1 ≤ k + 1; omega, by show k + 1 ≤ l.length; omega⟩ (by omega)
    · skip
      refine zO rfl (zq (zp (zm (zc (jT rfl (oR 2 rfl (oZ rfl (zl rfl ?_))))))))
      exact zj Tryz.results173 (.cons (zr (zh rfl) (Cv.eq (congrArg (fun n => D.v (.int .i64 n)) (by rw [List.take_of_length_le (by omega)])))) .nil) rfl HSub.none ⟨rfl, rfl⟩

theorem least_c (l : List Int) (h0 : 0 < l.length) :
    CD Tryz.prog 140 [] [.sh 1 (l.map dI)] (isR (dI (minL l))) := by
  refine zn Tryz.func140 rfl (N := 5) rfl rfl (fun C => ?_)
  refine jk [0] rfl ?_
  refine JD.bd 0 rfl (fun bd0 => ?_)
  have nl0 := zQ bd0
  refine jT rfl (oR 1 rfl (oZ rfl (jT rfl (oR 1 rfl (oW rfl rfl acs Tryz.call172 (min_c l h0) (oR 1 rfl (oZ rfl (zl rfl ?_))))))))
  exact zj Tryz.results140 (.cons (zh rfl) .nil) rfl HSub.none ⟨rfl, rfl⟩

theorem most_c (l : List Int) (h0 : 0 < l.length) :
    CD Tryz.prog 141 [] [.sh 1 (l.map dI)] (isR (dI (maxL l))) := by
  refine zn Tryz.func141 rfl (N := 5) rfl rfl (fun C => ?_)
  refine jk [0] rfl ?_
  refine JD.bd 0 rfl (fun bd0 => ?_)
  have nl0 := zQ bd0
  refine jT rfl (oR 1 rfl (oZ rfl (jT rfl (oR 1 rfl (oW rfl rfl acs Tryz.call173 (max_c l h0) (oR 1 rfl (oZ rfl (zl rfl ?_))))))))
  exact zj Tryz.results141 (.cons (zh rfl) .nil) rfl HSub.none ⟨rfl, rfl⟩

theorem many_c (l : List Int)  :
    CD Tryz.prog 142 [] [.sh 1 (l.map dI)] (isR (dI ((l.length : Nat) : Int))) := by
  refine zn Tryz.func142 rfl (N := 5) rfl rfl (fun C => ?_)
  refine jk [0] rfl ?_
  refine JD.bd 0 rfl (fun bd0 => ?_)
  have nl0 := zQ bd0
  refine jT rfl (oR 1 rfl (oZ rfl (jT rfl (oR 1 rfl (oP rfl (zaa (n := l.length) rfl Tryz.runUnderlying122 (by simp only [lm, lc, ln])) (oR 1 rfl (oZ rfl (zl rfl ?_))))))))
  exact zj Tryz.results142 (.cons (zh rfl) .nil) rfl HSub.none ⟨rfl, rfl⟩

theorem zbS (l : List RowD) (hl : l.length ≤ 1000000) :
    CD Tryz.prog 149 [] [.sh 2 (l.map RowD.d)] (zcv 1 3 ((l.map (·.v)).map dI)) := by
  refine zn Tryz.func149 rfl (N := 19) rfl rfl (fun C => ?_)
  refine jk [0] rfl ?_
  refine JD.bd 0 rfl (fun bd0 => ?_)
  have nl0 := zQ bd0
  refine jT rfl (oR 1 rfl (oZ rfl (jT rfl (oR 1 rfl (oZ rfl (jS rfl (jT rfl (oR 1 rfl (oP rfl (zaa (n := l.length) rfl Tryz.runUnderlying22 (by simp only [lm, lc, ln])) (oR 1 rfl (oZ rfl (jB rfl (jl3 (fun (a_ : Nat) (b_ : Value) (c_ : List Int) => [(2, dZ), (6, .sh 2 (l.map RowD.d)), (7, dN l.length), (8, dN a_), (3, .ov b_)]) (fun a_ b_ c_ => [.sl b_ 1 3 (c_.map dI)]) (fun a_ b_ c_ => (a_ ≤ l.length) ∧ (c_ = (l.take a_).map (·.v))) (fun a_ b_ c_ => l.length - a_) 0 (.slice none 0 0) [] rfl ⟨sk rfl, sk rfl, sk rfl, sk rfl, sc rfl (Cv.ov rfl), trivial⟩ (HSub.nil 1 3) ⟨Nat.zero_le _, rfl⟩ ?_)))))))))))))
  rintro k ov o ⟨hk, ho⟩
  refine ja rfl (jn rfl ?_)
  have hol : o.length ≤ 1000000 := by rw [ho, List.length_map, List.length_take]; omega
  refine jT rfl (oP rfl (zP rfl rfl rfl) (oZ rfl (jS rfl ?_)))
  refine jD rfl (fun hc1 => ?_) (fun hc1 => ?_)
  · skip
    refine zk rfl (zc (jS rfl (jB rfl (jT rfl ?_))))
    obtain ⟨x1, hx1⟩ := zx l k (by omega)
    refine oP rfl (zu (k := k) rfl rfl Tryz.runUnderlying22 Tryz.sizeOf53 (by first | rfl | omega) (ze hx1)) (oP rfl (zaM (d := RowD.d x1) rfl Tryz.isAgg53 Tryz.sizeOf53 rfl rfl) (oE rfl (zav (zv := (.agg #[(.slice none 0 0), (.int .i64 0)])) Tryz.zeroValue53 ⟨rfl, rfl, trivial⟩ (Cv.vagg (by decide))) ?_))
    rintro _ _ ⟨g2, rfl, rfl⟩
    refine oE rfl (zZ (i := 0) (X' := RowD.d x1) rfl rfl rfl (CellD.agg) Tryz.sizeOf53 rfl rfl rfl) ?_
    rintro _ _ ⟨rfl, rfl⟩
    refine on rfl (oZ rfl (za rfl (oR 1 rfl (oP rfl (zo rfl zab rfl) (oP rfl (zI rfl (i := 0) rfl Tryz.isAgg3 rfl) (oE rfl (zai [.tmp 14] rfl rfl (.cons (CellD.v rfl) .nil) rfl Tryz.runUnderlying122 Tryz.sizeOf3 Tryz.zeroValue3 rfl rfl rfl rfl) ?_))))))
    rintro _ _ ⟨g3, rfl, rfl⟩
    refine oE rfl (z7 (f := dI) (l := o) (l' := [x1.v]) (i := 2) rfl rfl rfl (SrcD.own (j := 0) rfl rfl) und_122 infz_3 rfl rfl (by unfold maxLen; (try simp only [la, lc, ln, lm, lt', ld, ls, lr]); omega) (by (try simp only [la, lc, ln, lm, lt', ld, ls, lr]); omega)) ?_
    rintro _ _ ⟨v4, rfl, rfl⟩
    refine on rfl (oR 1 rfl (zi rfl (zy (zc (za rfl (oP rfl (zS (c := ((k + 1 : Nat) : Int)) rfl rfl (zB (by omega) (by omega))) (oR 1 rfl (zi rfl (PD.subH (HSub.perm (zaT (i := 2) rfl)) (pn rfl (PD.subH (HSub.fst 1 rfl) (pn rfl ?_))))))))))))
    exact pl3 (k + 1) v4 (o ++ [x1.v]) (sa rfl) HSub.rfl' ⟨by show k + 1 ≤ l.length; omega, by rw [ho, zas hx1]; simp⟩ (by omega)
  · skip
    refine zO rfl (zq (zp (zm (zc (jT rfl (oR 2 rfl (oZ rfl (zl rfl (PD.subH (HSub.less (zbh (i := 0) rfl)) (PD.subH (HSub.turn (h' := .sl ov 1 3 ((l.map (·.v)).map dI)) rfl (Hp.eq_sl (show List.map dI o = List.map dI (l.map (·.v)) from congrArg _ (by rw [ho, List.take_of_length_le (by omega)])))) ?_))))))))))
    exact zbf Tryz.results149 (.cons (zh rfl) .nil) rfl ⟨_, rfl, rfl⟩

theorem aggs_c   :
    CD Tryz.prog 143 [] [] (zcv 1 9 (aggN.map D.s)) := by
  refine zn Tryz.func143 rfl (N := 2) rfl rfl (fun C => ?_)
  refine jk [] rfl (jT rfl (oR 1 rfl (oZ rfl (jT rfl (oE rfl (zai [.const (.string (⟨#[115, 117, 109]⟩ : ByteArray)), .const (.string (⟨#[109, 105, 110]⟩ : ByteArray)), .const (.string (⟨#[109, 97, 120]⟩ : ByteArray)), .const (.string (⟨#[99, 111, 117, 110, 116]⟩ : ByteArray)), .const (.string (⟨#[97, 118, 103]⟩ : ByteArray)), .const (.string (⟨#[116, 111, 112, 107]⟩ : ByteArray)), .const (.string (⟨#[113, 117, 97, 110, 116, 105, 108, 101]⟩ : ByteArray))] rfl rfl (.cons (CellD.v rfl) (.cons (CellD.v rfl) (.cons (CellD.v rfl) (.cons (CellD.v rfl) (.cons (CellD.v rfl) (.cons (CellD.v rfl) (.cons (CellD.v rfl) .nil))))))) rfl Tryz.runUnderlying23 Tryz.sizeOf9 Tryz.zeroValue9 rfl rfl rfl rfl) ?_)))))
  rintro _ _ ⟨g1, rfl, rfl⟩
  refine oR 1 rfl (oZ rfl (zl rfl (PD.subH (HSub.turn (h' := .sl (vS g1 7 7) 1 9 ([(⟨#[115, 117, 109]⟩ : ByteArray), (⟨#[109, 105, 110]⟩ : ByteArray), (⟨#[109, 97, 120]⟩ : ByteArray), (⟨#[99, 111, 117, 110, 116]⟩ : ByteArray), (⟨#[97, 118, 103]⟩ : ByteArray), (⟨#[116, 111, 112, 107]⟩ : ByteArray), (⟨#[113, 117, 97, 110, 116, 105, 108, 101]⟩ : ByteArray)].map D.s)) rfl (Hp.cvs_sl (.cons (Cv.str (by first | decide | (unfold maxLen; omega))) (.cons (Cv.str (by first | decide | (unfold maxLen; omega))) (.cons (Cv.str (by first | decide | (unfold maxLen; omega))) (.cons (Cv.str (by first | decide | (unfold maxLen; omega))) (.cons (Cv.str (by first | decide | (unfold maxLen; omega))) (.cons (Cv.str (by first | decide | (unfold maxLen; omega))) (.cons (Cv.str (by first | decide | (unfold maxLen; omega))) .nil))))))))) (PD.subH (HSub.less (zbh (i := 0) rfl)) (PD.subH (HSub.turn (h' := .sl (vS g1 7 7) 1 9 (aggN.map D.s)) rfl (Hp.eq_sl (show List.map D.s [(⟨#[115, 117, 109]⟩ : ByteArray), (⟨#[109, 105, 110]⟩ : ByteArray), (⟨#[109, 97, 120]⟩ : ByteArray), (⟨#[99, 111, 117, 110, 116]⟩ : ByteArray), (⟨#[97, 118, 103]⟩ : ByteArray), (⟨#[116, 111, 112, 107]⟩ : ByteArray), (⟨#[113, 117, 97, 110, 116, 105, 108, 101]⟩ : ByteArray)] = List.map D.s aggN from congrArg _ (by rfl)))) ?_)))))
  exact zbf Tryz.results143 (.cons (zh rfl) .nil) rfl ⟨_, rfl, rfl⟩

theorem Agg_c (name : ByteArray)  :
    CD Tryz.prog 99 [] [.s name] (isR (dB (hasN aggN name))) := by
  refine zn Tryz.func99 rfl (N := 6) rfl rfl (fun C => ?_)
  refine jk [0] rfl ?_
  refine JD.bd 0 rfl (fun bd0 => ?_)
  have sz0 : name.size ≤ 9223372036854775807 := bd0
  refine jT rfl (oR 1 rfl (oZ rfl (jT rfl (oE rfl (zH [] _ [] rfl rfl (.nil) zt Tryz.call143 (aggs_c) (.inl rfl)) ?_))))
  rintro _ _ ⟨_, ⟨v1, rfl, rfl⟩, rfl⟩
  refine on rfl (oR 1 rfl (oE rfl (zH [] _ [.sl v1 1 9 (aggN.map D.s)] rfl rfl (.cons (ArgC.own (j := 0) rfl rfl) (.cons ArgC.id .nil)) (zaN (j := 0) rfl zt) Tryz.call117 (containsS_c aggN name) (.inr (zbu rfl))) ?_))
  rintro _ _ ⟨_, ⟨rfl, rfl⟩, rfl⟩
  refine on rfl (oR 1 rfl (oZ rfl (zl rfl ?_)))
  exact zj Tryz.results99 (.cons (zh rfl) .nil) rfl HSub.none ⟨rfl, rfl⟩

def wayD : Option Way → D
  | none => .v .nilIface
  | some (.sums m) => .ifc 156 (.agg [dB m])
  | some .least => .ifc 159 (.agg [.fn 140 [] []])
  | some .most => .ifc 159 (.agg [.fn 141 [] []])
  | some .many => .ifc 159 (.agg [.fn 142 [] []])
  | some (.rank p) => .ifc 161 (.agg [dI p])
  | some (.top n) => .ifc 105 (.agg [dI n])

theorem way_c (name : ByteArray) (n : Int)  :
    CD Tryz.prog 98 [] [.s name, dI n] (isR (wayD (wayO name n))) := by
  refine zn Tryz.func98 rfl (N := 59) rfl rfl (fun C => ?_)
  refine jk [0, 1] rfl ?_
  refine JD.bd 0 rfl (fun bd0 => ?_)
  have sz0 : name.size ≤ 9223372036854775807 := bd0
  refine jT rfl (oR 1 rfl (oZ rfl (jS rfl (jB rfl (jS rfl (jk [0, 1, 4] rfl ?_))))))
  refine zao 5 ((decide (name = (⟨#[115, 117, 109]⟩ : ByteArray)) || decide (name = (⟨#[97, 118, 103]⟩ : ByteArray)))) [] (fun _ hQ1 => ?_) ?_
  · skip
    by_cases hg2 : name = (⟨#[115, 117, 109]⟩ : ByteArray)
    · skip
      refine za rfl (oR 1 rfl (oP rfl (zaH rfl rfl (decide_eq_true hg2)) (oR 5 rfl (zi rfl ?_))))
      exact PD.sub ((5, dB (decide (name = (⟨#[115, 117, 109]⟩ : ByteArray)) || decide (name = (⟨#[97, 118, 103]⟩ : ByteArray)))) :: [(0, .s name), (1, dI n), (4, .v .nilIface)]) ⟨sc rfl (Cv.eq (congrArg (fun b => D.v (.bool b)) (by first | (simp [hg2]; done) | (simp_all; done)))), sk rfl, sk rfl, sk rfl, trivial⟩ hQ1
    · skip
      refine za rfl (oR 1 rfl (oP rfl (zaH rfl rfl (decide_eq_false hg2)) (oR 2 rfl (oG rfl (zaH rfl rfl rfl) (oR 2 rfl (zi rfl ?_))))))
      exact PD.sub ((5, dB (decide (name = (⟨#[115, 117, 109]⟩ : ByteArray)) || decide (name = (⟨#[97, 118, 103]⟩ : ByteArray)))) :: [(0, .s name), (1, dI n), (4, .v .nilIface)]) ⟨sc rfl (Cv.eq (congrArg (fun b => D.v (.bool b)) (by first | (simp [hg2]; done) | (simp_all; done)))), sk rfl, sk rfl, sk rfl, trivial⟩ hQ1
  · skip
    refine zc ?_
    refine jC rfl (fun hc3 => ?_) (fun hc3 => ?_)
    · simp only [bA, bB, bC, bD, bE, bF, bG, bH, bI, bJ] at hc3
      refine jT rfl (oR 1 rfl (oP rfl (zaH rfl rfl rfl) (oP rfl (zaV [0] [.tmp 13] (zv := (.agg #[(.bool false)])) rfl rfl (.cons (CellD.v rfl) .nil) (Tryz.runUnderlying156) Tryz.zeroValue156 bd_156 ⟨rfl, trivial⟩ rfl) (oP rfl (zbR rfl (fun _ _ => by kernel_rfl)) (oR 1 rfl (oZ rfl (zl rfl (zf (zb ?_)))))))))
      exact zj Tryz.results98 (.cons (zr (zh rfl) (Cv.eq (congrArg wayD (show (some (.sums (decide (name = (⟨#[97, 118, 103]⟩ : ByteArray))))) = wayO name n from (by unfold wayO; (repeat' split) <;> first | rfl | (simp_all; done) | (exfalso; simp_all; omega)))))) .nil) rfl HSub.none ⟨rfl, rfl⟩
    · simp only [bA, bB, bC, bD, bE, bF, bG, bH, bI, bJ] at hc3
      refine jT rfl (oR 1 rfl (oP rfl (zaH rfl rfl rfl) (oR 1 rfl (oZ rfl ?_))))
      refine jD rfl (fun hc4 => ?_) (fun hc4 => ?_)
      · skip
        refine jT rfl (oP rfl (zaV [0] [.func 140] (zv := (.agg #[.nilFunc])) rfl rfl (.cons CellD.fn .nil) (Tryz.runUnderlying159) Tryz.zeroValue159 bd_159 ⟨rfl, trivial⟩ rfl) (oP rfl (zbR rfl (fun _ _ => by kernel_rfl)) (oR 1 rfl (oZ rfl (zl rfl (zf (zb ?_)))))))
        exact zj Tryz.results98 (.cons (zr (zh rfl) (Cv.eq (congrArg wayD (show (some .least) = wayO name n from (by unfold wayO; (repeat' split) <;> first | rfl | (simp_all; done) | (exfalso; simp_all; omega)))))) .nil) rfl HSub.none ⟨rfl, rfl⟩
      · skip
        refine jT rfl (oR 1 rfl (oP rfl (zaH rfl rfl rfl) (oR 1 rfl (oZ rfl ?_))))
        refine jD rfl (fun hc5 => ?_) (fun hc5 => ?_)
        · skip
          refine jT rfl (oP rfl (zaV [0] [.func 141] (zv := (.agg #[.nilFunc])) rfl rfl (.cons CellD.fn .nil) (Tryz.runUnderlying159) Tryz.zeroValue159 bd_159 ⟨rfl, trivial⟩ rfl) (oP rfl (zbR rfl (fun _ _ => by kernel_rfl)) (oR 1 rfl (oZ rfl (jk [4] rfl (zl rfl (zf (zb ?_))))))))
          exact zj Tryz.results98 (.cons (zr (zh rfl) (Cv.eq (congrArg wayD (show (some .most) = wayO name n from (by unfold wayO; (repeat' split) <;> first | rfl | (simp_all; done) | (exfalso; simp_all; omega)))))) .nil) rfl HSub.none ⟨rfl, rfl⟩
        · skip
          refine jT rfl (oR 1 rfl (oP rfl (zaH rfl rfl rfl) (oR 1 rfl (oZ rfl (jk [0, 1, 4, 26] rfl ?_)))))
          refine jD rfl (fun hc6 => ?_) (fun hc6 => ?_)
          · skip
            refine jT rfl (oP rfl (zaV [0] [.func 142] (zv := (.agg #[.nilFunc])) rfl rfl (.cons CellD.fn .nil) (Tryz.runUnderlying159) Tryz.zeroValue159 bd_159 ⟨rfl, trivial⟩ rfl) (oP rfl (zbR rfl (fun _ _ => by kernel_rfl)) (oR 1 rfl (oZ rfl (zl rfl (zf (zb ?_)))))))
            exact zj Tryz.results98 (.cons (zr (zh rfl) (Cv.eq (congrArg wayD (show (some .many) = wayO name n from (by unfold wayO; (repeat' split) <;> first | rfl | (simp_all; done) | (exfalso; simp_all; omega)))))) .nil) rfl HSub.none ⟨rfl, rfl⟩
          · skip
            refine jS rfl (jk [0, 1, 4] rfl ?_)
            refine zao 31 (((decide (name = (⟨#[113, 117, 97, 110, 116, 105, 108, 101]⟩ : ByteArray)) && decide ((0 : Int) ≤ n)) && decide (n ≤ (100 : Int)))) [] (fun _ hQ7 => ?_) ?_
            · skip
              by_cases hg8 : name = (⟨#[113, 117, 97, 110, 116, 105, 108, 101]⟩ : ByteArray)
              · skip
                by_cases hg9 : (0 : Int) ≤ n
                · skip
                  refine za rfl (oR 1 rfl (oP rfl (zaH rfl rfl (decide_eq_true hg8)) (oR 2 rfl (oG rfl (zU rfl rfl (decide_eq_true hg9)) (oR 3 rfl (oG rfl (zaw rfl rfl rfl) (oR 2 rfl (zi rfl ?_))))))))
                  exact PD.sub ((31, dB ((decide (name = (⟨#[113, 117, 97, 110, 116, 105, 108, 101]⟩ : ByteArray)) && decide ((0 : Int) ≤ n)) && decide (n ≤ (100 : Int)))) :: [(0, .s name), (1, dI n), (4, .v .nilIface)]) ⟨sc rfl (Cv.eq (congrArg (fun b => D.v (.bool b)) (by first | (simp [hc4, hc5, hc6, hg8, hg9]; done) | (simp_all; done)))), sk rfl, sk rfl, sk rfl, trivial⟩ hQ7
                · skip
                  refine za rfl (oR 1 rfl (oP rfl (zaH rfl rfl (decide_eq_true hg8)) (oR 2 rfl (oG rfl (zU rfl rfl (decide_eq_false hg9)) (oR 6 rfl (zi rfl ?_))))))
                  exact PD.sub ((31, dB ((decide (name = (⟨#[113, 117, 97, 110, 116, 105, 108, 101]⟩ : ByteArray)) && decide ((0 : Int) ≤ n)) && decide (n ≤ (100 : Int)))) :: [(0, .s name), (1, dI n), (4, .v .nilIface)]) ⟨sc rfl (Cv.eq (congrArg (fun b => D.v (.bool b)) (by first | (simp [hc4, hc5, hc6, hg8, hg9]; done) | (simp_all; done)))), sk rfl, sk rfl, sk rfl, trivial⟩ hQ7
              · skip
                refine za rfl (oR 1 rfl (oP rfl (zaH rfl rfl (decide_eq_false hg8)) (oR 9 rfl (zi rfl ?_))))
                exact PD.sub ((31, dB ((decide (name = (⟨#[113, 117, 97, 110, 116, 105, 108, 101]⟩ : ByteArray)) && decide ((0 : Int) ≤ n)) && decide (n ≤ (100 : Int)))) :: [(0, .s name), (1, dI n), (4, .v .nilIface)]) ⟨sc rfl (Cv.eq (congrArg (fun b => D.v (.bool b)) (by first | (simp [hc4, hc5, hc6, hg8]; done) | (simp_all; done)))), sk rfl, sk rfl, sk rfl, trivial⟩ hQ7
            · skip
              refine zc ?_
              refine jC rfl (fun hc10 => ?_) (fun hc10 => ?_)
              · simp only [bA, bB, bC, bD, bE, bF, bG, bH, bI, bJ] at hc10
                refine jT rfl (oR 1 rfl (oP rfl (zaV [0] [.tmp 42] (zv := (.agg #[(.int .i64 0)])) rfl rfl (.cons (CellD.v rfl) .nil) (Tryz.runUnderlying161) Tryz.zeroValue161 bd_161 ⟨rfl, trivial⟩ rfl) (oP rfl (zbR rfl (fun _ _ => by kernel_rfl)) (oR 1 rfl (oZ rfl (zl rfl (zf (zb ?_))))))))
                exact zj Tryz.results98 (.cons (zr (zh rfl) (Cv.eq (congrArg wayD (show (some (.rank n)) = wayO name n from (by unfold wayO; (repeat' split) <;> first | rfl | (simp_all; done) | (exfalso; simp_all; omega)))))) .nil) rfl HSub.none ⟨rfl, rfl⟩
              · simp only [bA, bB, bC, bD, bE, bF, bG, bH, bI, bJ] at hc10
                refine jS rfl (jk [0, 1, 4] rfl ?_)
                refine zao 45 (((decide (name = (⟨#[116, 111, 112, 107]⟩ : ByteArray)) && decide ((1 : Int) ≤ n)) && decide (n ≤ (2000 : Int)))) [] (fun _ hQ11 => ?_) ?_
                · skip
                  by_cases hg12 : name = (⟨#[116, 111, 112, 107]⟩ : ByteArray)
                  · skip
                    by_cases hg13 : (1 : Int) ≤ n
                    · skip
                      refine za rfl (oR 1 rfl (oP rfl (zaH rfl rfl (decide_eq_true hg12)) (oR 2 rfl (oG rfl (zU rfl rfl (decide_eq_true hg13)) (oR 3 rfl (oG rfl (zaw rfl rfl rfl) (oR 2 rfl (zi rfl ?_))))))))
                      exact PD.sub ((45, dB ((decide (name = (⟨#[116, 111, 112, 107]⟩ : ByteArray)) && decide ((1 : Int) ≤ n)) && decide (n ≤ (2000 : Int)))) :: [(0, .s name), (1, dI n), (4, .v .nilIface)]) ⟨sc rfl (Cv.eq (congrArg (fun b => D.v (.bool b)) (by first | (simp [hc4, hc5, hc6, hg12, hg13]; done) | (simp_all; done)))), sk rfl, sk rfl, sk rfl, trivial⟩ hQ11
                    · skip
                      refine za rfl (oR 1 rfl (oP rfl (zaH rfl rfl (decide_eq_true hg12)) (oR 2 rfl (oG rfl (zU rfl rfl (decide_eq_false hg13)) (oR 6 rfl (zi rfl ?_))))))
                      exact PD.sub ((45, dB ((decide (name = (⟨#[116, 111, 112, 107]⟩ : ByteArray)) && decide ((1 : Int) ≤ n)) && decide (n ≤ (2000 : Int)))) :: [(0, .s name), (1, dI n), (4, .v .nilIface)]) ⟨sc rfl (Cv.eq (congrArg (fun b => D.v (.bool b)) (by first | (simp [hc4, hc5, hc6, hg12, hg13]; done) | (simp_all; done)))), sk rfl, sk rfl, sk rfl, trivial⟩ hQ11
                  · skip
                    refine za rfl (oR 1 rfl (oP rfl (zaH rfl rfl (decide_eq_false hg12)) (oR 9 rfl (zi rfl ?_))))
                    exact PD.sub ((45, dB ((decide (name = (⟨#[116, 111, 112, 107]⟩ : ByteArray)) && decide ((1 : Int) ≤ n)) && decide (n ≤ (2000 : Int)))) :: [(0, .s name), (1, dI n), (4, .v .nilIface)]) ⟨sc rfl (Cv.eq (congrArg (fun b => D.v (.bool b)) (by first | (simp [hc4, hc5, hc6, hg12]; done) | (simp_all; done)))), sk rfl, sk rfl, sk rfl, trivial⟩ hQ11
                · skip
                  refine zc ?_
                  refine jC rfl (fun hc14 => ?_) (fun hc14 => ?_)
                  · simp only [bA, bB, bC, bD, bE, bF, bG, bH, bI, bJ] at hc14
                    refine jT rfl (oR 1 rfl (oP rfl (zaV [0] [.tmp 56] (zv := (.agg #[(.int .i64 0)])) rfl rfl (.cons (CellD.v rfl) .nil) (Tryz.runUnderlying105) Tryz.zeroValue105 bd_105 ⟨rfl, trivial⟩ rfl) (oP rfl (zbR rfl (fun _ _ => by kernel_rfl)) (oR 1 rfl (oZ rfl (zl rfl (zf (zb ?_))))))))
                    exact zj Tryz.results98 (.cons (zr (zh rfl) (Cv.eq (congrArg wayD (show (some (.top n)) = wayO name n from (by unfold wayO; (repeat' split) <;> first | rfl | (simp_all; done) | (exfalso; simp_all; omega)))))) .nil) rfl HSub.none ⟨rfl, rfl⟩
                  · simp only [bA, bB, bC, bD, bE, bF, bG, bH, bI, bJ] at hc14
                    refine zk rfl (zy (zc (jT rfl (oR 1 rfl (oZ rfl (zl rfl ?_))))))
                    exact zj Tryz.results98 (.cons (zr (zh rfl) (Cv.eq (congrArg wayD (show none = wayO name n from (by unfold wayO; (repeat' split) <;> first | rfl | (simp_all; done) | (exfalso; simp_all; omega)))))) .nil) rfl HSub.none ⟨rfl, rfl⟩
end Lp
/-
  NUMBERS OF THE CALL's OWN, SORTED BY THE LIBRARY (slices.Sort at int).
-/
set_option linter.unusedVariables false
namespace Lp
open Go Go.RowKit Go.Sort
theorem repI {w : World} {F : Nat → Prop} : ∀ {l : List Int} {us : List Value}, RepE w F 1 (l.map (fun n => D.v (.int .i64 n))) us → us = l.map (Value.int .i64)
  | [], us, h => h
  | x :: l, us, ⟨u, t, e, h1, _, _, h2⟩ => by rw [e, show u = Value.int .i64 x from h1, repI h2]; rfl
theorem repI_mk {w : World} {F : Nat → Prop} : ∀ (l : List Int), RepE w F 1 (l.map (fun n => D.v (.int .i64 n))) (l.map (Value.int .i64))
  | [] => rfl
  | x :: l => ⟨_, _, rfl, rfl, One.one rfl, rfl, repI_mk l⟩
theorem flatI (l : List Int) : (l.map (Value.int .i64)).flatMap vcs = l.map (Value.int .i64) := by
  induction l with
  | nil => rfl
  | cons x l ih => rw [List.map_cons, List.flatMap_cons, ih]; rfl
abbrev SortInt (P : Program) (f : FuncId) : Prop := ∀ (blk off cap : Nat) (zs : List Int) (w : World), Holds (Value.int .i64) w blk off zs.toArray → blk < w.heap.size → zs.length < 4611686018427387904 →
  Calls P f #[.slice (some ⟨blk, off, none⟩) zs.length cap] w fun e w' => e = .returned (.tuple #[]) ∧ ∃ n os, w' = grow (putRow (Value.int .i64) (Sort.ahead w n) blk off (zs.mergeSort fun x y => decide (x ≤ y)).toArray) os
theorem sortI_cd {P : Program} {f : FuncId} (hS : SortInt P f) (v : Value) (T : TypeId) (l : List Int) (h0 : 0 < l.length) (hl : l.length ≤ 1000000) :
    CD P f [.sl v 1 T (l.map (fun n => D.v (.int .i64 n)))] [.ov v] (fun r H' => r = .tup [] ∧ H' = [.sl v 1 T ((srtI l).map (fun n => D.v (.int .i64 n)))]) := by
  refine ⟨fun w F vs hr hF hH => ?_⟩
  obtain ⟨u, us', rfl, ⟨rfl, hu1⟩, hr'⟩ := hr
  obtain rfl : us' = [] := hr'
  have gd := Good.start hF hH
  obtain ⟨us, hu, ho⟩ := hH.ok _ List.mem_cons_self
  obtain rfl := repI hu
  have ho1 := ho.1
  rw [flatI, List.length_map] at ho1
  rcases ho1.2 with ⟨_, hz⟩ | ⟨g, cap, cur, hv, hb, hg, hnc, hmx, hsz, htake⟩
  · omega
  subst hv
  rw [Nat.mul_one] at htake
  have hlt : g < w.heap.size := (Array.getElem?_eq_some_iff.1 hg).1
  refine (hS g 0 cap l w (holds_of_blockI hg htake) hlt (by omega)).mono fun e w' he => ?_
  obtain ⟨rfl, n, os, rfl⟩ := he
  have hgb := grownBy_sortedI (w := w) (g := g) (n := n) (os := os) (srtI l).toArray
  have U : Upd g (g + 1) w (grow (putRow (Value.int .i64) (Sort.ahead w n) g 0 (srtI l).toArray) os) := ⟨hgb.os, hgb.tape, hgb.output, hgb.size, fun k hk hh => hgb.block k hk (fun e => by injection e with e; omega)⟩
  have hown := ownsRow_sortedI (w := w) (base := 0) (g := g) (cap := cap) (n := n) (e := T) (os := os) (cur := cur) (ss := l) (ts := srtI l) (srtI_len l) (Nat.zero_le _) hg hnc hmx hsz
  have key := gd.row (i := 0) (v' := .slice (some ⟨g, 0, none⟩) l.length cap) (xs' := (srtI l).map (fun n => D.v (.int .i64 n))) rfl rfl rfl U (fun kp => ⟨_, repI_mk _, by
    refine ⟨?_, fun x hx => ?_⟩
    · rw [flatI, List.length_map, srtI_len]; exact hown
    · obtain ⟨y, _, rfl⟩ := List.mem_map.1 hx; rfl⟩)
  exact ⟨_, rfl, F, _, _, ⟨rfl, rfl⟩, ⟨[], rfl, rfl⟩, key.1⟩
end Lp
/-
  DERIVED: THE SHELF's CONTRACTS AT THIS DUMP, IN PLAIN WORDS (tools/lay-plain.mjs out of 'YtfjinapgehafiaaGreatShelf.lean', which tools/lay-shelf.mjs wrote): THE SAME DECLARATIONS UNDER THE SAME NAMES: 'import', 'namespace', 'open', 'def', 'theorem' AND NOTHING ELSE: no command of the shelf's: FOR A HAND-IN. Each laying: the table of numbers ('.._ren') and one theorem, a field a fact of the dump's own or the kernel's comparison; each contract: ONE APPLICATION.
-/
namespace Go.Proofs
open Go.Shelf
def Tryz.lays189_ren : Go.Shelf.Ren := ⟨fun | 189 => 187 | 125 => 145 | 257 => 202 | 128 => 181 | 129 => 182 | 294 => 212 | 295 => 213 | 296 => 214 | 297 => 215 | 298 => 216 | 299 => 217 | 216 => 218 | 300 => 219 | 301 => 220 | 328 => 230 | 329 => 198 | 330 => 199 | 331 => 231 | 332 => 232 | 215 => 183 | 343 => 236 | n => n, fun | 28 => 122 | 3 => 3 | 46 => 165 | 0 => 0 | 51 => 205 | 53 => 207 | 4 => 4 | 183 => 199 | 182 => 198 | 131 => 108 | 5 => 5 | 9 => 9 | 218 => 214 | 222 => 218 | 228 => 226 | 229 => 227 | n => n, fun | n => n⟩
theorem Tryz.lays189 : Go.Proofs.Lays.n189 Tryz.prog Tryz.lays189_ren := {
  mixed := by kernel_rfl
  f125 := Tryz.func145.trans (congrArg some (by kernel_rfl))
  f128 := Tryz.func181.trans (congrArg some (by kernel_rfl))
  f129 := Tryz.func182.trans (congrArg some (by kernel_rfl))
  f189 := Tryz.func187.trans (congrArg some (by kernel_rfl))
  f215 := Tryz.func183.trans (congrArg some (by kernel_rfl))
  f216 := Tryz.func218.trans (congrArg some (by kernel_rfl))
  f257 := Tryz.func202.trans (congrArg some (by kernel_rfl))
  f294 := Tryz.func212.trans (congrArg some (by kernel_rfl))
  f295 := Tryz.func213.trans (congrArg some (by kernel_rfl))
  f296 := Tryz.func214.trans (congrArg some (by kernel_rfl))
  f297 := Tryz.func215.trans (congrArg some (by kernel_rfl))
  f298 := Tryz.func216.trans (congrArg some (by kernel_rfl))
  f299 := Tryz.func217.trans (congrArg some (by kernel_rfl))
  f300 := Tryz.func219.trans (congrArg some (by kernel_rfl))
  f301 := Tryz.func220.trans (congrArg some (by kernel_rfl))
  f328 := Tryz.func230.trans (congrArg some (by kernel_rfl))
  f329 := Tryz.func198.trans (congrArg some (by kernel_rfl))
  f330 := Tryz.func199.trans (congrArg some (by kernel_rfl))
  f331 := Tryz.func231.trans (congrArg some (by kernel_rfl))
  f332 := Tryz.func232.trans (congrArg some (by kernel_rfl))
  f343 := Tryz.func236.trans (congrArg some (by kernel_rfl))
  t0 := Tryz.underlying0
  a0 := Tryz.isAgg0
  z0 := Tryz.sizeOf0
  v0 := Tryz.zeroValue0
  t3 := Tryz.underlying3
  a3 := Tryz.isAgg3
  z3 := Tryz.sizeOf3
  v3 := Tryz.zeroValue3
  t4 := Tryz.underlying4
  a4 := Tryz.isAgg4
  z4 := Tryz.sizeOf4
  v4 := Tryz.zeroValue4
  t5 := Tryz.underlying5
  a5 := Tryz.isAgg5
  z5 := Tryz.sizeOf5
  v5 := Tryz.zeroValue5
  t9 := Tryz.underlying9
  a9 := Tryz.isAgg9
  z9 := Tryz.sizeOf9
  v9 := Tryz.zeroValue9
  t28 := Tryz.underlying122
  a28 := Tryz.isAgg122
  z28 := Tryz.sizeOf122
  v28 := Tryz.zeroValue122
  t46 := Tryz.underlying165
  a46 := Tryz.isAgg165
  z46 := Tryz.sizeOf165
  v46 := Tryz.zeroValue165
  t51 := Tryz.underlying205
  a51 := Tryz.isAgg205
  z51 := Tryz.sizeOf205
  v51 := Tryz.zeroValue205
  t53 := Tryz.underlying207
  a53 := Tryz.isAgg207
  z53 := Tryz.sizeOf207
  v53 := Tryz.zeroValue207
  t131 := Tryz.underlying108
  a131 := Tryz.isAgg108
  z131 := Tryz.sizeOf108
  v131 := Tryz.zeroValue108
  t182 := Tryz.underlying198
  a182 := Tryz.isAgg198
  z182 := Tryz.sizeOf198
  v182 := Tryz.zeroValue198
  t183 := Tryz.underlying199
  a183 := Tryz.isAgg199
  z183 := Tryz.sizeOf199
  v183 := Tryz.zeroValue199
  t218 := Tryz.underlying214
  a218 := Tryz.isAgg214
  z218 := Tryz.sizeOf214
  v218 := Tryz.zeroValue214
  t222 := Tryz.underlying218
  a222 := Tryz.isAgg218
  z222 := Tryz.sizeOf218
  v222 := Tryz.zeroValue218
  t228 := Tryz.underlying226
  a228 := Tryz.isAgg226
  z228 := Tryz.sizeOf226
  v228 := Tryz.zeroValue226
  t229 := Tryz.underlying227
  a229 := Tryz.isAgg227
  z229 := Tryz.sizeOf227
  v229 := Tryz.zeroValue227 }
end Go.Proofs
/- Walks, printed by a program of mine. -/
set_option linter.unusedSimpArgs false
set_option linter.unusedVariables false
set_option maxHeartbeats 4000000
set_option maxRecDepth 100000
namespace Lp
open Go Go.RowKit Go.Proofs

namespace HdYtfjinapgehafiaaGreatV83
theorem eqn_122 (x : Operand) (A : Option Addr) (n c : Nat) (w : World) : (do eqGuard .eql 122 x (.const (.slice none 0 0)) (.slice A n c) (.slice none 0 0); binOp .eql 122 (.slice A n c) (.slice none 0 0) : Sem Value).run Tryz.prog w = .ok (.bool A.isNone) w := by cases A <;> kernel_rfl
theorem infz_3 : ∃ i, Tryz.prog.info? 3 = some i ∧ i.zero = some (.int .i64 0) ∧ i.size = 1 ∧ i.bytes = 8 := za5 (by kernel_rfl)
theorem und_122 : Tryz.prog.underlying 122 = some (.slice 3) := by kernel_rfl
end HdYtfjinapgehafiaaGreatV83
open HdYtfjinapgehafiaaGreatV83

theorem cloneI_c (l : List Int) (hl : l.length ≤ 1000000) :
    CD Tryz.prog 186 [] [.sh 1 (l.map dI)] (zcv 1 3 (l.map dI)) := by
  refine zn Tryz.func186 rfl (N := 8) rfl rfl (fun C => ?_)
  refine jk [0] rfl ?_
  refine JD.bd 0 rfl (fun bd0 => ?_)
  have nl0 := zQ bd0
  refine jT rfl (oR 1 rfl (oZ rfl (jS rfl (jT rfl (oR 1 rfl (oE rfl (ef_isNil rfl (eqn_122 _)) ?_))))))
  rintro _ _ ⟨b1, rfl, rfl, hb1⟩
  refine oZ rfl ?_
  refine jC rfl (fun hc2 => ?_) (fun hc2 => ?_)
  · skip
    refine jT rfl (oR 1 rfl (oZ rfl (zl rfl (zb ?_))))
    refine PD.drop (PD.subH (HSub.nil 1 3) ?_)
    refine PD.subH (HSub.turn (h' := .sl (.slice none 0 0) 1 3 (l.map dI)) rfl (Hp.eq_sl (show List.map dI [] = List.map dI l from congrArg _ (by exact (List.map_eq_nil_iff.1 (hb1 hc2)).symm)))) ?_
    exact zbf Tryz.results186 (.cons (zr (zh rfl) (Cv.ov rfl)) .nil) rfl ⟨_, rfl, rfl⟩
  · skip
    refine zk rfl (zc (jT rfl (oE rfl (ef_buildSlice0 Tryz.runUnderlying122 Tryz.sizeOf3) ?_)))
    rintro _ _ ⟨g3, rfl, rfl⟩
    refine oR 1 rfl (oE rfl (z7 (f := dI) (l := []) (l' := l) (i := 0) rfl rfl rfl (SrcD.sh) und_122 infz_3 rfl rfl (by unfold maxLen; (try simp only [la, lc, ln, lm, lt', ld, ls, lr]); omega) (by (try simp only [la, lc, ln, lm, lt', ld, ls, lr]); omega)) ?_)
    rintro _ _ ⟨v4, rfl, rfl⟩
    refine on rfl (oR 1 rfl (oZ rfl (zl rfl (PD.subH (HSub.less (zbh (i := 0) rfl)) (PD.subH (HSub.turn (h' := .sl v4 1 3 (l.map dI)) rfl (Hp.eq_sl (show List.map dI ([] ++ l) = List.map dI l from congrArg _ (by rfl)))) ?_)))))
    exact zbf Tryz.results186 (.cons (zh rfl) .nil) rfl ⟨_, rfl, rfl⟩

theorem sortI_c (v : Value) (l : List Int) (h0 : 0 < l.length) (hl : l.length ≤ 1000000) : CD Tryz.prog 187 [.sl v 1 3 (l.map dI)] [.ov v] (fun r H' => r = .tup [] ∧ H' = [.sl v 1 3 ((srtI l).map dI)]) :=
  sortI_cd (fun blk off cap zs w a b c => Go.Proofs.Any.slices_Sort_int Go.Proofs.Tryz.lays189 blk off cap zs w a b c) v 3 l h0 hl

theorem rank_c (p : Int) (l : List Int) (hp0 : 0 ≤ p) (hp1 : p ≤ 100) (h0 : 0 < l.length) (hl : l.length ≤ 1000000) :
    CD Tryz.prog 151 [] [dI p, .sh 1 (l.map dI)] (isR (.tup [dI (zcu p l), dB true])) := by
  refine zn Tryz.func151 rfl (N := 34) rfl rfl (fun C => ?_)
  refine jk [0, 1] rfl ?_
  refine JD.bd 1 rfl (fun bd1 => ?_)
  have nl1 := zQ bd1
  have hd0 : ¬ ((l.length : Nat) : Int) = (0 : Int) := by omega
  have hd1 : ¬ p < (0 : Int) := by omega
  have hd2 : ¬ (100 : Int) < p := by omega
  have hpm := rank_pm (n := l.length) hp0 hp1
  obtain ⟨hq1, hq2⟩ := rank_q (n := l.length) hp0 hp1 h0
  have hdv := rank_div (n := l.length) hp0 hp1
  refine jT rfl (oR 2 rfl (oZ rfl (jS rfl (jT rfl (oR 1 rfl (oP rfl (zaa (n := l.length) rfl Tryz.runUnderlying122 (by simp only [lm, lc, ln])) (oP rfl (zJ rfl rfl (decide_eq_false hd0)) (oR 2 rfl (oG rfl (zP rfl rfl (decide_eq_false hd1)) (oR 3 rfl (oG rfl (zag rfl rfl (decide_eq_false hd2)) (oR 1 rfl (oZ rfl (jk [0, 1, 4, 5, 17] rfl (jCf rfl (zk rfl (zc (jT rfl (oR 1 rfl (oE rfl (zH [] _ [] rfl rfl (.cons ArgC.id .nil) zt Tryz.call186 (cloneI_c l (by omega)) (.inl rfl)) ?_))))))))))))))))))))
  rintro _ _ ⟨_, ⟨v1, rfl, rfl⟩, rfl⟩
  refine on rfl (oR 1 rfl (oZ rfl (jT rfl (oR 1 rfl (oE rfl (zH [.sl v1 1 3 (l.map dI)] [] [] rfl rfl (.cons ArgC.id .nil) zt Tryz.call187 (sortI_c v1 l (by omega) (by omega)) (.inl rfl)) ?_)))))
  rintro _ _ ⟨_, ⟨rfl, rfl⟩, rfl⟩
  refine on rfl ?_
  have hsl := srtI_len l
  refine oZ rfl (jT rfl (oR 3 rfl (oP rfl (zaa (n := l.length) rfl Tryz.runUnderlying122 (by simp only [lm, lc, ln])) (oP rfl (p_mul (c := (p * ((l.length : Nat) : Int))) rfl rfl (zB (by omega) (by omega))) (oP rfl (zS (c := ((p * ((l.length : Nat) : Int)) + 100)) rfl rfl (zB (by omega) (by omega))) (oP rfl (zau (c := (((p * ((l.length : Nat) : Int)) + 100) - 1)) rfl rfl (zB (by omega) (by omega))) (oP rfl (p_quo (c := (Int.tdiv (p * ((l.length : Nat) : Int) + 100 - 1) 100)) rfl rfl (by omega) (zB rfl (by omega))) (oP rfl (p_max rfl rfl rfl) (oP rfl (zau (c := ((zcR p l.length : Nat) : Int)) rfl rfl (zB (by omega) (by omega))) ?_)))))))))
  obtain ⟨x1, hx1⟩ := zx (srtI l) (zcR p l.length) (by omega)
  have hrk : x1 = zcu p l := by unfold zcu; rw [hx1]; rfl
  refine oP rfl (zg (k := (zcR p l.length)) (j := 0) rfl rfl rfl Tryz.runUnderlying122 Tryz.sizeOf3 (by first | rfl | omega) (ze hx1)) (oP rfl (zR rfl (i := 0) rfl (ze hx1) Tryz.isAgg3 rfl) (oR 2 rfl (oZ rfl (jk [4, 5] rfl (zl rfl ?_)))))
  exact zj Tryz.results151 (.cons (zr (zh rfl) (Cv.eq (congrArg (fun n => D.v (.int .i64 n)) (by first | rfl | exact hrk)))) (.cons (zh rfl) .nil)) rfl HSub.none ⟨rfl, rfl⟩
end Lp
