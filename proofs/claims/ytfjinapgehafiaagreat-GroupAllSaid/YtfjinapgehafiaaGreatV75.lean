/- Walks, printed by a program of mine. -/
import Derived.Test.YtfjinapgehafiaaGreatV74
set_option linter.unusedSimpArgs false
set_option linter.unusedVariables false
set_option maxHeartbeats 4000000
set_option maxRecDepth 100000
namespace Lp
open Go Go.RowKit Go.Proofs

namespace HdYtfjinapgehafiaaGreatV75
theorem bd_105 : ∀ w, ((#[⟨"n", 3, 0, false, "", "leporello/group", 0⟩] : Array Field).mapM fun f => do pure (f.offset, ← Go.sizeOf f.type) : Sem (Array (Nat × Nat))).run Tryz.prog w = .ok ([(0, 1)] : List (Nat × Nat)).toArray w := fun _ => by kernel_rfl
theorem bd_156 : ∀ w, ((#[⟨"mean", 4, 0, false, "", "leporello/group", 0⟩] : Array Field).mapM fun f => do pure (f.offset, ← Go.sizeOf f.type) : Sem (Array (Nat × Nat))).run Tryz.prog w = .ok ([(0, 1)] : List (Nat × Nat)).toArray w := fun _ => by kernel_rfl
theorem bd_159 : ∀ w, ((#[⟨"of", 157, 0, false, "", "leporello/group", 0⟩] : Array Field).mapM fun f => do pure (f.offset, ← Go.sizeOf f.type) : Sem (Array (Nat × Nat))).run Tryz.prog w = .ok ([(0, 1)] : List (Nat × Nat)).toArray w := fun _ => by kernel_rfl
theorem bd_161 : ∀ w, ((#[⟨"p", 3, 0, false, "", "leporello/group", 0⟩] : Array Field).mapM fun f => do pure (f.offset, ← Go.sizeOf f.type) : Sem (Array (Nat × Nat))).run Tryz.prog w = .ok ([(0, 1)] : List (Nat × Nat)).toArray w := fun _ => by kernel_rfl
theorem z5 (b o : Nat) : ∀ w, (Instr.fieldAt 53 (.pointer (some ⟨b, o, none⟩)) 1).run Tryz.prog w = .ok (.pointer (some ⟨b, o + 1, none⟩)) w := fun _ => by kernel_rfl
theorem infz_3 : ∃ i, Tryz.prog.info? 3 = some i ∧ i.zero = some (.int .i64 0) ∧ i.size = 1 ∧ i.bytes = 8 := zaQ (by kernel_rfl)
theorem und_122 : Tryz.prog.underlying 122 = some (.slice 3) := by kernel_rfl
end HdYtfjinapgehafiaaGreatV75
open HdYtfjinapgehafiaaGreatV75

theorem all_next {l : List Int} {k : Nat} {x : Int} (h : (l.take k).all zaq = true) (hx : l[k]? = some x) (hr : zaq x = true) : (l.take (k + 1)).all zaq = true := by
  rw [zaa hx, List.all_append, h]; simp [hr]
theorem all_bad {l : List Int} {k : Nat} {x : Int} (h : (l.take k).all zaq = true) (hx : l[k]? = some x) (hr : zaq x = false) : false = allR l := by
  have : l.all zaq = false := by
    rw [List.all_eq_false]; exact ⟨x, List.mem_of_getElem? hx, by rw [hr]; simp⟩
  unfold allR; rw [this]; rfl
theorem all_end {l : List Int} {k : Nat} (h : (l.take k).all zaq = true) (hk : l.length ≤ k) : decide (((l.length : Nat) : Int) ≤ (2000 : Int)) = allR l := by
  rw [List.take_of_length_le hk] at h
  unfold allR; rw [h, Bool.true_and]; congr 1; exact propext (by omega)

theorem all_c (l : List Int)  :
    CD Tryz.prog 184 [] [.sh 1 (l.map dI)] (isR (dB (allR l))) := by
  refine zq Tryz.func184 rfl (N := 18) rfl rfl (fun C => ?_)
  refine jk [0] rfl ?_
  refine JD.bd 0 rfl (fun bd0 => ?_)
  have nl0 := zO bd0
  refine jT rfl (oR 1 rfl (oZ rfl (jS rfl (jT rfl (oR 1 rfl (oP rfl (z1 (n := l.length) rfl Tryz.runUnderlying122 (by simp only [lm, lc, ln])) (oR 1 rfl (oZ rfl (jB rfl (jl1 (fun (a_ : Nat) => [(0, .sh 1 (l.map dI)), (5, .sh 1 (l.map dI)), (6, dN l.length), (7, dN a_)]) (fun a_ => []) (fun a_ => (a_ ≤ l.length) ∧ ((l.take a_).all zaq = true)) (fun a_ => l.length - a_) 0 rfl (sa rfl) HSub.rfl' ⟨Nat.zero_le _, rfl⟩ ?_))))))))))
  rintro k ⟨hk, hf⟩
  refine ja rfl (jn rfl (jT rfl (oP rfl (zP rfl rfl rfl) (oZ rfl (jS rfl ?_)))))
  refine jD rfl (fun hc1 => ?_) (fun hc1 => ?_)
  · skip
    refine zk rfl (zd (jS rfl (jB rfl (jT rfl ?_))))
    obtain ⟨x1, hx1⟩ := zy l k (by omega)
    refine oP rfl (zo (k := k) rfl rfl Tryz.runUnderlying122 Tryz.sizeOf3 (by first | rfl | omega) (zf hx1)) (oP rfl (zz rfl Tryz.isAgg3 rfl) (oR 1 rfl (oZ rfl (jT rfl (oR 1 rfl (oW rfl rfl acs Tryz.call44 (fRight_c x1) (oP rfl (zaV rfl) (oZ rfl ?_))))))))
    refine jC rfl (fun hc2 => ?_) (fun hc2 => ?_)
    · simp only [bA, bB, bC, bD, bE, bF, bG, bH, bI, bJ] at hc2
      refine jT rfl (oR 1 rfl (oZ rfl (zm rfl (ze (zc (zJ (ze (zc ?_))))))))
      exact zj Tryz.results184 (.cons (zr (zg rfl) (Cv.eq (congrArg (fun b => D.v (.bool b)) (by exact all_bad hf hx1 hc2)))) .nil) rfl HSub.none ⟨rfl, rfl⟩
    · simp only [bA, bB, bC, bD, bE, bF, bG, bH, bI, bJ] at hc2
      refine zk rfl (zw (zd (za rfl (oP rfl (zQ (c := ((k + 1 : Nat) : Int)) rfl rfl (zD (by omega) (by omega))) (oR 1 rfl (zi rfl ?_))))))
      exact pl1 (k + 1) (sa rfl) HSub.rfl' ⟨by show k + 1 ≤ l.length; omega, all_next hf hx1 hc2⟩ (by omega)
  · skip
    refine zK rfl (zp (zn (zl (zd (jT rfl (oR 1 rfl (oP rfl (z1 (n := l.length) rfl Tryz.runUnderlying122 (by simp only [lm, lc, ln])) (oP rfl (zao rfl rfl rfl) (oR 1 rfl (oZ rfl (zm rfl ?_)))))))))))
    exact zj Tryz.results184 (.cons (zr (zg rfl) (Cv.eq (congrArg (fun b => D.v (.bool b)) (by exact all_end hf (by omega))))) .nil) rfl HSub.none ⟨rfl, rfl⟩

theorem total_c (l : List Int) (hr : l.all zaq = true) (hl : l.length ≤ 2000) :
    CD Tryz.prog 185 [] [.sh 1 (l.map dI)] (isR (dI (tot l))) := by
  refine zq Tryz.func185 rfl (N := 17) rfl rfl (fun C => ?_)
  refine jk [0] rfl ?_
  refine JD.bd 0 rfl (fun bd0 => ?_)
  have nl0 := zO bd0
  refine jT rfl (oR 1 rfl (oZ rfl (jT rfl (oR 1 rfl (oZ rfl (jS rfl (jT rfl (oR 1 rfl (oP rfl (z1 (n := l.length) rfl Tryz.runUnderlying122 (by simp only [lm, lc, ln])) (oR 1 rfl (oZ rfl (jB rfl (jl1 (fun (a_ : Nat) => [(2, dI 0), (6, .sh 1 (l.map dI)), (7, dN l.length), (8, dN a_), (3, dI (tot (l.take a_)))]) (fun a_ => []) (fun a_ => (a_ ≤ l.length)) (fun a_ => l.length - a_) 0 rfl ⟨sk rfl, sk rfl, sk rfl, sk rfl, sc rfl (Cv.eq rfl), trivial⟩ HSub.rfl' (Nat.zero_le _) ?_)))))))))))))
  rintro k hk
  refine ja rfl (jn rfl (jT rfl (oP rfl (zP rfl rfl rfl) (oZ rfl (jS rfl ?_)))))
  refine jD rfl (fun hc1 => ?_) (fun hc1 => ?_)
  · skip
    refine zk rfl (zd (jS rfl (jB rfl (jT rfl ?_))))
    obtain ⟨x1, hx1⟩ := zy l k (by omega)
    have ht1 := tot_bd (all_take (k := k) hr)
    have ht2 := tot_bd (all_take (k := k + 1) hr)
    rw [tot_snoc hx1] at ht2
    rw [List.length_take, Nat.min_eq_left (by omega)] at ht1 ht2
    refine oP rfl (zo (k := k) rfl rfl Tryz.runUnderlying122 Tryz.sizeOf3 (by first | rfl | omega) (zf hx1)) (oP rfl (zz rfl Tryz.isAgg3 rfl) (oR 1 rfl (oZ rfl (za rfl (oR 2 rfl (oP rfl (zQ (c := ((tot (l.take k)) + x1)) rfl rfl (zD (by omega) (by omega))) (oR 1 rfl (zi rfl (zw (zd (za rfl (oP rfl (zQ (c := ((k + 1 : Nat) : Int)) rfl rfl (zD (by omega) (by omega))) (oR 1 rfl (zi rfl ?_))))))))))))))
    exact pl1 (k + 1) ⟨sk rfl, sk rfl, sk rfl, sk rfl, sc rfl (Cv.eq (congrArg dI (tot_snoc hx1).symm)), trivial⟩ HSub.rfl' (by show k + 1 ≤ l.length; omega) (by omega)
  · skip
    refine zK rfl (zp (zn (zl (zd (jT rfl (oR 2 rfl (oZ rfl (zm rfl ?_))))))))
    exact zj Tryz.results185 (.cons (zr (zg rfl) (Cv.eq (congrArg (fun n => D.v (.int .i64 n)) (by rw [List.take_of_length_le (by omega)])))) .nil) rfl HSub.none ⟨rfl, rfl⟩

theorem allR_1 {l : List Int} (h : allR l = true) : l.all zaq = true := by unfold allR at h; rw [Bool.and_eq_true] at h; exact h.1
theorem allR_2 {l : List Int} (h : allR l = true) : l.length ≤ 2000 := by unfold allR at h; rw [Bool.and_eq_true] at h; exact of_decide_eq_true h.2

theorem sum_c (l : List Int)  :
    CD Tryz.prog 150 [] [.sh 1 (l.map dI)] (isR (.tup [dI ((sumE l).1), dI ((sumE l).2)])) := by
  refine zq Tryz.func150 rfl (N := 12) rfl rfl (fun C => ?_)
  refine jk [0] rfl ?_
  refine JD.bd 0 rfl (fun bd0 => ?_)
  have nl0 := zO bd0
  refine jT rfl (oR 2 rfl (oZ rfl (jS rfl (jT rfl (oR 1 rfl (oW rfl rfl acs Tryz.call184 (all_c l) (oP rfl (zaV rfl) (oZ rfl ?_))))))))
  refine jC rfl (fun hc1 => ?_) (fun hc1 => ?_)
  · simp only [bA, bB, bC, bD, bE, bF, bG, bH, bI, bJ] at hc1
    refine jT rfl (oR 2 rfl (oZ rfl (zm rfl (zc ?_))))
    exact zj Tryz.results150 (.cons (zr (zg rfl) (Cv.eq (congrArg (fun n => D.v (.int .i64 n)) (by unfold sumE; first | rw [if_pos hc1] | rw [if_neg (by rw [hc1]; simp)])))) (.cons (zr (zg rfl) (Cv.eq (congrArg (fun n => D.v (.int .i64 n)) (by unfold sumE; first | rw [if_pos hc1] | rw [if_neg (by rw [hc1]; simp)])))) .nil)) rfl HSub.none ⟨rfl, rfl⟩
  · simp only [bA, bB, bC, bD, bE, bF, bG, bH, bI, bJ] at hc1
    refine zk rfl (zd (jT rfl (oR 1 rfl (oW rfl rfl acs Tryz.call185 (total_c l (allR_1 hc1) (allR_2 hc1)) (oW rfl rfl acs Tryz.call114 (within_c (tot l)) (oR 4 rfl (oZ rfl (jk [2, 3] rfl (zm rfl ?_)))))))))
    exact zj Tryz.results150 (.cons (zr (zg rfl) (Cv.eq (congrArg (fun n => D.v (.int .i64 n)) (by unfold sumE; first | rw [if_pos hc1] | rw [if_neg (by rw [hc1]; simp)])))) (.cons (zr (zg rfl) (Cv.eq (congrArg (fun n => D.v (.int .i64 n)) (by unfold sumE; first | rw [if_pos hc1] | rw [if_neg (by rw [hc1]; simp)])))) .nil)) rfl HSub.none ⟨rfl, rfl⟩

theorem mean_c (l : List Int)  :
    CD Tryz.prog 148 [] [.sh 1 (l.map dI)] (isR (.tup [dI ((zcP l).1), dI ((zcP l).2)])) := by
  refine zq Tryz.func148 rfl (N := 17) rfl rfl (fun C => ?_)
  refine jk [0] rfl ?_
  refine JD.bd 0 rfl (fun bd0 => ?_)
  have nl0 := zO bd0
  refine jT rfl (oR 2 rfl (oZ rfl (jS rfl (jB rfl (jT rfl (oR 1 rfl (oP rfl (z1 (n := l.length) rfl Tryz.runUnderlying122 (by simp only [lm, lc, ln])) (oP rfl (zL rfl rfl rfl) (oR 1 rfl (oZ rfl ?_))))))))))
  refine jD rfl (fun hc1 => ?_) (fun hc1 => ?_)
  · skip
    refine jT rfl (oR 2 rfl (oZ rfl (zm rfl (ze (zc ?_)))))
    exact zj Tryz.results148 (.cons (zr (zg rfl) (Cv.eq (congrArg (fun n => D.v (.int .i64 n)) (by unfold zcP; rw [if_pos (by omega)])))) (.cons (zr (zg rfl) (Cv.eq (congrArg (fun n => D.v (.int .i64 n)) (by unfold zcP; rw [if_pos (by omega)])))) .nil)) rfl HSub.none ⟨rfl, rfl⟩
  · skip
    refine jT rfl (oR 1 rfl (oW rfl rfl acs Tryz.call184 (all_c l) (oP rfl (zaV rfl) (oR 1 rfl (oZ rfl ?_)))))
    refine jC rfl (fun hc2 => ?_) (fun hc2 => ?_)
    · simp only [bA, bB, bC, bD, bE, bF, bG, bH, bI, bJ] at hc2
      refine jT rfl (oR 2 rfl (oZ rfl (zm rfl (ze (zc ?_)))))
      exact zj Tryz.results148 (.cons (zr (zg rfl) (Cv.eq (congrArg (fun n => D.v (.int .i64 n)) (by unfold zcP; rw [if_neg (by omega)]; first | rw [if_pos hc2] | rw [if_neg (by rw [hc2]; simp)])))) (.cons (zr (zg rfl) (Cv.eq (congrArg (fun n => D.v (.int .i64 n)) (by unfold zcP; rw [if_neg (by omega)]; first | rw [if_pos hc2] | rw [if_neg (by rw [hc2]; simp)])))) .nil)) rfl HSub.none ⟨rfl, rfl⟩
    · simp only [bA, bB, bC, bD, bE, bF, bG, bH, bI, bJ] at hc2
      refine zk rfl (zw (zd (jT rfl (oR 1 rfl (oW rfl rfl acs Tryz.call185 (total_c l (allR_1 hc2) (allR_2 hc2)) (oR 1 rfl (oP rfl (z1 (n := l.length) rfl Tryz.runUnderlying122 (by simp only [lm, lc, ln])) ?_)))))))
      have hb0 := tot_bd (allR_1 hc2)
      have hb1 := allR_2 hc2
      have hb2 := tdiv_bd (tot l) (l.length : Int) (by omega)
      refine oP rfl (p_quo (c := (Int.tdiv (tot l) ((l.length : Nat) : Int))) rfl rfl (by omega) (zD rfl (by omega))) (oR 2 rfl (oZ rfl (jk [2, 3] rfl (zm rfl ?_))))
      exact zj Tryz.results148 (.cons (zr (zg rfl) (Cv.eq (congrArg (fun n => D.v (.int .i64 n)) (by unfold zcP; rw [if_neg (by omega)]; first | rw [if_pos hc2] | rw [if_neg (by rw [hc2]; simp)])))) (.cons (zr (zg rfl) (Cv.eq (congrArg (fun n => D.v (.int .i64 n)) (by unfold zcP; rw [if_neg (by omega)]; first | rw [if_pos hc2] | rw [if_neg (by rw [hc2]; simp)])))) .nil)) rfl HSub.none ⟨rfl, rfl⟩

theorem min_c (l : List Int) (h0 : 0 < l.length) :
    CD Tryz.prog 172 [] [.sh 1 (l.map dI)] (isR (dI (minL l))) := by
  refine zq Tryz.func172 rfl (N := 25) rfl rfl (fun C => ?_)
  refine jk [0] rfl ?_
  refine JD.bd 0 rfl (fun bd0 => ?_)
  have nl0 := zO bd0
  refine jT rfl (oR 1 rfl (oZ rfl (jS rfl (jT rfl (oR 1 rfl (oP rfl (z1 (n := l.length) rfl Tryz.runUnderlying122 (by simp only [lm, lc, ln])) (oP rfl (zP rfl rfl rfl) (oZ rfl ?_))))))))
  refine jD rfl (fun hc1 => ?_) (fun hc1 => ?_)
  · skip
    exfalso; omega
  · skip
    refine zk rfl (zd (jT rfl (oR 1 rfl ?_)))
    obtain ⟨x1, hx1⟩ := zy l 0 (by omega)
    refine oP rfl (zo (k := 0) rfl rfl Tryz.runUnderlying122 Tryz.sizeOf3 (by first | rfl | omega) (zf hx1)) (oP rfl (zz rfl Tryz.isAgg3 rfl) (oR 1 rfl (oZ rfl (jS rfl (jT rfl (oR 1 rfl (oZ rfl (jB rfl (jl1 (fun (a_ : Nat) => [(0, .sh 1 (l.map dI)), (2, dI 0), (4, dN a_), (3, dI (minL (l.take a_)))]) (fun a_ => []) (fun a_ => (1 ≤ a_) ∧ (a_ ≤ l.length)) (fun a_ => l.length - a_) 1 rfl ⟨sk rfl, sk rfl, sk rfl, sc rfl (Cv.eq (congrArg dI (minL_one hx1).symm)), trivial⟩ HSub.rfl' ⟨Nat.le_refl _, by show 1 ≤ l.length; omega⟩ ?_)))))))))
    rintro k ⟨hk1, hk⟩
    refine ja rfl (jn rfl (jS rfl (jT rfl (oR 2 rfl (oP rfl (z1 (n := l.length) rfl Tryz.runUnderlying122 (by simp only [lm, lc, ln])) (oP rfl (zP rfl rfl rfl) (oZ rfl ?_)))))))
    refine jD rfl (fun hc2 => ?_) (fun hc2 => ?_)
    · skip
      refine zk rfl (zd (jS rfl (jB rfl (za rfl (oR 3 rfl ?_)))))
      obtain ⟨x2, hx2⟩ := zy l k (by omega)
      refine oP rfl (zo (k := k) rfl rfl Tryz.runUnderlying122 Tryz.sizeOf3 (by first | rfl | omega) (zf hx2)) (oP rfl (zz rfl Tryz.isAgg3 rfl) (oP rfl (p_min rfl rfl rfl) (oR 1 rfl (zi rfl (zw (zd (za rfl (oR 1 rfl (oP rfl (zQ (c := ((k + 1 : Nat) : Int)) rfl rfl (zD (by omega) (by omega))) (oR 1 rfl (zi rfl ?_)))))))))))
      exact pl1 (k + 1) ⟨sk rfl, sk rfl, sk rfl, sc rfl (Cv.eq (congrArg dI (minL_snoc (by omega) hx2).symm)), trivial⟩ HSub.rfl' ⟨by show 1 ≤ k + 1; omega, by show k + 1 ≤ l.length; omega⟩ (by omega)
    · skip
      refine zK rfl (zp (zn (zl (zd (jT rfl (oR 2 rfl (oZ rfl (zm rfl ?_))))))))
      exact zj Tryz.results172 (.cons (zr (zg rfl) (Cv.eq (congrArg (fun n => D.v (.int .i64 n)) (by rw [List.take_of_length_le (by omega)])))) .nil) rfl HSub.none ⟨rfl, rfl⟩

theorem max_c (l : List Int) (h0 : 0 < l.length) :
    CD Tryz.prog 173 [] [.sh 1 (l.map dI)] (isR (dI (maxL l))) := by
  refine zq Tryz.func173 rfl (N := 25) rfl rfl (fun C => ?_)
  refine jk [0] rfl ?_
  refine JD.bd 0 rfl (fun bd0 => ?_)
  have nl0 := zO bd0
  refine jT rfl (oR 1 rfl (oZ rfl (jS rfl (jT rfl (oR 1 rfl (oP rfl (z1 (n := l.length) rfl Tryz.runUnderlying122 (by simp only [lm, lc, ln])) (oP rfl (zP rfl rfl rfl) (oZ rfl ?_))))))))
  refine jD rfl (fun hc1 => ?_) (fun hc1 => ?_)
  · skip
    exfalso; omega
  · skip
    refine zk rfl (zd (jT rfl (oR 1 rfl ?_)))
    obtain ⟨x1, hx1⟩ := zy l 0 (by omega)
    refine oP rfl (zo (k := 0) rfl rfl Tryz.runUnderlying122 Tryz.sizeOf3 (by first | rfl | omega) (zf hx1)) (oP rfl (zz rfl Tryz.isAgg3 rfl) (oR 1 rfl (oZ rfl (jS rfl (jT rfl (oR 1 rfl (oZ rfl (jB rfl (jl1 (fun (a_ : Nat) => [(0, .sh 1 (l.map dI)), (2, dI 0), (4, dN a_), (3, dI (maxL (l.take a_)))]) (fun a_ => []) (fun a_ => (1 ≤ a_) ∧ (a_ ≤ l.length)) (fun a_ => l.length - a_) 1 rfl ⟨sk rfl, sk rfl, sk rfl, sc rfl (Cv.eq (congrArg dI (maxL_one hx1).symm)), trivial⟩ HSub.rfl' ⟨Nat.le_refl _, by show 1 ≤ l.length; omega⟩ ?_)))))))))
    rintro k ⟨hk1, hk⟩
    refine ja rfl (jn rfl (jS rfl (jT rfl (oR 2 rfl (oP rfl (z1 (n := l.length) rfl Tryz.runUnderlying122 (by simp only [lm, lc, ln])) (oP rfl (zP rfl rfl rfl) (oZ rfl ?_)))))))
    refine jD rfl (fun hc2 => ?_) (fun hc2 => ?_)
    · skip
      refine zk rfl (zd (jS rfl (jB rfl (za rfl (oR 3 rfl ?_)))))
      obtain ⟨x2, hx2⟩ := zy l k (by omega)
      refine oP rfl (zo (k := k) rfl rfl Tryz.runUnderlying122 Tryz.sizeOf3 (by first | rfl | omega) (zf hx2)) (oP rfl (zz rfl Tryz.isAgg3 rfl) (oP rfl (p_max rfl rfl rfl) (oR 1 rfl (zi rfl (zw (zd (za rfl (oR 1 rfl (oP rfl (zQ (c := ((k + 1 : Nat) : Int)) rfl rfl (zD (by omega) (by omega))) (oR 1 rfl (zi rfl ?_)))))))))))
      exact pl1 (k + 1) ⟨sk rfl, sk rfl, sk rfl, sc rfl (Cv.eq (congrArg dI (maxL_snoc (by omega) hx2).symm)), trivial⟩ HSub.rfl' ⟨by show 1 ≤ k + 1; omega, by show k + 1 ≤ l.length; omega⟩ (by omega)
    · skip
      refine zK rfl (zp (zn (zl (zd (jT rfl (oR 2 rfl (oZ rfl (zm rfl ?_))))))))
      exact zj Tryz.results173 (.cons (zr (zg rfl) (Cv.eq (congrArg (fun n => D.v (.int .i64 n)) (by rw [List.take_of_length_le (by omega)])))) .nil) rfl HSub.none ⟨rfl, rfl⟩

theorem least_c (l : List Int) (h0 : 0 < l.length) :
    CD Tryz.prog 140 [] [.sh 1 (l.map dI)] (isR (dI (minL l))) := by
  refine zq Tryz.func140 rfl (N := 5) rfl rfl (fun C => ?_)
  refine jk [0] rfl ?_
  refine JD.bd 0 rfl (fun bd0 => ?_)
  have nl0 := zO bd0
  refine jT rfl (oR 1 rfl (oZ rfl (jT rfl (oR 1 rfl (oW rfl rfl acs Tryz.call172 (min_c l h0) (oR 1 rfl (oZ rfl (zm rfl ?_))))))))
  exact zj Tryz.results140 (.cons (zg rfl) .nil) rfl HSub.none ⟨rfl, rfl⟩

theorem most_c (l : List Int) (h0 : 0 < l.length) :
    CD Tryz.prog 141 [] [.sh 1 (l.map dI)] (isR (dI (maxL l))) := by
  refine zq Tryz.func141 rfl (N := 5) rfl rfl (fun C => ?_)
  refine jk [0] rfl ?_
  refine JD.bd 0 rfl (fun bd0 => ?_)
  have nl0 := zO bd0
  refine jT rfl (oR 1 rfl (oZ rfl (jT rfl (oR 1 rfl (oW rfl rfl acs Tryz.call173 (max_c l h0) (oR 1 rfl (oZ rfl (zm rfl ?_))))))))
  exact zj Tryz.results141 (.cons (zg rfl) .nil) rfl HSub.none ⟨rfl, rfl⟩

theorem many_c (l : List Int)  :
    CD Tryz.prog 142 [] [.sh 1 (l.map dI)] (isR (dI ((l.length : Nat) : Int))) := by
  refine zq Tryz.func142 rfl (N := 5) rfl rfl (fun C => ?_)
  refine jk [0] rfl ?_
  refine JD.bd 0 rfl (fun bd0 => ?_)
  have nl0 := zO bd0
  refine jT rfl (oR 1 rfl (oZ rfl (jT rfl (oR 1 rfl (oP rfl (z1 (n := l.length) rfl Tryz.runUnderlying122 (by simp only [lm, lc, ln])) (oR 1 rfl (oZ rfl (zm rfl ?_))))))))
  exact zj Tryz.results142 (.cons (zg rfl) .nil) rfl HSub.none ⟨rfl, rfl⟩

theorem zb9 (l : List RowD) (hl : l.length ≤ 1000000) :
    CD Tryz.prog 149 [] [.sh 2 (l.map RowD.d)] (zcy 1 3 ((l.map (·.v)).map dI)) := by
  refine zq Tryz.func149 rfl (N := 19) rfl rfl (fun C => ?_)
  refine jk [0] rfl ?_
  refine JD.bd 0 rfl (fun bd0 => ?_)
  have nl0 := zO bd0
  refine jT rfl (oR 1 rfl (oZ rfl (jT rfl (oR 1 rfl (oZ rfl (jS rfl (jT rfl (oR 1 rfl (oP rfl (z1 (n := l.length) rfl Tryz.runUnderlying22 (by simp only [lm, lc, ln])) (oR 1 rfl (oZ rfl (jB rfl (jl3 (fun (a_ : Nat) (b_ : Value) (c_ : List Int) => [(2, dZ), (6, .sh 2 (l.map RowD.d)), (7, dN l.length), (8, dN a_), (3, .ov b_)]) (fun a_ b_ c_ => [.sl b_ 1 3 (c_.map dI)]) (fun a_ b_ c_ => (a_ ≤ l.length) ∧ (c_ = (l.take a_).map (·.v))) (fun a_ b_ c_ => l.length - a_) 0 (.slice none 0 0) [] rfl ⟨sk rfl, sk rfl, sk rfl, sk rfl, sc rfl (Cv.ov rfl), trivial⟩ (HSub.nil 1 3) ⟨Nat.zero_le _, rfl⟩ ?_)))))))))))))
  rintro k ov o ⟨hk, ho⟩
  refine ja rfl (jn rfl ?_)
  have hol : o.length ≤ 1000000 := by rw [ho, List.length_map, List.length_take]; omega
  refine jT rfl (oP rfl (zP rfl rfl rfl) (oZ rfl (jS rfl ?_)))
  refine jD rfl (fun hc1 => ?_) (fun hc1 => ?_)
  · skip
    refine zk rfl (zd (jS rfl (jB rfl (jT rfl ?_))))
    obtain ⟨x1, hx1⟩ := zy l k (by omega)
    refine oP rfl (zo (k := k) rfl rfl Tryz.runUnderlying22 Tryz.sizeOf53 (by first | rfl | omega) (zf hx1)) (oP rfl (zau (d := RowD.d x1) rfl Tryz.isAgg53 Tryz.sizeOf53 rfl rfl) (oE rfl (zap (zv := (.agg #[(.slice none 0 0), (.int .i64 0)])) Tryz.zeroValue53 ⟨rfl, rfl, trivial⟩ (Cv.vagg (by decide))) ?_))
    rintro _ _ ⟨g2, rfl, rfl⟩
    refine oE rfl (z2 (i := 0) (X' := RowD.d x1) rfl rfl rfl (CellD.agg) Tryz.sizeOf53 rfl rfl rfl) ?_
    rintro _ _ ⟨rfl, rfl⟩
    refine on rfl (oZ rfl (za rfl (oR 1 rfl (oP rfl (zs rfl z5 rfl) (oP rfl (zI rfl (i := 0) rfl Tryz.isAgg3 rfl) (oE rfl (zab [.tmp 14] rfl rfl (.cons (CellD.v rfl) .nil) rfl Tryz.runUnderlying122 Tryz.sizeOf3 Tryz.zeroValue3 rfl rfl rfl rfl) ?_))))))
    rintro _ _ ⟨g3, rfl, rfl⟩
    refine oE rfl (z3 (f := dI) (l := o) (l' := [x1.v]) (i := 2) rfl rfl rfl (SrcD.own (j := 0) rfl rfl) und_122 infz_3 rfl rfl (by unfold maxLen; (try simp only [la, lc, ln, lm, lt', ld, ls, lr]); omega) (by (try simp only [la, lc, ln, lm, lt', ld, ls, lr]); omega)) ?_
    rintro _ _ ⟨v4, rfl, rfl⟩
    refine on rfl (oR 1 rfl (zi rfl (zw (zd (za rfl (oP rfl (zQ (c := ((k + 1 : Nat) : Int)) rfl rfl (zD (by omega) (by omega))) (oR 1 rfl (zi rfl (PD.subH (HSub.perm (zay (i := 2) rfl)) (pn rfl (PD.subH (HSub.fst 1 rfl) (pn rfl ?_))))))))))))
    exact pl3 (k + 1) v4 (o ++ [x1.v]) (sa rfl) HSub.rfl' ⟨by show k + 1 ≤ l.length; omega, by rw [ho, zaa hx1]; simp⟩ (by omega)
  · skip
    refine zK rfl (zp (zn (zl (zd (jT rfl (oR 2 rfl (oZ rfl (zm rfl (PD.subH (HSub.less (zbd (i := 0) rfl)) (PD.subH (HSub.turn (h' := .sl ov 1 3 ((l.map (·.v)).map dI)) rfl (Hp.eq_sl (show List.map dI o = List.map dI (l.map (·.v)) from congrArg _ (by rw [ho, List.take_of_length_le (by omega)])))) ?_))))))))))
    exact zbh Tryz.results149 (.cons (zg rfl) .nil) rfl ⟨_, rfl, rfl⟩

theorem aggs_c   :
    CD Tryz.prog 143 [] [] (zcy 1 9 (aggN.map D.s)) := by
  refine zq Tryz.func143 rfl (N := 2) rfl rfl (fun C => ?_)
  refine jk [] rfl (jT rfl (oR 1 rfl (oZ rfl (jT rfl (oE rfl (zab [.const (.string (⟨#[115, 117, 109]⟩ : ByteArray)), .const (.string (⟨#[109, 105, 110]⟩ : ByteArray)), .const (.string (⟨#[109, 97, 120]⟩ : ByteArray)), .const (.string (⟨#[99, 111, 117, 110, 116]⟩ : ByteArray)), .const (.string (⟨#[97, 118, 103]⟩ : ByteArray)), .const (.string (⟨#[116, 111, 112, 107]⟩ : ByteArray)), .const (.string (⟨#[113, 117, 97, 110, 116, 105, 108, 101]⟩ : ByteArray))] rfl rfl (.cons (CellD.v rfl) (.cons (CellD.v rfl) (.cons (CellD.v rfl) (.cons (CellD.v rfl) (.cons (CellD.v rfl) (.cons (CellD.v rfl) (.cons (CellD.v rfl) .nil))))))) rfl Tryz.runUnderlying23 Tryz.sizeOf9 Tryz.zeroValue9 rfl rfl rfl rfl) ?_)))))
  rintro _ _ ⟨g1, rfl, rfl⟩
  refine oR 1 rfl (oZ rfl (zm rfl (PD.subH (HSub.turn (h' := .sl (vS g1 7 7) 1 9 ([(⟨#[115, 117, 109]⟩ : ByteArray), (⟨#[109, 105, 110]⟩ : ByteArray), (⟨#[109, 97, 120]⟩ : ByteArray), (⟨#[99, 111, 117, 110, 116]⟩ : ByteArray), (⟨#[97, 118, 103]⟩ : ByteArray), (⟨#[116, 111, 112, 107]⟩ : ByteArray), (⟨#[113, 117, 97, 110, 116, 105, 108, 101]⟩ : ByteArray)].map D.s)) rfl (Hp.cvs_sl (.cons (Cv.str (by first | decide | (unfold maxLen; omega))) (.cons (Cv.str (by first | decide | (unfold maxLen; omega))) (.cons (Cv.str (by first | decide | (unfold maxLen; omega))) (.cons (Cv.str (by first | decide | (unfold maxLen; omega))) (.cons (Cv.str (by first | decide | (unfold maxLen; omega))) (.cons (Cv.str (by first | decide | (unfold maxLen; omega))) (.cons (Cv.str (by first | decide | (unfold maxLen; omega))) .nil))))))))) (PD.subH (HSub.less (zbd (i := 0) rfl)) (PD.subH (HSub.turn (h' := .sl (vS g1 7 7) 1 9 (aggN.map D.s)) rfl (Hp.eq_sl (show List.map D.s [(⟨#[115, 117, 109]⟩ : ByteArray), (⟨#[109, 105, 110]⟩ : ByteArray), (⟨#[109, 97, 120]⟩ : ByteArray), (⟨#[99, 111, 117, 110, 116]⟩ : ByteArray), (⟨#[97, 118, 103]⟩ : ByteArray), (⟨#[116, 111, 112, 107]⟩ : ByteArray), (⟨#[113, 117, 97, 110, 116, 105, 108, 101]⟩ : ByteArray)] = List.map D.s aggN from congrArg _ (by rfl)))) ?_)))))
  exact zbh Tryz.results143 (.cons (zg rfl) .nil) rfl ⟨_, rfl, rfl⟩

theorem Agg_c (name : ByteArray)  :
    CD Tryz.prog 99 [] [.s name] (isR (dB (hasN aggN name))) := by
  refine zq Tryz.func99 rfl (N := 6) rfl rfl (fun C => ?_)
  refine jk [0] rfl ?_
  refine JD.bd 0 rfl (fun bd0 => ?_)
  have sz0 : name.size ≤ 9223372036854775807 := bd0
  refine jT rfl (oR 1 rfl (oZ rfl (jT rfl (oE rfl (zH [] _ [] rfl rfl (.nil) zu Tryz.call143 (aggs_c) (.inl rfl)) ?_))))
  rintro _ _ ⟨_, ⟨v1, rfl, rfl⟩, rfl⟩
  refine on rfl (oR 1 rfl (oE rfl (zH [] _ [.sl v1 1 9 (aggN.map D.s)] rfl rfl (.cons (ArgC.own (j := 0) rfl rfl) (.cons ArgC.id .nil)) (zav (j := 0) rfl zu) Tryz.call117 (containsS_c aggN name) (.inr (za7 rfl))) ?_))
  rintro _ _ ⟨_, ⟨rfl, rfl⟩, rfl⟩
  refine on rfl (oR 1 rfl (oZ rfl (zm rfl ?_)))
  exact zj Tryz.results99 (.cons (zg rfl) .nil) rfl HSub.none ⟨rfl, rfl⟩

def wayD : Option Way → D
  | none => .v .nilIface
  | some (.sums m) => .ifc 156 (.agg [dB m])
  | some .least => .ifc 159 (.agg [.fn 140 [] []])
  | some .most => .ifc 159 (.agg [.fn 141 [] []])
  | some .many => .ifc 159 (.agg [.fn 142 [] []])
  | some (.rank p) => .ifc 161 (.agg [dI p])
  | some (.top n) => .ifc 105 (.agg [dI n])

theorem way_c (name : ByteArray) (n : Int)  :
    CD Tryz.prog 98 [] [.s name, dI n] (isR (wayD (wayO name n))) := by
  refine zq Tryz.func98 rfl (N := 59) rfl rfl (fun C => ?_)
  refine jk [0, 1] rfl ?_
  refine JD.bd 0 rfl (fun bd0 => ?_)
  have sz0 : name.size ≤ 9223372036854775807 := bd0
  refine jT rfl (oR 1 rfl (oZ rfl (jS rfl (jB rfl (jS rfl (jk [0, 1, 4] rfl ?_))))))
  refine zai 5 ((decide (name = (⟨#[115, 117, 109]⟩ : ByteArray)) || decide (name = (⟨#[97, 118, 103]⟩ : ByteArray)))) [] (fun _ hQ1 => ?_) ?_
  · skip
    by_cases hg2 : name = (⟨#[115, 117, 109]⟩ : ByteArray)
    · skip
      refine za rfl (oR 1 rfl (oP rfl (za6 rfl rfl (decide_eq_true hg2)) (oR 5 rfl (zi rfl ?_))))
      exact PD.sub ((5, dB (decide (name = (⟨#[115, 117, 109]⟩ : ByteArray)) || decide (name = (⟨#[97, 118, 103]⟩ : ByteArray)))) :: [(0, .s name), (1, dI n), (4, .v .nilIface)]) ⟨sc rfl (Cv.eq (congrArg (fun b => D.v (.bool b)) (by first | (simp [hg2]; done) | (simp_all; done)))), sk rfl, sk rfl, sk rfl, trivial⟩ hQ1
    · skip
      refine za rfl (oR 1 rfl (oP rfl (za6 rfl rfl (decide_eq_false hg2)) (oR 2 rfl (oG rfl (za6 rfl rfl rfl) (oR 2 rfl (zi rfl ?_))))))
      exact PD.sub ((5, dB (decide (name = (⟨#[115, 117, 109]⟩ : ByteArray)) || decide (name = (⟨#[97, 118, 103]⟩ : ByteArray)))) :: [(0, .s name), (1, dI n), (4, .v .nilIface)]) ⟨sc rfl (Cv.eq (congrArg (fun b => D.v (.bool b)) (by first | (simp [hg2]; done) | (simp_all; done)))), sk rfl, sk rfl, sk rfl, trivial⟩ hQ1
  · skip
    refine zd ?_
    refine jC rfl (fun hc3 => ?_) (fun hc3 => ?_)
    · simp only [bA, bB, bC, bD, bE, bF, bG, bH, bI, bJ] at hc3
      refine jT rfl (oR 1 rfl (oP rfl (za6 rfl rfl rfl) (oP rfl (zaP [0] [.tmp 13] (zv := (.agg #[(.bool false)])) rfl rfl (.cons (CellD.v rfl) .nil) (Tryz.runUnderlying156) Tryz.zeroValue156 bd_156 ⟨rfl, trivial⟩ rfl) (oP rfl (zbM rfl (fun _ _ => by kernel_rfl)) (oR 1 rfl (oZ rfl (zm rfl (ze (zc ?_)))))))))
      exact zj Tryz.results98 (.cons (zr (zg rfl) (Cv.eq (congrArg wayD (show (some (.sums (decide (name = (⟨#[97, 118, 103]⟩ : ByteArray))))) = wayO name n from (by unfold wayO; (repeat' split) <;> first | rfl | (simp_all; done) | (exfalso; simp_all; omega)))))) .nil) rfl HSub.none ⟨rfl, rfl⟩
    · simp only [bA, bB, bC, bD, bE, bF, bG, bH, bI, bJ] at hc3
      refine jT rfl (oR 1 rfl (oP rfl (za6 rfl rfl rfl) (oR 1 rfl (oZ rfl ?_))))
      refine jD rfl (fun hc4 => ?_) (fun hc4 => ?_)
      · skip
        refine jT rfl (oP rfl (zaP [0] [.func 140] (zv := (.agg #[.nilFunc])) rfl rfl (.cons CellD.fn .nil) (Tryz.runUnderlying159) Tryz.zeroValue159 bd_159 ⟨rfl, trivial⟩ rfl) (oP rfl (zbM rfl (fun _ _ => by kernel_rfl)) (oR 1 rfl (oZ rfl (zm rfl (ze (zc ?_)))))))
        exact zj Tryz.results98 (.cons (zr (zg rfl) (Cv.eq (congrArg wayD (show (some .least) = wayO name n from (by unfold wayO; (repeat' split) <;> first | rfl | (simp_all; done) | (exfalso; simp_all; omega)))))) .nil) rfl HSub.none ⟨rfl, rfl⟩
      · skip
        refine jT rfl (oR 1 rfl (oP rfl (za6 rfl rfl rfl) (oR 1 rfl (oZ rfl ?_))))
        refine jD rfl (fun hc5 => ?_) (fun hc5 => ?_)
        · skip
          refine jT rfl (oP rfl (zaP [0] [.func 141] (zv := (.agg #[.nilFunc])) rfl rfl (.cons CellD.fn .nil) (Tryz.runUnderlying159) Tryz.zeroValue159 bd_159 ⟨rfl, trivial⟩ rfl) (oP rfl (zbM rfl (fun _ _ => by kernel_rfl)) (oR 1 rfl (oZ rfl (jk [4] rfl (zm rfl (ze (zc ?_))))))))
          exact zj Tryz.results98 (.cons (zr (zg rfl) (Cv.eq (congrArg wayD (show (some .most) = wayO name n from (by unfold wayO; (repeat' split) <;> first | rfl | (simp_all; done) | (exfalso; simp_all; omega)))))) .nil) rfl HSub.none ⟨rfl, rfl⟩
        · skip
          refine jT rfl (oR 1 rfl (oP rfl (za6 rfl rfl rfl) (oR 1 rfl (oZ rfl (jk [0, 1, 4, 26] rfl ?_)))))
          refine jD rfl (fun hc6 => ?_) (fun hc6 => ?_)
          · skip
            refine jT rfl (oP rfl (zaP [0] [.func 142] (zv := (.agg #[.nilFunc])) rfl rfl (.cons CellD.fn .nil) (Tryz.runUnderlying159) Tryz.zeroValue159 bd_159 ⟨rfl, trivial⟩ rfl) (oP rfl (zbM rfl (fun _ _ => by kernel_rfl)) (oR 1 rfl (oZ rfl (zm rfl (ze (zc ?_)))))))
            exact zj Tryz.results98 (.cons (zr (zg rfl) (Cv.eq (congrArg wayD (show (some .many) = wayO name n from (by unfold wayO; (repeat' split) <;> first | rfl | (simp_all; done) | (exfalso; simp_all; omega)))))) .nil) rfl HSub.none ⟨rfl, rfl⟩
          · skip
            refine jS rfl (jk [0, 1, 4] rfl ?_)
            refine zai 31 (((decide (name = (⟨#[113, 117, 97, 110, 116, 105, 108, 101]⟩ : ByteArray)) && decide ((0 : Int) ≤ n)) && decide (n ≤ (100 : Int)))) [] (fun _ hQ7 => ?_) ?_
            · skip
              by_cases hg8 : name = (⟨#[113, 117, 97, 110, 116, 105, 108, 101]⟩ : ByteArray)
              · skip
                by_cases hg9 : (0 : Int) ≤ n
                · skip
                  refine za rfl (oR 1 rfl (oP rfl (za6 rfl rfl (decide_eq_true hg8)) (oR 2 rfl (oG rfl (zS rfl rfl (decide_eq_true hg9)) (oR 3 rfl (oG rfl (zao rfl rfl rfl) (oR 2 rfl (zi rfl ?_))))))))
                  exact PD.sub ((31, dB ((decide (name = (⟨#[113, 117, 97, 110, 116, 105, 108, 101]⟩ : ByteArray)) && decide ((0 : Int) ≤ n)) && decide (n ≤ (100 : Int)))) :: [(0, .s name), (1, dI n), (4, .v .nilIface)]) ⟨sc rfl (Cv.eq (congrArg (fun b => D.v (.bool b)) (by first | (simp [hc4, hc5, hc6, hg8, hg9]; done) | (simp_all; done)))), sk rfl, sk rfl, sk rfl, trivial⟩ hQ7
                · skip
                  refine za rfl (oR 1 rfl (oP rfl (za6 rfl rfl (decide_eq_true hg8)) (oR 2 rfl (oG rfl (zS rfl rfl (decide_eq_false hg9)) (oR 6 rfl (zi rfl ?_))))))
                  exact PD.sub ((31, dB ((decide (name = (⟨#[113, 117, 97, 110, 116, 105, 108, 101]⟩ : ByteArray)) && decide ((0 : Int) ≤ n)) && decide (n ≤ (100 : Int)))) :: [(0, .s name), (1, dI n), (4, .v .nilIface)]) ⟨sc rfl (Cv.eq (congrArg (fun b => D.v (.bool b)) (by first | (simp [hc4, hc5, hc6, hg8, hg9]; done) | (simp_all; done)))), sk rfl, sk rfl, sk rfl, trivial⟩ hQ7
              · skip
                refine za rfl (oR 1 rfl (oP rfl (za6 rfl rfl (decide_eq_false hg8)) (oR 9 rfl (zi rfl ?_))))
                exact PD.sub ((31, dB ((decide (name = (⟨#[113, 117, 97, 110, 116, 105, 108, 101]⟩ : ByteArray)) && decide ((0 : Int) ≤ n)) && decide (n ≤ (100 : Int)))) :: [(0, .s name), (1, dI n), (4, .v .nilIface)]) ⟨sc rfl (Cv.eq (congrArg (fun b => D.v (.bool b)) (by first | (simp [hc4, hc5, hc6, hg8]; done) | (simp_all; done)))), sk rfl, sk rfl, sk rfl, trivial⟩ hQ7
            · skip
              refine zd ?_
              refine jC rfl (fun hc10 => ?_) (fun hc10 => ?_)
              · simp only [bA, bB, bC, bD, bE, bF, bG, bH, bI, bJ] at hc10
                refine jT rfl (oR 1 rfl (oP rfl (zaP [0] [.tmp 42] (zv := (.agg #[(.int .i64 0)])) rfl rfl (.cons (CellD.v rfl) .nil) (Tryz.runUnderlying161) Tryz.zeroValue161 bd_161 ⟨rfl, trivial⟩ rfl) (oP rfl (zbM rfl (fun _ _ => by kernel_rfl)) (oR 1 rfl (oZ rfl (zm rfl (ze (zc ?_))))))))
                exact zj Tryz.results98 (.cons (zr (zg rfl) (Cv.eq (congrArg wayD (show (some (.rank n)) = wayO name n from (by unfold wayO; (repeat' split) <;> first | rfl | (simp_all; done) | (exfalso; simp_all; omega)))))) .nil) rfl HSub.none ⟨rfl, rfl⟩
              · simp only [bA, bB, bC, bD, bE, bF, bG, bH, bI, bJ] at hc10
                refine jS rfl (jk [0, 1, 4] rfl ?_)
                refine zai 45 (((decide (name = (⟨#[116, 111, 112, 107]⟩ : ByteArray)) && decide ((1 : Int) ≤ n)) && decide (n ≤ (2000 : Int)))) [] (fun _ hQ11 => ?_) ?_
                · skip
                  by_cases hg12 : name = (⟨#[116, 111, 112, 107]⟩ : ByteArray)
                  · skip
                    by_cases hg13 : (1 : Int) ≤ n
                    · skip
                      refine za rfl (oR 1 rfl (oP rfl (za6 rfl rfl (decide_eq_true hg12)) (oR 2 rfl (oG rfl (zS rfl rfl (decide_eq_true hg13)) (oR 3 rfl (oG rfl (zao rfl rfl rfl) (oR 2 rfl (zi rfl ?_))))))))
                      exact PD.sub ((45, dB ((decide (name = (⟨#[116, 111, 112, 107]⟩ : ByteArray)) && decide ((1 : Int) ≤ n)) && decide (n ≤ (2000 : Int)))) :: [(0, .s name), (1, dI n), (4, .v .nilIface)]) ⟨sc rfl (Cv.eq (congrArg (fun b => D.v (.bool b)) (by first | (simp [hc4, hc5, hc6, hg12, hg13]; done) | (simp_all; done)))), sk rfl, sk rfl, sk rfl, trivial⟩ hQ11
                    · skip
                      refine za rfl (oR 1 rfl (oP rfl (za6 rfl rfl (decide_eq_true hg12)) (oR 2 rfl (oG rfl (zS rfl rfl (decide_eq_false hg13)) (oR 6 rfl (zi rfl ?_))))))
                      exact PD.sub ((45, dB ((decide (name = (⟨#[116, 111, 112, 107]⟩ : ByteArray)) && decide ((1 : Int) ≤ n)) && decide (n ≤ (2000 : Int)))) :: [(0, .s name), (1, dI n), (4, .v .nilIface)]) ⟨sc rfl (Cv.eq (congrArg (fun b => D.v (.bool b)) (by first | (simp [hc4, hc5, hc6, hg12, hg13]; done) | (simp_all; done)))), sk rfl, sk rfl, sk rfl, trivial⟩ hQ11
                  · skip
                    refine za rfl (oR 1 rfl (oP rfl (za6 rfl rfl (decide_eq_false hg12)) (oR 9 rfl (zi rfl ?_))))
                    exact PD.sub ((45, dB ((decide (name = (⟨#[116, 111, 112, 107]⟩ : ByteArray)) && decide ((1 : Int) ≤ n)) && decide (n ≤ (2000 : Int)))) :: [(0, .s name), (1, dI n), (4, .v .nilIface)]) ⟨sc rfl (Cv.eq (congrArg (fun b => D.v (.bool b)) (by first | (simp [hc4, hc5, hc6, hg12]; done) | (simp_all; done)))), sk rfl, sk rfl, sk rfl, trivial⟩ hQ11
                · skip
                  refine zd ?_
                  refine jC rfl (fun hc14 => ?_) (fun hc14 => ?_)
                  · simp only [bA, bB, bC, bD, bE, bF, bG, bH, bI, bJ] at hc14
                    refine jT rfl (oR 1 rfl (oP rfl (zaP [0] [.tmp 56] (zv := (.agg #[(.int .i64 0)])) rfl rfl (.cons (CellD.v rfl) .nil) (Tryz.runUnderlying105) Tryz.zeroValue105 bd_105 ⟨rfl, trivial⟩ rfl) (oP rfl (zbM rfl (fun _ _ => by kernel_rfl)) (oR 1 rfl (oZ rfl (zm rfl (ze (zc ?_))))))))
                    exact zj Tryz.results98 (.cons (zr (zg rfl) (Cv.eq (congrArg wayD (show (some (.top n)) = wayO name n from (by unfold wayO; (repeat' split) <;> first | rfl | (simp_all; done) | (exfalso; simp_all; omega)))))) .nil) rfl HSub.none ⟨rfl, rfl⟩
                  · simp only [bA, bB, bC, bD, bE, bF, bG, bH, bI, bJ] at hc14
                    refine zk rfl (zw (zd (jT rfl (oR 1 rfl (oZ rfl (zm rfl ?_))))))
                    exact zj Tryz.results98 (.cons (zr (zg rfl) (Cv.eq (congrArg wayD (show none = wayO name n from (by unfold wayO; (repeat' split) <;> first | rfl | (simp_all; done) | (exfalso; simp_all; omega)))))) .nil) rfl HSub.none ⟨rfl, rfl⟩
end Lp
