/-
  What an op gives, op by op: as the document has it.
-/
import Derived.Test.YtfjinapgehafiaaGreatV65
set_option linter.unusedVariables false
namespace Lp
open Go
theorem hasN_mem' {ns : List ByteArray} {n : ByteArray} : hasN ns n = true ↔ n ∈ ns := by
  unfold hasN; rw [List.any_eq_true]
  exact ⟨fun ⟨x, hx, e⟩ => by rw [← of_decide_eq_true e]; exact hx, fun h => ⟨n, h, decide_eq_true rfl⟩⟩
theorem opB_eq (op : ByteArray) : opB op = (cmpB op || decide (op = ⟨#[43]⟩) || decide (op = ⟨#[45]⟩) || decide (op = ⟨#[42]⟩) || decide (op = ⟨#[47]⟩) || decide (op = ⟨#[37]⟩)) := by
  by_cases h1 : op = ⟨#[43]⟩
  · subst h1; decide
  by_cases h2 : op = ⟨#[45]⟩
  · subst h2; decide
  by_cases h3 : op = ⟨#[42]⟩
  · subst h3; decide
  by_cases h4 : op = ⟨#[47]⟩
  · subst h4; decide
  by_cases h5 : op = ⟨#[37]⟩
  · subst h5; decide
  have hr : ¬ (zU 1 = false ∨ zU 1 = false) := by decide
  cases hc : cmpB op
  · unfold opB doE
    rw [if_neg hr, if_neg (by rw [hc]; decide), if_neg h1, if_neg h2, if_neg h3, if_neg (fun h => h.elim h4 h5)]
    simp [h1, h2, h3, h4, h5]
  · rw [cmpB_op hc]; simp
section
variable {op : ByteArray} {a b : Int}
theorem do_bad (h : zU a = false ∨ zU b = false ∨ opB op = false) : doE op a b = (0, 1) := by
  by_cases hab : zU a = false ∨ zU b = false
  · unfold doE; rw [if_pos hab]
  · have ho : opB op = false := by rcases h with h | h | h; exact absurd (.inl h) hab; exact absurd (.inr h) hab; exact h
    rw [opB_eq] at ho
    simp only [Bool.or_eq_false_iff, decide_eq_false_iff_not] at ho
    obtain ⟨⟨⟨⟨⟨h0, h1⟩, h2⟩, h3⟩, h4⟩, h5⟩ := ho
    unfold doE
    rw [if_neg hab, if_neg (by rw [h0]; decide), if_neg h1, if_neg h2, if_neg h3, if_neg (fun h => h.elim h4 h5)]
variable (ha : zU a = true) (hb : zU b = true)
include ha hb
theorem nbad : ¬ (zU a = false ∨ zU b = false) := by rw [ha, hb]; decide
theorem do_mul (h : op = ⟨#[42]⟩) : doE op a b = zbV a b := by
  subst h; unfold doE; rw [if_neg (nbad ha hb), if_neg (by decide), if_neg (by decide), if_neg (by decide), if_pos rfl]
theorem do_add (h : op = ⟨#[43]⟩) : doE op a b = zaO (a + b) := by subst h; exact do_plus ha hb
theorem do_sub (h : op = ⟨#[45]⟩) : doE op a b = zaO (a - b) := by subst h; exact do_minus ha hb
theorem do_quo (h : op = ⟨#[47]⟩) : doE op a b = if b = 0 then (0, 5) else (a.tdiv b, 0) := by
  subst h; unfold doE; rw [if_neg (nbad ha hb), if_neg (by decide), if_neg (by decide), if_neg (by decide), if_neg (by decide), if_pos (.inl rfl)]; unfold divE
  rw [if_pos rfl]
theorem do_rem (h : op = ⟨#[37]⟩) : doE op a b = if b = 0 then (0, 5) else (a.tmod b, 0) := by
  subst h; unfold doE; rw [if_neg (nbad ha hb), if_neg (by decide), if_neg (by decide), if_neg (by decide), if_neg (by decide), if_pos (.inr rfl)]; unfold divE
  by_cases e : b = 0
  · rw [if_pos e, if_pos e]
  · rw [if_neg e, if_neg e, if_neg (by decide)]
theorem do_c (p : Bool) (hc : cmpB op = true) (h : cmpF op a b = p) : doE op a b = (if p = true then 1 else 0, 0) := by rw [do_cmp hc ha hb, h]
theorem do_eq (h : op = ⟨#[61, 61]⟩) : doE op a b = (if decide (a = b) = true then 1 else 0, 0) := by subst h; exact do_c ha hb _ (by decide) (cmpF_eq a b)
theorem do_ne (h : op = ⟨#[33, 61]⟩) : doE op a b = (if decide (a ≠ b) = true then 1 else 0, 0) := by subst h; exact do_c ha hb _ (by decide) (cmpF_ne a b)
theorem do_lt (h : op = ⟨#[60]⟩) : doE op a b = (if decide (a < b) = true then 1 else 0, 0) := by subst h; exact do_c ha hb _ (by decide) (cmpF_lt a b)
theorem do_le (h : op = ⟨#[60, 61]⟩) : doE op a b = (if decide (a ≤ b) = true then 1 else 0, 0) := by subst h; exact do_c ha hb _ (by decide) (cmpF_le a b)
theorem do_gt (h : op = ⟨#[62]⟩) : doE op a b = (if decide (b < a) = true then 1 else 0, 0) := by subst h; exact do_c ha hb _ (by decide) (cmpF_gt a b)
theorem do_ge (h : op = ⟨#[62, 61]⟩) : doE op a b = (if decide (b ≤ a) = true then 1 else 0, 0) := by subst h; exact do_c ha hb _ (by decide) (cmpF_ge a b)
omit ha hb
theorem op_last (ho : opB op = true) (h1 : ¬ op = ⟨#[43]⟩) (h2 : ¬ op = ⟨#[45]⟩) (h3 : ¬ op = ⟨#[42]⟩) (h4 : ¬ op = ⟨#[47]⟩) (h5 : ¬ op = ⟨#[37]⟩) (c1 : ¬ op = ⟨#[61, 61]⟩) (c2 : ¬ op = ⟨#[33, 61]⟩) (c3 : ¬ op = ⟨#[60]⟩) (c4 : ¬ op = ⟨#[60, 61]⟩) (c5 : ¬ op = ⟨#[62]⟩) : op = ⟨#[62, 61]⟩ := by
  rw [opB_eq] at ho
  simp only [h1, h2, h3, h4, h5, decide_false, Bool.or_false] at ho
  unfold cmpB at ho
  rw [hasN_mem'] at ho
  unfold cmpOps at ho
  simp only [List.mem_cons, List.not_mem_nil, or_false, c1, c2, c3, c4, c5, false_or] at ho
  exact ho
theorem zeb : zU a = true ↔ -1000000000000 ≤ a ∧ a ≤ 1000000000000 := by unfold zU; simp only [Bool.and_eq_true, decide_eq_true_eq]
theorem rV_quo (ha : zU a = true) : zU (a.tdiv b) = true := by
  have := zdI a b
  rw [zeb] at *; omega
theorem rem_eq : a - b * a.tdiv b = a.tmod b := by have := Int.mul_tdiv_add_tmod a b; omega
theorem rV_rem (ha : zU a = true) : zU (a - b * a.tdiv b) = true := by
  rw [rem_eq]
  have : (a.tmod b).natAbs ≤ a.natAbs := by rw [Int.natAbs_tmod]; exact Nat.mod_le _ _
  rw [zeb] at *; omega
theorem mul_quo_bd : (b * a.tdiv b).natAbs ≤ a.natAbs := by
  rw [Int.natAbs_mul, Int.natAbs_tdiv]; exact Nat.mul_div_le _ _
theorem times_ok (h : ¬ (a ≠ 0 ∧ b ≠ 0 ∧ (1000000000000 : Int).tdiv (max b (-b)) < max a (-a))) : zbV a b = (a * b, 0) ∧ zU (a * b) = true := by
  refine ⟨by unfold zbV; rw [if_neg h], ?_⟩
  rw [zeb]
  exact times_bd (by by_cases h1 : a = 0; exact .inl h1; by_cases h2 : b = 0; exact .inr (.inl h2); exact .inr (.inr (fun h3 => h ⟨h1, h2, h3⟩)))
end
end Lp
/- Walks, printed by a program of mine. -/
set_option linter.unusedSimpArgs false
set_option linter.unusedVariables false
set_option maxHeartbeats 4000000
set_option maxRecDepth 100000
namespace Lp
open Go Go.RowKit Go.Proofs

namespace HdYtfjinapgehafiaaGreatV68
end HdYtfjinapgehafiaaGreatV68
open HdYtfjinapgehafiaaGreatV68

theorem zaV (v : Int) : CD Tryz.prog 37 [] [dI v] (isR (dB (zU v))) := refValue_c v

theorem zW (op : ByteArray)  :
    CD Tryz.prog 53 [] [.s op] (isR (dB (cmpB op))) := by
  refine zy Tryz.func53 rfl (N := 25) rfl rfl (fun C => ?_)
  refine jk [0] rfl ?_
  refine JD.bd 0 rfl (fun bd0 => ?_)
  have sz0 : op.size ≤ 9223372036854775807 := bd0
  refine jT rfl (oR 1 rfl (oZ rfl (jS rfl (jk [0] rfl ?_))))
  refine zab 2 ((((((decide (op = (⟨#[61, 61]⟩ : ByteArray)) || decide (op = (⟨#[33, 61]⟩ : ByteArray))) || decide (op = (⟨#[60]⟩ : ByteArray))) || decide (op = (⟨#[60, 61]⟩ : ByteArray))) || decide (op = (⟨#[62]⟩ : ByteArray))) || decide (op = (⟨#[62, 61]⟩ : ByteArray)))) [] (fun _ hQ1 => ?_) ?_
  · skip
    by_cases hg2 : op = (⟨#[61, 61]⟩ : ByteArray)
    · skip
      refine za rfl (oR 1 rfl (oP rfl (z7 rfl rfl (decide_eq_true hg2)) (oR 21 rfl (zg rfl ?_))))
      exact PD.sub ((2, dB (((((decide (op = (⟨#[61, 61]⟩ : ByteArray)) || decide (op = (⟨#[33, 61]⟩ : ByteArray))) || decide (op = (⟨#[60]⟩ : ByteArray))) || decide (op = (⟨#[60, 61]⟩ : ByteArray))) || decide (op = (⟨#[62]⟩ : ByteArray))) || decide (op = (⟨#[62, 61]⟩ : ByteArray)))) :: [(0, .s op)]) ⟨sc rfl (Cv.eq (congrArg (fun b => D.v (.bool b)) (by first | (simp [hg2]; done) | (simp_all; done)))), sk rfl, trivial⟩ hQ1
    · skip
      by_cases hg3 : op = (⟨#[33, 61]⟩ : ByteArray)
      · skip
        refine za rfl (oR 1 rfl (oP rfl (z7 rfl rfl (decide_eq_false hg2)) (oR 2 rfl (oG rfl (z7 rfl rfl (decide_eq_true hg3)) (oR 18 rfl (zg rfl ?_))))))
        exact PD.sub ((2, dB (((((decide (op = (⟨#[61, 61]⟩ : ByteArray)) || decide (op = (⟨#[33, 61]⟩ : ByteArray))) || decide (op = (⟨#[60]⟩ : ByteArray))) || decide (op = (⟨#[60, 61]⟩ : ByteArray))) || decide (op = (⟨#[62]⟩ : ByteArray))) || decide (op = (⟨#[62, 61]⟩ : ByteArray)))) :: [(0, .s op)]) ⟨sc rfl (Cv.eq (congrArg (fun b => D.v (.bool b)) (by first | (simp [hg2, hg3]; done) | (simp_all; done)))), sk rfl, trivial⟩ hQ1
      · skip
        by_cases hg4 : op = (⟨#[60]⟩ : ByteArray)
        · skip
          refine za rfl (oR 1 rfl (oP rfl (z7 rfl rfl (decide_eq_false hg2)) (oR 2 rfl (oG rfl (z7 rfl rfl (decide_eq_false hg3)) (oR 3 rfl (oG rfl (z7 rfl rfl (decide_eq_true hg4)) (oR 14 rfl (zg rfl ?_))))))))
          exact PD.sub ((2, dB (((((decide (op = (⟨#[61, 61]⟩ : ByteArray)) || decide (op = (⟨#[33, 61]⟩ : ByteArray))) || decide (op = (⟨#[60]⟩ : ByteArray))) || decide (op = (⟨#[60, 61]⟩ : ByteArray))) || decide (op = (⟨#[62]⟩ : ByteArray))) || decide (op = (⟨#[62, 61]⟩ : ByteArray)))) :: [(0, .s op)]) ⟨sc rfl (Cv.eq (congrArg (fun b => D.v (.bool b)) (by first | (simp [hg2, hg3, hg4]; done) | (simp_all; done)))), sk rfl, trivial⟩ hQ1
        · skip
          by_cases hg5 : op = (⟨#[60, 61]⟩ : ByteArray)
          · skip
            refine za rfl (oR 1 rfl (oP rfl (z7 rfl rfl (decide_eq_false hg2)) (oR 2 rfl (oG rfl (z7 rfl rfl (decide_eq_false hg3)) (oR 3 rfl (oG rfl (z7 rfl rfl (decide_eq_false hg4)) (oR 3 rfl (oG rfl (z7 rfl rfl (decide_eq_true hg5)) (oR 10 rfl (zg rfl ?_))))))))))
            exact PD.sub ((2, dB (((((decide (op = (⟨#[61, 61]⟩ : ByteArray)) || decide (op = (⟨#[33, 61]⟩ : ByteArray))) || decide (op = (⟨#[60]⟩ : ByteArray))) || decide (op = (⟨#[60, 61]⟩ : ByteArray))) || decide (op = (⟨#[62]⟩ : ByteArray))) || decide (op = (⟨#[62, 61]⟩ : ByteArray)))) :: [(0, .s op)]) ⟨sc rfl (Cv.eq (congrArg (fun b => D.v (.bool b)) (by first | (simp [hg2, hg3, hg4, hg5]; done) | (simp_all; done)))), sk rfl, trivial⟩ hQ1
          · skip
            by_cases hg6 : op = (⟨#[62]⟩ : ByteArray)
            · skip
              refine za rfl (oR 1 rfl (oP rfl (z7 rfl rfl (decide_eq_false hg2)) (oR 2 rfl (oG rfl (z7 rfl rfl (decide_eq_false hg3)) (oR 3 rfl (oG rfl (z7 rfl rfl (decide_eq_false hg4)) (oR 3 rfl (oG rfl (z7 rfl rfl (decide_eq_false hg5)) (oR 3 rfl (oG rfl (z7 rfl rfl (decide_eq_true hg6)) (oR 6 rfl (zg rfl ?_))))))))))))
              exact PD.sub ((2, dB (((((decide (op = (⟨#[61, 61]⟩ : ByteArray)) || decide (op = (⟨#[33, 61]⟩ : ByteArray))) || decide (op = (⟨#[60]⟩ : ByteArray))) || decide (op = (⟨#[60, 61]⟩ : ByteArray))) || decide (op = (⟨#[62]⟩ : ByteArray))) || decide (op = (⟨#[62, 61]⟩ : ByteArray)))) :: [(0, .s op)]) ⟨sc rfl (Cv.eq (congrArg (fun b => D.v (.bool b)) (by first | (simp [hg2, hg3, hg4, hg5, hg6]; done) | (simp_all; done)))), sk rfl, trivial⟩ hQ1
            · skip
              refine za rfl (oR 1 rfl (oP rfl (z7 rfl rfl (decide_eq_false hg2)) (oR 2 rfl (oG rfl (z7 rfl rfl (decide_eq_false hg3)) (oR 3 rfl (oG rfl (z7 rfl rfl (decide_eq_false hg4)) (oR 3 rfl (oG rfl (z7 rfl rfl (decide_eq_false hg5)) (oR 3 rfl (oG rfl (z7 rfl rfl (decide_eq_false hg6)) (oR 3 rfl (oG rfl (z7 rfl rfl rfl) (oR 2 rfl (zg rfl ?_))))))))))))))
              exact PD.sub ((2, dB (((((decide (op = (⟨#[61, 61]⟩ : ByteArray)) || decide (op = (⟨#[33, 61]⟩ : ByteArray))) || decide (op = (⟨#[60]⟩ : ByteArray))) || decide (op = (⟨#[60, 61]⟩ : ByteArray))) || decide (op = (⟨#[62]⟩ : ByteArray))) || decide (op = (⟨#[62, 61]⟩ : ByteArray)))) :: [(0, .s op)]) ⟨sc rfl (Cv.eq (congrArg (fun b => D.v (.bool b)) (by first | (simp [hg2, hg3, hg4, hg5, hg6]; done) | (simp_all; done)))), sk rfl, trivial⟩ hQ1
  · skip
    refine zc (zs rfl ?_)
    exact zj Tryz.results53 (.cons (zB (zf rfl) (Cv.eq (congrArg (fun b => D.v (.bool b)) (by unfold cmpB hasN cmpOps; simp [eq_comm, Bool.or_assoc])))) .nil) rfl HSub.none ⟨rfl, rfl⟩

theorem refOp_c (op : ByteArray)  :
    CD Tryz.prog 51 [] [.s op] (isR (dB (opB op))) := by
  refine zy Tryz.func51 rfl (N := 25) rfl rfl (fun C => ?_)
  refine jk [0] rfl ?_
  refine JD.bd 0 rfl (fun bd0 => ?_)
  have sz0 : op.size ≤ 9223372036854775807 := bd0
  refine jT rfl (oR 1 rfl (oZ rfl (jS rfl (jk [0] rfl ?_))))
  refine zab 2 ((((((cmpB op || decide (op = (⟨#[43]⟩ : ByteArray))) || decide (op = (⟨#[45]⟩ : ByteArray))) || decide (op = (⟨#[42]⟩ : ByteArray))) || decide (op = (⟨#[47]⟩ : ByteArray))) || decide (op = (⟨#[37]⟩ : ByteArray)))) [] (fun _ hQ1 => ?_) ?_
  · skip
    rcases Bool.eq_false_or_eq_true (cmpB op) with hg2 | hg2
    · skip
      refine za rfl (oR 1 rfl (oW rfl rfl acs Tryz.call53 (zW op) (os 4 rfl (congrArg (fun b => D.v (.bool b)) hg2) (oR 21 rfl (zg rfl ?_)))))
      exact PD.sub ((2, dB (((((cmpB op || decide (op = (⟨#[43]⟩ : ByteArray))) || decide (op = (⟨#[45]⟩ : ByteArray))) || decide (op = (⟨#[42]⟩ : ByteArray))) || decide (op = (⟨#[47]⟩ : ByteArray))) || decide (op = (⟨#[37]⟩ : ByteArray)))) :: [(0, .s op)]) ⟨sc rfl (Cv.eq (congrArg (fun b => D.v (.bool b)) (by first | (simp [hg2]; done) | (simp_all; done)))), sk rfl, trivial⟩ hQ1
    · skip
      by_cases hg3 : op = (⟨#[43]⟩ : ByteArray)
      · skip
        refine za rfl (oR 1 rfl (oW rfl rfl acs Tryz.call53 (zW op) (os 4 rfl (congrArg (fun b => D.v (.bool b)) hg2) (oR 2 rfl (oG rfl (z7 rfl rfl (decide_eq_true hg3)) (oR 18 rfl (zg rfl ?_)))))))
        exact PD.sub ((2, dB (((((cmpB op || decide (op = (⟨#[43]⟩ : ByteArray))) || decide (op = (⟨#[45]⟩ : ByteArray))) || decide (op = (⟨#[42]⟩ : ByteArray))) || decide (op = (⟨#[47]⟩ : ByteArray))) || decide (op = (⟨#[37]⟩ : ByteArray)))) :: [(0, .s op)]) ⟨sc rfl (Cv.eq (congrArg (fun b => D.v (.bool b)) (by first | (simp [hg2, hg3]; done) | (simp_all; done)))), sk rfl, trivial⟩ hQ1
      · skip
        by_cases hg4 : op = (⟨#[45]⟩ : ByteArray)
        · skip
          refine za rfl (oR 1 rfl (oW rfl rfl acs Tryz.call53 (zW op) (os 4 rfl (congrArg (fun b => D.v (.bool b)) hg2) (oR 2 rfl (oG rfl (z7 rfl rfl (decide_eq_false hg3)) (oR 3 rfl (oG rfl (z7 rfl rfl (decide_eq_true hg4)) (oR 14 rfl (zg rfl ?_)))))))))
          exact PD.sub ((2, dB (((((cmpB op || decide (op = (⟨#[43]⟩ : ByteArray))) || decide (op = (⟨#[45]⟩ : ByteArray))) || decide (op = (⟨#[42]⟩ : ByteArray))) || decide (op = (⟨#[47]⟩ : ByteArray))) || decide (op = (⟨#[37]⟩ : ByteArray)))) :: [(0, .s op)]) ⟨sc rfl (Cv.eq (congrArg (fun b => D.v (.bool b)) (by first | (simp [hg2, hg3, hg4]; done) | (simp_all; done)))), sk rfl, trivial⟩ hQ1
        · skip
          by_cases hg5 : op = (⟨#[42]⟩ : ByteArray)
          · skip
            refine za rfl (oR 1 rfl (oW rfl rfl acs Tryz.call53 (zW op) (os 4 rfl (congrArg (fun b => D.v (.bool b)) hg2) (oR 2 rfl (oG rfl (z7 rfl rfl (decide_eq_false hg3)) (oR 3 rfl (oG rfl (z7 rfl rfl (decide_eq_false hg4)) (oR 3 rfl (oG rfl (z7 rfl rfl (decide_eq_true hg5)) (oR 10 rfl (zg rfl ?_)))))))))))
            exact PD.sub ((2, dB (((((cmpB op || decide (op = (⟨#[43]⟩ : ByteArray))) || decide (op = (⟨#[45]⟩ : ByteArray))) || decide (op = (⟨#[42]⟩ : ByteArray))) || decide (op = (⟨#[47]⟩ : ByteArray))) || decide (op = (⟨#[37]⟩ : ByteArray)))) :: [(0, .s op)]) ⟨sc rfl (Cv.eq (congrArg (fun b => D.v (.bool b)) (by first | (simp [hg2, hg3, hg4, hg5]; done) | (simp_all; done)))), sk rfl, trivial⟩ hQ1
          · skip
            by_cases hg6 : op = (⟨#[47]⟩ : ByteArray)
            · skip
              refine za rfl (oR 1 rfl (oW rfl rfl acs Tryz.call53 (zW op) (os 4 rfl (congrArg (fun b => D.v (.bool b)) hg2) (oR 2 rfl (oG rfl (z7 rfl rfl (decide_eq_false hg3)) (oR 3 rfl (oG rfl (z7 rfl rfl (decide_eq_false hg4)) (oR 3 rfl (oG rfl (z7 rfl rfl (decide_eq_false hg5)) (oR 3 rfl (oG rfl (z7 rfl rfl (decide_eq_true hg6)) (oR 6 rfl (zg rfl ?_)))))))))))))
              exact PD.sub ((2, dB (((((cmpB op || decide (op = (⟨#[43]⟩ : ByteArray))) || decide (op = (⟨#[45]⟩ : ByteArray))) || decide (op = (⟨#[42]⟩ : ByteArray))) || decide (op = (⟨#[47]⟩ : ByteArray))) || decide (op = (⟨#[37]⟩ : ByteArray)))) :: [(0, .s op)]) ⟨sc rfl (Cv.eq (congrArg (fun b => D.v (.bool b)) (by first | (simp [hg2, hg3, hg4, hg5, hg6]; done) | (simp_all; done)))), sk rfl, trivial⟩ hQ1
            · skip
              refine za rfl (oR 1 rfl (oW rfl rfl acs Tryz.call53 (zW op) (os 4 rfl (congrArg (fun b => D.v (.bool b)) hg2) (oR 2 rfl (oG rfl (z7 rfl rfl (decide_eq_false hg3)) (oR 3 rfl (oG rfl (z7 rfl rfl (decide_eq_false hg4)) (oR 3 rfl (oG rfl (z7 rfl rfl (decide_eq_false hg5)) (oR 3 rfl (oG rfl (z7 rfl rfl (decide_eq_false hg6)) (oR 3 rfl (oG rfl (z7 rfl rfl rfl) (oR 2 rfl (zg rfl ?_)))))))))))))))
              exact PD.sub ((2, dB (((((cmpB op || decide (op = (⟨#[43]⟩ : ByteArray))) || decide (op = (⟨#[45]⟩ : ByteArray))) || decide (op = (⟨#[42]⟩ : ByteArray))) || decide (op = (⟨#[47]⟩ : ByteArray))) || decide (op = (⟨#[37]⟩ : ByteArray)))) :: [(0, .s op)]) ⟨sc rfl (Cv.eq (congrArg (fun b => D.v (.bool b)) (by first | (simp [hg2, hg3, hg4, hg5, hg6]; done) | (simp_all; done)))), sk rfl, trivial⟩ hQ1
  · skip
    refine zc (zs rfl ?_)
    exact zj Tryz.results51 (.cons (zB (zf rfl) (Cv.eq (congrArg (fun b => D.v (.bool b)) (by rw [opB_eq])))) .nil) rfl HSub.none ⟨rfl, rfl⟩

theorem refDo_c (op : ByteArray) (a b : Int)  :
    CD Tryz.prog 52 [] [.s op, dI a, dI b] (isR (.tup [dI ((doE op a b).1), dI ((doE op a b).2)])) := by
  refine zy Tryz.func52 rfl (N := 107) rfl rfl (fun C => ?_)
  refine jk [0, 1, 2] rfl ?_
  refine JD.bd 0 rfl (fun bd0 => ?_)
  have sz0 : op.size ≤ 9223372036854775807 := bd0
  refine jT rfl (oR 2 rfl (oZ rfl (jS rfl (jS rfl (jk [0, 1, 2, 6, 7] rfl ?_)))))
  refine zab 22 (((!(zU a) || !(zU b)) || !(opB op))) [] (fun _ hQ1 => ?_) ?_
  · skip
    rcases Bool.eq_false_or_eq_true (zU a) with hg2 | hg2
    · skip
      rcases Bool.eq_false_or_eq_true (zU b) with hg3 | hg3
      · skip
        refine za rfl (oR 1 rfl (oW rfl rfl acs Tryz.call37 (zaV a) (os 11 rfl (congrArg (fun b => D.v (.bool b)) hg2) (oR 3 rfl (oV rfl rfl acs Tryz.call37 (zaV b) (os 15 rfl (congrArg (fun b => D.v (.bool b)) hg3) (oR 4 rfl (oV rfl rfl acs Tryz.call51 (refOp_c op) (oG rfl (zaP rfl) (oR 1 rfl (zg rfl ?_)))))))))))
        exact PD.sub ((22, dB ((!(zU a) || !(zU b)) || !(opB op))) :: [(0, .s op), (1, dI a), (2, dI b), (6, dI 0), (7, dI 0)]) ⟨sc rfl (Cv.eq (congrArg (fun b => D.v (.bool b)) (by first | (simp [hg2, hg3]; done) | (simp_all; done)))), sk rfl, sk rfl, sk rfl, sk rfl, sk rfl, trivial⟩ hQ1
      · skip
        refine za rfl (oR 1 rfl (oW rfl rfl acs Tryz.call37 (zaV a) (os 11 rfl (congrArg (fun b => D.v (.bool b)) hg2) (oR 3 rfl (oV rfl rfl acs Tryz.call37 (zaV b) (os 15 rfl (congrArg (fun b => D.v (.bool b)) hg3) (oR 7 rfl (zg rfl ?_))))))))
        exact PD.sub ((22, dB ((!(zU a) || !(zU b)) || !(opB op))) :: [(0, .s op), (1, dI a), (2, dI b), (6, dI 0), (7, dI 0)]) ⟨sc rfl (Cv.eq (congrArg (fun b => D.v (.bool b)) (by first | (simp [hg2, hg3]; done) | (simp_all; done)))), sk rfl, sk rfl, sk rfl, sk rfl, sk rfl, trivial⟩ hQ1
    · skip
      refine za rfl (oR 1 rfl (oW rfl rfl acs Tryz.call37 (zaV a) (os 11 rfl (congrArg (fun b => D.v (.bool b)) hg2) (oR 11 rfl (zg rfl ?_)))))
      exact PD.sub ((22, dB ((!(zU a) || !(zU b)) || !(opB op))) :: [(0, .s op), (1, dI a), (2, dI b), (6, dI 0), (7, dI 0)]) ⟨sc rfl (Cv.eq (congrArg (fun b => D.v (.bool b)) (by first | (simp [hg2]; done) | (simp_all; done)))), sk rfl, sk rfl, sk rfl, sk rfl, sk rfl, trivial⟩ hQ1
  · skip
    refine zc ?_
    refine jC rfl (fun hc4 => ?_) (fun hc4 => ?_)
    · simp only [bA, bB, bC, bD, bE, bF, bG, bH, bI, bJ] at hc4
      refine jT rfl (oR 2 rfl (oZ rfl (zs rfl (ze ?_))))
      exact zj Tryz.results52 (.cons (zB (zf rfl) (Cv.eq (congrArg (fun n => D.v (.int .i64 n)) (by rw [do_bad (by have h := hc4; (try simp only [Bool.or_eq_true, Bool.not_eq_true'] at h); first | (rcases h with (h | h) | h; exact .inl h; exact .inr (.inl h); exact .inr (.inr h)) | (rcases h with h | h | h; exact .inl h; exact .inr (.inl h); exact .inr (.inr h)))])))) (.cons (zB (zf rfl) (Cv.eq (congrArg (fun n => D.v (.int .i64 n)) (by rw [do_bad (by have h := hc4; (try simp only [Bool.or_eq_true, Bool.not_eq_true'] at h); first | (rcases h with (h | h) | h; exact .inl h; exact .inr (.inl h); exact .inr (.inr h)) | (rcases h with h | h | h; exact .inl h; exact .inr (.inl h); exact .inr (.inr h)))])))) .nil)) rfl HSub.none ⟨rfl, rfl⟩
    · simp only [bA, bB, bC, bD, bE, bF, bG, bH, bI, bJ] at hc4
      have hr := hc4
      have ha : zU a = true := by first | exact hr.1 | exact hr.1.1
      have hb : zU b = true := by first | exact hr.1.2 | exact hr.2.1
      have ho : opB op = true := by first | exact hr.2 | exact hr.2.2
      have hba := zeb.1 ha
      have hbb := zeb.1 hb
      refine zq rfl (zc (jT rfl (oR 2 rfl (oZ rfl (jS rfl (jT rfl (oR 1 rfl (oZ rfl (jB rfl (jT rfl (oP rfl (z7 rfl rfl rfl) (oR 1 rfl (oZ rfl ?_)))))))))))))
      refine jD rfl (fun hc5 => ?_) (fun hc5 => ?_)
      · skip
        have hop : op = (⟨#[43]⟩ : ByteArray) := hc5
        have hcb : cmpB op = false := by rw [hop]; decide
        have hd := do_add ha hb hop
        refine za rfl (oR 2 rfl (oP rfl (zS (c := (a + b)) rfl rfl (zF (by omega) (by omega))) (oR 1 rfl (zg rfl (zw (zc (jk [0, 6, 7, 8, 9] rfl (jS rfl (jT rfl (oR 1 rfl (oW rfl rfl acs Tryz.call53 (zW op) (os 101 rfl (congrArg (fun b => D.v (.bool b)) hcb) (oZ rfl (jCf rfl (zq rfl (zc (jS rfl (jT rfl (oR 1 rfl (oW rfl rfl acs Tryz.call37 (zaV (a + b)) (oP rfl (zaP rfl) (oZ rfl ?_))))))))))))))))))))))
        refine jC rfl (fun hc6 => ?_) (fun hc6 => ?_)
        · simp only [bA, bB, bC, bD, bE, bF, bG, bH, bI, bJ] at hc6
          refine jT rfl (oR 2 rfl (oZ rfl (zs rfl (ze ?_))))
          exact zj Tryz.results52 (.cons (zB (zf rfl) (Cv.eq (congrArg (fun n => D.v (.int .i64 n)) (by rw [hd] <;> unfold zaO <;> first | (rw [if_pos (by first | assumption | simp_all)]; done) | (rw [if_neg (by simp_all)]; done))))) (.cons (zB (zf rfl) (Cv.eq (congrArg (fun n => D.v (.int .i64 n)) (by rw [hd] <;> unfold zaO <;> first | (rw [if_pos (by first | assumption | simp_all)]; done) | (rw [if_neg (by simp_all)]; done))))) .nil)) rfl HSub.none ⟨rfl, rfl⟩
        · simp only [bA, bB, bC, bD, bE, bF, bG, bH, bI, bJ] at hc6
          refine zq rfl (zc (jT rfl (oR 3 rfl (oZ rfl (jk [6, 7] rfl (zs rfl ?_))))))
          exact zj Tryz.results52 (.cons (zB (zf rfl) (Cv.eq (congrArg (fun n => D.v (.int .i64 n)) (by rw [hd] <;> unfold zaO <;> first | (rw [if_pos (by first | assumption | simp_all)]; done) | (rw [if_neg (by simp_all)]; done))))) (.cons (zB (zf rfl) (Cv.eq (congrArg (fun n => D.v (.int .i64 n)) (by rw [hd] <;> unfold zaO <;> first | (rw [if_pos (by first | assumption | simp_all)]; done) | (rw [if_neg (by simp_all)]; done))))) .nil)) rfl HSub.none ⟨rfl, rfl⟩
      · skip
        refine jT rfl (oP rfl (z7 rfl rfl rfl) (oR 1 rfl (oZ rfl ?_)))
        refine jD rfl (fun hc7 => ?_) (fun hc7 => ?_)
        · skip
          have hop : op = (⟨#[45]⟩ : ByteArray) := hc7
          have hcb : cmpB op = false := by rw [hop]; decide
          have hd := do_sub ha hb hop
          refine za rfl (oR 2 rfl (oP rfl (zaG (c := (a - b)) rfl rfl (zF (by omega) (by omega))) (oR 1 rfl (zg rfl (zw (zc (jk [0, 6, 7, 8, 9] rfl (jS rfl (jT rfl (oR 1 rfl (oW rfl rfl acs Tryz.call53 (zW op) (os 101 rfl (congrArg (fun b => D.v (.bool b)) hcb) (oZ rfl (jCf rfl (zq rfl (zc (jS rfl (jT rfl (oR 1 rfl (oW rfl rfl acs Tryz.call37 (zaV (a - b)) (oP rfl (zaP rfl) (oZ rfl ?_))))))))))))))))))))))
          refine jC rfl (fun hc8 => ?_) (fun hc8 => ?_)
          · simp only [bA, bB, bC, bD, bE, bF, bG, bH, bI, bJ] at hc8
            refine jT rfl (oR 2 rfl (oZ rfl (zs rfl (ze ?_))))
            exact zj Tryz.results52 (.cons (zB (zf rfl) (Cv.eq (congrArg (fun n => D.v (.int .i64 n)) (by rw [hd] <;> unfold zaO <;> first | (rw [if_pos (by first | assumption | simp_all)]; done) | (rw [if_neg (by simp_all)]; done))))) (.cons (zB (zf rfl) (Cv.eq (congrArg (fun n => D.v (.int .i64 n)) (by rw [hd] <;> unfold zaO <;> first | (rw [if_pos (by first | assumption | simp_all)]; done) | (rw [if_neg (by simp_all)]; done))))) .nil)) rfl HSub.none ⟨rfl, rfl⟩
          · simp only [bA, bB, bC, bD, bE, bF, bG, bH, bI, bJ] at hc8
            refine zq rfl (zc (jT rfl (oR 3 rfl (oZ rfl (jk [6, 7] rfl (zs rfl ?_))))))
            exact zj Tryz.results52 (.cons (zB (zf rfl) (Cv.eq (congrArg (fun n => D.v (.int .i64 n)) (by rw [hd] <;> unfold zaO <;> first | (rw [if_pos (by first | assumption | simp_all)]; done) | (rw [if_neg (by simp_all)]; done))))) (.cons (zB (zf rfl) (Cv.eq (congrArg (fun n => D.v (.int .i64 n)) (by rw [hd] <;> unfold zaO <;> first | (rw [if_pos (by first | assumption | simp_all)]; done) | (rw [if_neg (by simp_all)]; done))))) .nil)) rfl HSub.none ⟨rfl, rfl⟩
        · skip
          refine jT rfl (oP rfl (z7 rfl rfl rfl) (oR 1 rfl (oZ rfl ?_)))
          refine jD rfl (fun hc9 => ?_) (fun hc9 => ?_)
          · skip
            have hop : op = (⟨#[42]⟩ : ByteArray) := hc9
            have hcb : cmpB op = false := by rw [hop]; decide
            have hd := do_mul ha hb hop
            refine jS rfl (jS rfl (jk [0, 1, 2, 6, 7, 8, 9] rfl ?_))
            refine zab 56 (((decide (a ≠ (0 : Int)) && decide (b ≠ (0 : Int))) && decide ((Int.tdiv 1000000000000 (max b (-b))) < (max a (-a))))) [] (fun _ hQ10 => ?_) ?_
            · skip
              by_cases hg11 : a ≠ (0 : Int)
              · skip
                by_cases hg12 : b ≠ (0 : Int)
                · skip
                  refine za rfl (oR 1 rfl (oP rfl (zau rfl rfl (decide_eq_true hg11)) (oR 2 rfl (oG rfl (zau rfl rfl (decide_eq_true hg12)) (oR 4 rfl (oG rfl (p_neg rfl (c := (-a)) (zF (by omega) (by omega))) (oG rfl (p_max rfl rfl rfl) (oR 2 rfl (oG rfl (p_neg rfl (c := (-b)) (zF (by omega) (by omega))) (oG rfl (p_max rfl rfl rfl) ?_))))))))))
                  have htd := zdI (1000000000000) (max b (-b))
                  refine oG rfl (zel (c := (Int.tdiv 1000000000000 (max b (-b)))) rfl rfl (by omega) (zF rfl (by omega))) (oG rfl (zaz rfl rfl rfl) (oR 1 rfl (zg rfl ?_)))
                  exact PD.sub ((56, dB ((decide (a ≠ (0 : Int)) && decide (b ≠ (0 : Int))) && decide ((Int.tdiv 1000000000000 (max b (-b))) < (max a (-a))))) :: [(0, .s op), (1, dI a), (2, dI b), (6, dI 0), (7, dI 0), (8, dI 0), (9, dB false)]) ⟨sc rfl (Cv.eq (congrArg (fun b => D.v (.bool b)) (by first | (simp [hc5, hc7, hc9, hcb, hg11, hg12]; done) | (simp_all; done)))), sk rfl, sk rfl, sk rfl, sk rfl, sk rfl, sk rfl, sk rfl, trivial⟩ hQ10
                · skip
                  refine za rfl (oR 1 rfl (oP rfl (zau rfl rfl (decide_eq_true hg11)) (oR 2 rfl (oG rfl (zau rfl rfl (decide_eq_false hg12)) (oR 13 rfl (zg rfl ?_))))))
                  exact PD.sub ((56, dB ((decide (a ≠ (0 : Int)) && decide (b ≠ (0 : Int))) && decide ((Int.tdiv 1000000000000 (max b (-b))) < (max a (-a))))) :: [(0, .s op), (1, dI a), (2, dI b), (6, dI 0), (7, dI 0), (8, dI 0), (9, dB false)]) ⟨sc rfl (Cv.eq (congrArg (fun b => D.v (.bool b)) (by first | (simp [hc5, hc7, hc9, hcb, hg11, hg12]; done) | (simp_all; done)))), sk rfl, sk rfl, sk rfl, sk rfl, sk rfl, sk rfl, sk rfl, trivial⟩ hQ10
              · skip
                refine za rfl (oR 1 rfl (oP rfl (zau rfl rfl (decide_eq_false hg11)) (oR 16 rfl (zg rfl ?_))))
                exact PD.sub ((56, dB ((decide (a ≠ (0 : Int)) && decide (b ≠ (0 : Int))) && decide ((Int.tdiv 1000000000000 (max b (-b))) < (max a (-a))))) :: [(0, .s op), (1, dI a), (2, dI b), (6, dI 0), (7, dI 0), (8, dI 0), (9, dB false)]) ⟨sc rfl (Cv.eq (congrArg (fun b => D.v (.bool b)) (by first | (simp [hc5, hc7, hc9, hcb, hg11]; done) | (simp_all; done)))), sk rfl, sk rfl, sk rfl, sk rfl, sk rfl, sk rfl, sk rfl, trivial⟩ hQ10
            · skip
              refine zc ?_
              refine jC rfl (fun hc13 => ?_) (fun hc13 => ?_)
              · simp only [bA, bB, bC, bD, bE, bF, bG, bH, bI, bJ] at hc13
                refine jT rfl (oR 2 rfl (oZ rfl (zs rfl (ze (zi (ze ?_))))))
                exact zj Tryz.results52 (.cons (zB (zf rfl) (Cv.eq (congrArg (fun n => D.v (.int .i64 n)) (by rw [hd] <;> first | (rw [htk.1]; done) | (unfold zbV; rw [if_pos (by have h := hc13; omega)]))))) (.cons (zB (zf rfl) (Cv.eq (congrArg (fun n => D.v (.int .i64 n)) (by rw [hd] <;> first | (rw [htk.1]; done) | (unfold zbV; rw [if_pos (by have h := hc13; omega)]))))) .nil)) rfl HSub.none ⟨rfl, rfl⟩
              · simp only [bA, bB, bC, bD, bE, bF, bG, bH, bI, bJ] at hc13
                refine zq rfl (zc (za rfl (oR 2 rfl ?_)))
                have htk := times_ok (a := a) (b := b) (by have h := hc13; omega)
                have hrv := htk.2
                have hmb := zeb.1 htk.2
                refine oP rfl (zdV (c := (a * b)) rfl rfl (zF rfl (by omega))) (oR 1 rfl (zg rfl (zw (zc (jS rfl (jT rfl (oR 1 rfl (oW rfl rfl acs Tryz.call53 (zW op) (os 101 rfl (congrArg (fun b => D.v (.bool b)) hcb) (oZ rfl (jCf rfl (zq rfl (zc (jk [6, 7, 8] rfl (jS rfl (jT rfl (oR 1 rfl (oW rfl rfl acs Tryz.call37 (zaV (a * b)) (os 104 rfl (congrArg (fun b => D.v (.bool b)) hrv) (oR 1 rfl (oZ rfl (jCf rfl (zq rfl (zc (jT rfl (oR 3 rfl (oZ rfl (zs rfl ?_))))))))))))))))))))))))))))
                exact zj Tryz.results52 (.cons (zB (zf rfl) (Cv.eq (congrArg (fun n => D.v (.int .i64 n)) (by rw [hd] <;> first | (rw [htk.1]; done) | (unfold zbV; rw [if_pos (by have h := hc13; omega)]))))) (.cons (zB (zf rfl) (Cv.eq (congrArg (fun n => D.v (.int .i64 n)) (by rw [hd] <;> first | (rw [htk.1]; done) | (unfold zbV; rw [if_pos (by have h := hc13; omega)]))))) .nil)) rfl HSub.none ⟨rfl, rfl⟩
          · skip
            refine jS rfl (jT rfl (oP rfl (z7 rfl rfl rfl) (oR 1 rfl (oZ rfl ?_))))
            refine jD rfl (fun hc14 => ?_) (fun hc14 => ?_)
            · skip
              have hop : op = (⟨#[47]⟩ : ByteArray) := hc14
              have hcb : cmpB op = false := by rw [hop]; decide
              have hd := do_quo ha hb hop
              have hn37 : ¬ op = (⟨#[37]⟩ : ByteArray) := by rw [hop]; decide
              refine zq rfl (zc ?_)
              refine jD rfl (fun hc15 => ?_) (fun hc15 => ?_)
              · skip
                refine jS rfl (jT rfl (oR 1 rfl (oP rfl (zV rfl rfl rfl) (oZ rfl (jk [0, 1, 2, 6, 7, 8, 9, 64] rfl ?_)))))
                refine jD rfl (fun hc16 => ?_) (fun hc16 => ?_)
                · skip
                  refine jT rfl (oR 2 rfl (oZ rfl (zs rfl (ze (zi (ze ?_))))))
                  exact zj Tryz.results52 (.cons (zB (zf rfl) (Cv.eq (congrArg (fun n => D.v (.int .i64 n)) (by rw [hd] <;> first | (rw [if_pos (by first | assumption | omega)]; done) | (rw [if_neg (by first | assumption | omega)]; done))))) (.cons (zB (zf rfl) (Cv.eq (congrArg (fun n => D.v (.int .i64 n)) (by rw [hd] <;> first | (rw [if_pos (by first | assumption | omega)]; done) | (rw [if_neg (by first | assumption | omega)]; done))))) .nil)) rfl HSub.none ⟨rfl, rfl⟩
                · skip
                  refine zq rfl (zc (jT rfl (oR 2 rfl ?_)))
                  have htd := zdI a b
                  have hrv : zU (Int.tdiv a b) = true := rV_quo ha
                  refine oP rfl (zel (c := (Int.tdiv a b)) rfl rfl (by omega) (zF rfl (by omega))) (oR 1 rfl (oZ rfl (jT rfl (oR 1 rfl (oP rfl (z7 rfl rfl (decide_eq_false hn37)) (oZ rfl (jCf rfl (zq rfl (zw (zc (jS rfl (jT rfl (oR 1 rfl (oW rfl rfl acs Tryz.call53 (zW op) (os 101 rfl (congrArg (fun b => D.v (.bool b)) hcb) (oZ rfl (jk [6, 7, 8, 9, 101] rfl (jCf rfl (zq rfl (zc (jS rfl (jT rfl (oR 1 rfl (oW rfl rfl acs Tryz.call37 (zaV (Int.tdiv a b)) (os 104 rfl (congrArg (fun b => D.v (.bool b)) hrv) (oR 1 rfl (oZ rfl (jCf rfl (zq rfl (zc (jT rfl (oR 3 rfl (oZ rfl (zs rfl ?_))))))))))))))))))))))))))))))))))
                  exact zj Tryz.results52 (.cons (zB (zf rfl) (Cv.eq (congrArg (fun n => D.v (.int .i64 n)) (by rw [hd] <;> first | (rw [if_pos (by first | assumption | omega)]; done) | (rw [if_neg (by first | assumption | omega)]; done))))) (.cons (zB (zf rfl) (Cv.eq (congrArg (fun n => D.v (.int .i64 n)) (by rw [hd] <;> first | (rw [if_pos (by first | assumption | omega)]; done) | (rw [if_neg (by first | assumption | omega)]; done))))) .nil)) rfl HSub.none ⟨rfl, rfl⟩
              · skip
                refine jT rfl (oP rfl (z7 rfl rfl rfl) (oR 1 rfl (oZ rfl (jk [0, 1, 2, 6, 7, 8, 9, 23, 75] rfl ?_))))
                refine jD rfl (fun hc17 => ?_) (fun hc17 => ?_)
                · skip
                  have hop : op = (⟨#[61, 61]⟩ : ByteArray) := hc17
                  have hcb : cmpB op = true := by rw [hop]; decide
                  have hd := do_eq ha hb hop
                  refine za rfl (oR 2 rfl (oP rfl (zV rfl rfl rfl) (oR 1 rfl (zg rfl (zw (zc (jS rfl (jT rfl (oR 1 rfl (oW rfl rfl acs Tryz.call53 (zW op) (os 101 rfl (congrArg (fun b => D.v (.bool b)) hcb) (oZ rfl (jk [6, 7, 8, 9, 101] rfl (jCt rfl (jS rfl (jT rfl (oR 1 rfl (oZ rfl ?_))))))))))))))))))
                  refine jD rfl (fun hc18 => ?_) (fun hc18 => ?_)
                  · skip
                    refine jT rfl (oR 2 rfl (oZ rfl (zs rfl (ze (ze ?_)))))
                    exact zj Tryz.results52 (.cons (zB (zf rfl) (Cv.eq (congrArg (fun n => D.v (.int .i64 n)) (by rw [hd] <;> first | (rw [if_pos (by simp_all)]; done) | (rw [if_neg (by simp_all)]; done))))) (.cons (zB (zf rfl) (Cv.eq (congrArg (fun n => D.v (.int .i64 n)) (by rw [hd] <;> first | (rw [if_pos (by simp_all)]; done) | (rw [if_neg (by simp_all)]; done))))) .nil)) rfl HSub.none ⟨rfl, rfl⟩
                  · skip
                    refine zq rfl (zc (jT rfl (oR 2 rfl (oZ rfl (zs rfl (ze ?_))))))
                    exact zj Tryz.results52 (.cons (zB (zf rfl) (Cv.eq (congrArg (fun n => D.v (.int .i64 n)) (by rw [hd] <;> first | (rw [if_pos (by simp_all)]; done) | (rw [if_neg (by simp_all)]; done))))) (.cons (zB (zf rfl) (Cv.eq (congrArg (fun n => D.v (.int .i64 n)) (by rw [hd] <;> first | (rw [if_pos (by simp_all)]; done) | (rw [if_neg (by simp_all)]; done))))) .nil)) rfl HSub.none ⟨rfl, rfl⟩
                · skip
                  refine jT rfl (oP rfl (z7 rfl rfl rfl) (oR 1 rfl (oZ rfl ?_)))
                  refine jD rfl (fun hc19 => ?_) (fun hc19 => ?_)
                  · skip
                    have hop : op = (⟨#[33, 61]⟩ : ByteArray) := hc19
                    have hcb : cmpB op = true := by rw [hop]; decide
                    have hd := do_ne ha hb hop
                    refine za rfl (oR 2 rfl (oP rfl (zau rfl rfl rfl) (oR 1 rfl (zg rfl (zw (zc (jk [0, 6, 7, 8, 9] rfl (jS rfl (jT rfl (oR 1 rfl (oW rfl rfl acs Tryz.call53 (zW op) (os 101 rfl (congrArg (fun b => D.v (.bool b)) hcb) (oZ rfl (jCt rfl (jS rfl (jT rfl (oR 1 rfl (oZ rfl ?_))))))))))))))))))
                    refine jD rfl (fun hc20 => ?_) (fun hc20 => ?_)
                    · skip
                      refine jT rfl (oR 2 rfl (oZ rfl (zs rfl (ze (ze ?_)))))
                      exact zj Tryz.results52 (.cons (zB (zf rfl) (Cv.eq (congrArg (fun n => D.v (.int .i64 n)) (by rw [hd] <;> first | (rw [if_pos (by simp_all)]; done) | (rw [if_neg (by simp_all)]; done))))) (.cons (zB (zf rfl) (Cv.eq (congrArg (fun n => D.v (.int .i64 n)) (by rw [hd] <;> first | (rw [if_pos (by simp_all)]; done) | (rw [if_neg (by simp_all)]; done))))) .nil)) rfl HSub.none ⟨rfl, rfl⟩
                    · skip
                      refine zq rfl (zc (jT rfl (oR 2 rfl (oZ rfl (zs rfl (ze ?_))))))
                      exact zj Tryz.results52 (.cons (zB (zf rfl) (Cv.eq (congrArg (fun n => D.v (.int .i64 n)) (by rw [hd] <;> first | (rw [if_pos (by simp_all)]; done) | (rw [if_neg (by simp_all)]; done))))) (.cons (zB (zf rfl) (Cv.eq (congrArg (fun n => D.v (.int .i64 n)) (by rw [hd] <;> first | (rw [if_pos (by simp_all)]; done) | (rw [if_neg (by simp_all)]; done))))) .nil)) rfl HSub.none ⟨rfl, rfl⟩
                  · skip
                    refine jT rfl (oP rfl (z7 rfl rfl rfl) (oR 1 rfl (oZ rfl ?_)))
                    refine jD rfl (fun hc21 => ?_) (fun hc21 => ?_)
                    · skip
                      have hop : op = (⟨#[60]⟩ : ByteArray) := hc21
                      have hcb : cmpB op = true := by rw [hop]; decide
                      have hd := do_lt ha hb hop
                      refine za rfl (oR 2 rfl (oP rfl (zL rfl rfl rfl) (oR 1 rfl (zg rfl (zw (zc (jk [0, 6, 7, 8, 9] rfl (jS rfl (jT rfl (oR 1 rfl (oW rfl rfl acs Tryz.call53 (zW op) (os 101 rfl (congrArg (fun b => D.v (.bool b)) hcb) (oZ rfl (jCt rfl (jS rfl (jT rfl (oR 1 rfl (oZ rfl ?_))))))))))))))))))
                      refine jD rfl (fun hc22 => ?_) (fun hc22 => ?_)
                      · skip
                        refine jT rfl (oR 2 rfl (oZ rfl (zs rfl (ze (ze ?_)))))
                        exact zj Tryz.results52 (.cons (zB (zf rfl) (Cv.eq (congrArg (fun n => D.v (.int .i64 n)) (by rw [hd] <;> first | (rw [if_pos (by simp_all)]; done) | (rw [if_neg (by simp_all)]; done))))) (.cons (zB (zf rfl) (Cv.eq (congrArg (fun n => D.v (.int .i64 n)) (by rw [hd] <;> first | (rw [if_pos (by simp_all)]; done) | (rw [if_neg (by simp_all)]; done))))) .nil)) rfl HSub.none ⟨rfl, rfl⟩
                      · skip
                        refine zq rfl (zc (jT rfl (oR 2 rfl (oZ rfl (zs rfl (ze ?_))))))
                        exact zj Tryz.results52 (.cons (zB (zf rfl) (Cv.eq (congrArg (fun n => D.v (.int .i64 n)) (by rw [hd] <;> first | (rw [if_pos (by simp_all)]; done) | (rw [if_neg (by simp_all)]; done))))) (.cons (zB (zf rfl) (Cv.eq (congrArg (fun n => D.v (.int .i64 n)) (by rw [hd] <;> first | (rw [if_pos (by simp_all)]; done) | (rw [if_neg (by simp_all)]; done))))) .nil)) rfl HSub.none ⟨rfl, rfl⟩
                    · skip
                      refine jT rfl (oP rfl (z7 rfl rfl rfl) (oR 1 rfl (oZ rfl ?_)))
                      refine jD rfl (fun hc23 => ?_) (fun hc23 => ?_)
                      · skip
                        have hop : op = (⟨#[60, 61]⟩ : ByteArray) := hc23
                        have hcb : cmpB op = true := by rw [hop]; decide
                        have hd := do_le ha hb hop
                        refine za rfl (oR 2 rfl (oP rfl (zaK rfl rfl rfl) (oR 1 rfl (zg rfl (zw (zc (jk [0, 6, 7, 8, 9] rfl (jS rfl (jT rfl (oR 1 rfl (oW rfl rfl acs Tryz.call53 (zW op) (os 101 rfl (congrArg (fun b => D.v (.bool b)) hcb) (oZ rfl (jCt rfl (jS rfl (jT rfl (oR 1 rfl (oZ rfl ?_))))))))))))))))))
                        refine jD rfl (fun hc24 => ?_) (fun hc24 => ?_)
                        · skip
                          refine jT rfl (oR 2 rfl (oZ rfl (zs rfl (ze (ze ?_)))))
                          exact zj Tryz.results52 (.cons (zB (zf rfl) (Cv.eq (congrArg (fun n => D.v (.int .i64 n)) (by rw [hd] <;> first | (rw [if_pos (by simp_all)]; done) | (rw [if_neg (by simp_all)]; done))))) (.cons (zB (zf rfl) (Cv.eq (congrArg (fun n => D.v (.int .i64 n)) (by rw [hd] <;> first | (rw [if_pos (by simp_all)]; done) | (rw [if_neg (by simp_all)]; done))))) .nil)) rfl HSub.none ⟨rfl, rfl⟩
                        · skip
                          refine zq rfl (zc (jT rfl (oR 2 rfl (oZ rfl (zs rfl (ze ?_))))))
                          exact zj Tryz.results52 (.cons (zB (zf rfl) (Cv.eq (congrArg (fun n => D.v (.int .i64 n)) (by rw [hd] <;> first | (rw [if_pos (by simp_all)]; done) | (rw [if_neg (by simp_all)]; done))))) (.cons (zB (zf rfl) (Cv.eq (congrArg (fun n => D.v (.int .i64 n)) (by rw [hd] <;> first | (rw [if_pos (by simp_all)]; done) | (rw [if_neg (by simp_all)]; done))))) .nil)) rfl HSub.none ⟨rfl, rfl⟩
                      · skip
                        refine jT rfl (oP rfl (z7 rfl rfl rfl) (oR 1 rfl (oZ rfl (jk [0, 1, 2, 6, 7, 8, 9, 95] rfl ?_))))
                        refine jD rfl (fun hc25 => ?_) (fun hc25 => ?_)
                        · skip
                          have hop : op = (⟨#[62]⟩ : ByteArray) := hc25
                          have hcb : cmpB op = true := by rw [hop]; decide
                          have hd := do_gt ha hb hop
                          refine za rfl (oR 2 rfl (oP rfl (zaz rfl rfl rfl) (oR 1 rfl (zg rfl (zw (zc (jS rfl (jT rfl (oR 1 rfl (oW rfl rfl acs Tryz.call53 (zW op) (os 101 rfl (congrArg (fun b => D.v (.bool b)) hcb) (oZ rfl (jCt rfl (jS rfl (jT rfl (oR 1 rfl (oZ rfl (jk [6, 7, 8, 102] rfl ?_))))))))))))))))))
                          refine jD rfl (fun hc26 => ?_) (fun hc26 => ?_)
                          · skip
                            refine jT rfl (oR 2 rfl (oZ rfl (zs rfl (ze (ze ?_)))))
                            exact zj Tryz.results52 (.cons (zB (zf rfl) (Cv.eq (congrArg (fun n => D.v (.int .i64 n)) (by rw [hd] <;> first | (rw [if_pos (by simp_all)]; done) | (rw [if_neg (by simp_all)]; done))))) (.cons (zB (zf rfl) (Cv.eq (congrArg (fun n => D.v (.int .i64 n)) (by rw [hd] <;> first | (rw [if_pos (by simp_all)]; done) | (rw [if_neg (by simp_all)]; done))))) .nil)) rfl HSub.none ⟨rfl, rfl⟩
                          · skip
                            refine zq rfl (zc (jT rfl (oR 2 rfl (oZ rfl (zs rfl (ze ?_))))))
                            exact zj Tryz.results52 (.cons (zB (zf rfl) (Cv.eq (congrArg (fun n => D.v (.int .i64 n)) (by rw [hd] <;> first | (rw [if_pos (by simp_all)]; done) | (rw [if_neg (by simp_all)]; done))))) (.cons (zB (zf rfl) (Cv.eq (congrArg (fun n => D.v (.int .i64 n)) (by rw [hd] <;> first | (rw [if_pos (by simp_all)]; done) | (rw [if_neg (by simp_all)]; done))))) .nil)) rfl HSub.none ⟨rfl, rfl⟩
                        · skip
                          have hge : op = (⟨#[62, 61]⟩ : ByteArray) := op_last ho (by assumption) (by assumption) (by assumption) (by assumption) (by assumption) (by assumption) (by assumption) (by assumption) (by assumption) (by assumption)
                          have hop : op = (⟨#[62, 61]⟩ : ByteArray) := hge
                          have hcb : cmpB op = true := by rw [hop]; decide
                          have hd := do_ge ha hb hop
                          refine za rfl (oR 2 rfl (oP rfl (z8 rfl rfl rfl) (oR 1 rfl (zg rfl (zw (zc (jS rfl (jT rfl (oR 1 rfl (oW rfl rfl acs Tryz.call53 (zW op) (os 101 rfl (congrArg (fun b => D.v (.bool b)) hcb) (oZ rfl (jCt rfl (jS rfl (jT rfl (oR 1 rfl (oZ rfl (jk [6, 7, 8, 102] rfl ?_))))))))))))))))))
                          refine jD rfl (fun hc27 => ?_) (fun hc27 => ?_)
                          · skip
                            refine jT rfl (oR 2 rfl (oZ rfl (zs rfl (ze (ze ?_)))))
                            exact zj Tryz.results52 (.cons (zB (zf rfl) (Cv.eq (congrArg (fun n => D.v (.int .i64 n)) (by rw [hd] <;> first | (rw [if_pos (by simp_all)]; done) | (rw [if_neg (by simp_all)]; done))))) (.cons (zB (zf rfl) (Cv.eq (congrArg (fun n => D.v (.int .i64 n)) (by rw [hd] <;> first | (rw [if_pos (by simp_all)]; done) | (rw [if_neg (by simp_all)]; done))))) .nil)) rfl HSub.none ⟨rfl, rfl⟩
                          · skip
                            refine zq rfl (zc (jT rfl (oR 2 rfl (oZ rfl (zs rfl (ze ?_))))))
                            exact zj Tryz.results52 (.cons (zB (zf rfl) (Cv.eq (congrArg (fun n => D.v (.int .i64 n)) (by rw [hd] <;> first | (rw [if_pos (by simp_all)]; done) | (rw [if_neg (by simp_all)]; done))))) (.cons (zB (zf rfl) (Cv.eq (congrArg (fun n => D.v (.int .i64 n)) (by rw [hd] <;> first | (rw [if_pos (by simp_all)]; done) | (rw [if_neg (by simp_all)]; done))))) .nil)) rfl HSub.none ⟨rfl, rfl⟩
            · skip
              refine za rfl (oP rfl (z7 rfl rfl rfl) (oR 1 rfl (oZ rfl (jk [0, 1, 2, 6, 7, 8, 9, 23, 60] rfl ?_))))
              refine jD rfl (fun hc28 => ?_) (fun hc28 => ?_)
              · skip
                have hop : op = (⟨#[37]⟩ : ByteArray) := hc28
                have hcb : cmpB op = false := by rw [hop]; decide
                have hd := do_rem ha hb hop
                refine jS rfl (jT rfl (oR 1 rfl (oP rfl (zV rfl rfl rfl) (oZ rfl ?_))))
                refine jD rfl (fun hc29 => ?_) (fun hc29 => ?_)
                · skip
                  refine jT rfl (oR 2 rfl (oZ rfl (zs rfl (ze (zi (ze ?_))))))
                  exact zj Tryz.results52 (.cons (zB (zf rfl) (Cv.eq (congrArg (fun n => D.v (.int .i64 n)) (by rw [hd] <;> first | (rw [if_pos (by first | assumption | omega)]; done) | (rw [if_neg (by first | assumption | omega)]; done))))) (.cons (zB (zf rfl) (Cv.eq (congrArg (fun n => D.v (.int .i64 n)) (by rw [hd] <;> first | (rw [if_pos (by first | assumption | omega)]; done) | (rw [if_neg (by first | assumption | omega)]; done))))) .nil)) rfl HSub.none ⟨rfl, rfl⟩
                · skip
                  refine zq rfl (zc (jT rfl (oR 2 rfl ?_)))
                  have htd := zdI a b
                  have hrv : zU (Int.tdiv a b) = true := rV_quo ha
                  refine oP rfl (zel (c := (Int.tdiv a b)) rfl rfl (by omega) (zF rfl (by omega))) (oR 1 rfl (oZ rfl (jT rfl (oR 1 rfl (oP rfl (z7 rfl rfl (decide_eq_true hop)) (oZ rfl (jCt rfl (za rfl (oR 3 rfl ?_)))))))))
                  have hmb := mul_quo_bd (a := a) (b := b)
                  refine oP rfl (zdV (c := (b * Int.tdiv a b)) rfl rfl (zF rfl (by omega))) ?_
                  have hrv2 : zU (a - b * Int.tdiv a b) = true := rV_rem ha
                  have hrvm : zU (Int.tmod a b) = true := by rw [← rem_eq]; exact hrv2
                  have hbm := zeb.1 hrvm
                  have hre := rem_eq (a := a) (b := b)
                  refine oP rfl ((zaG (c := (a - b * Int.tdiv a b)) rfl rfl (zF rfl (by omega))).cv (Cv.eq (congrArg dI hre))) (oR 1 rfl (zg rfl (zw (zc (jk [0, 6, 7, 8, 9] rfl (jS rfl (jT rfl (oR 1 rfl (oW rfl rfl acs Tryz.call53 (zW op) (os 101 rfl (congrArg (fun b => D.v (.bool b)) hcb) (oZ rfl (jCf rfl (zq rfl (zc (jS rfl (jT rfl (oR 1 rfl (oW rfl rfl acs Tryz.call37 (zaV (Int.tmod a b)) (os 104 rfl (congrArg (fun b => D.v (.bool b)) hrvm) (oR 1 rfl (oZ rfl (jCf rfl (zq rfl (zc (jT rfl (oR 3 rfl (oZ rfl (jk [6, 7] rfl (zs rfl ?_)))))))))))))))))))))))))))))
                  exact zj Tryz.results52 (.cons (zB (zf rfl) (Cv.eq (congrArg (fun n => D.v (.int .i64 n)) (by rw [hd] <;> first | (rw [if_pos (by first | assumption | omega)]; done) | (rw [if_neg (by first | assumption | omega)]; done))))) (.cons (zB (zf rfl) (Cv.eq (congrArg (fun n => D.v (.int .i64 n)) (by rw [hd] <;> first | (rw [if_pos (by first | assumption | omega)]; done) | (rw [if_neg (by first | assumption | omega)]; done))))) .nil)) rfl HSub.none ⟨rfl, rfl⟩
              · skip
                refine jT rfl (oP rfl (z7 rfl rfl rfl) (oR 1 rfl (oZ rfl ?_)))
                refine jD rfl (fun hc30 => ?_) (fun hc30 => ?_)
                · skip
                  have hop : op = (⟨#[61, 61]⟩ : ByteArray) := hc30
                  have hcb : cmpB op = true := by rw [hop]; decide
                  have hd := do_eq ha hb hop
                  refine za rfl (oR 2 rfl (oP rfl (zV rfl rfl rfl) (oR 1 rfl (zg rfl (zw (zc (jk [0, 6, 7, 8, 9] rfl (jS rfl (jT rfl (oR 1 rfl (oW rfl rfl acs Tryz.call53 (zW op) (os 101 rfl (congrArg (fun b => D.v (.bool b)) hcb) (oZ rfl (jCt rfl (jS rfl (jT rfl (oR 1 rfl (oZ rfl ?_))))))))))))))))))
                  refine jD rfl (fun hc31 => ?_) (fun hc31 => ?_)
                  · skip
                    refine jT rfl (oR 2 rfl (oZ rfl (zs rfl (ze (ze ?_)))))
                    exact zj Tryz.results52 (.cons (zB (zf rfl) (Cv.eq (congrArg (fun n => D.v (.int .i64 n)) (by rw [hd] <;> first | (rw [if_pos (by simp_all)]; done) | (rw [if_neg (by simp_all)]; done))))) (.cons (zB (zf rfl) (Cv.eq (congrArg (fun n => D.v (.int .i64 n)) (by rw [hd] <;> first | (rw [if_pos (by simp_all)]; done) | (rw [if_neg (by simp_all)]; done))))) .nil)) rfl HSub.none ⟨rfl, rfl⟩
                  · skip
                    refine zq rfl (zc (jT rfl (oR 2 rfl (oZ rfl (zs rfl (ze ?_))))))
                    exact zj Tryz.results52 (.cons (zB (zf rfl) (Cv.eq (congrArg (fun n => D.v (.int .i64 n)) (by rw [hd] <;> first | (rw [if_pos (by simp_all)]; done) | (rw [if_neg (by simp_all)]; done))))) (.cons (zB (zf rfl) (Cv.eq (congrArg (fun n => D.v (.int .i64 n)) (by rw [hd] <;> first | (rw [if_pos (by simp_all)]; done) | (rw [if_neg (by simp_all)]; done))))) .nil)) rfl HSub.none ⟨rfl, rfl⟩
                · skip
                  refine jT rfl (oP rfl (z7 rfl rfl rfl) (oR 1 rfl (oZ rfl ?_)))
                  refine jD rfl (fun hc32 => ?_) (fun hc32 => ?_)
                  · skip
                    have hop : op = (⟨#[33, 61]⟩ : ByteArray) := hc32
                    have hcb : cmpB op = true := by rw [hop]; decide
                    have hd := do_ne ha hb hop
                    refine za rfl (oR 2 rfl (oP rfl (zau rfl rfl rfl) (oR 1 rfl (zg rfl (zw (zc (jk [0, 6, 7, 8, 9] rfl (jS rfl (jT rfl (oR 1 rfl (oW rfl rfl acs Tryz.call53 (zW op) (os 101 rfl (congrArg (fun b => D.v (.bool b)) hcb) (oZ rfl (jCt rfl (jS rfl (jT rfl (oR 1 rfl (oZ rfl ?_))))))))))))))))))
                    refine jD rfl (fun hc33 => ?_) (fun hc33 => ?_)
                    · skip
                      refine jT rfl (oR 2 rfl (oZ rfl (zs rfl (ze (ze ?_)))))
                      exact zj Tryz.results52 (.cons (zB (zf rfl) (Cv.eq (congrArg (fun n => D.v (.int .i64 n)) (by rw [hd] <;> first | (rw [if_pos (by simp_all)]; done) | (rw [if_neg (by simp_all)]; done))))) (.cons (zB (zf rfl) (Cv.eq (congrArg (fun n => D.v (.int .i64 n)) (by rw [hd] <;> first | (rw [if_pos (by simp_all)]; done) | (rw [if_neg (by simp_all)]; done))))) .nil)) rfl HSub.none ⟨rfl, rfl⟩
                    · skip
                      refine zq rfl (zc (jT rfl (oR 2 rfl (oZ rfl (zs rfl (ze ?_))))))
                      exact zj Tryz.results52 (.cons (zB (zf rfl) (Cv.eq (congrArg (fun n => D.v (.int .i64 n)) (by rw [hd] <;> first | (rw [if_pos (by simp_all)]; done) | (rw [if_neg (by simp_all)]; done))))) (.cons (zB (zf rfl) (Cv.eq (congrArg (fun n => D.v (.int .i64 n)) (by rw [hd] <;> first | (rw [if_pos (by simp_all)]; done) | (rw [if_neg (by simp_all)]; done))))) .nil)) rfl HSub.none ⟨rfl, rfl⟩
                  · skip
                    refine jT rfl (oP rfl (z7 rfl rfl rfl) (oR 1 rfl (oZ rfl ?_)))
                    refine jD rfl (fun hc34 => ?_) (fun hc34 => ?_)
                    · skip
                      have hop : op = (⟨#[60]⟩ : ByteArray) := hc34
                      have hcb : cmpB op = true := by rw [hop]; decide
                      have hd := do_lt ha hb hop
                      refine za rfl (oR 2 rfl (oP rfl (zL rfl rfl rfl) (oR 1 rfl (zg rfl (zw (zc (jk [0, 6, 7, 8, 9] rfl (jS rfl (jT rfl (oR 1 rfl (oW rfl rfl acs Tryz.call53 (zW op) (os 101 rfl (congrArg (fun b => D.v (.bool b)) hcb) (oZ rfl (jCt rfl (jS rfl (jT rfl (oR 1 rfl (oZ rfl ?_))))))))))))))))))
                      refine jD rfl (fun hc35 => ?_) (fun hc35 => ?_)
                      · skip
                        refine jT rfl (oR 2 rfl (oZ rfl (zs rfl (ze (ze ?_)))))
                        exact zj Tryz.results52 (.cons (zB (zf rfl) (Cv.eq (congrArg (fun n => D.v (.int .i64 n)) (by rw [hd] <;> first | (rw [if_pos (by simp_all)]; done) | (rw [if_neg (by simp_all)]; done))))) (.cons (zB (zf rfl) (Cv.eq (congrArg (fun n => D.v (.int .i64 n)) (by rw [hd] <;> first | (rw [if_pos (by simp_all)]; done) | (rw [if_neg (by simp_all)]; done))))) .nil)) rfl HSub.none ⟨rfl, rfl⟩
                      · skip
                        refine zq rfl (zc (jT rfl (oR 2 rfl (oZ rfl (zs rfl (ze ?_))))))
                        exact zj Tryz.results52 (.cons (zB (zf rfl) (Cv.eq (congrArg (fun n => D.v (.int .i64 n)) (by rw [hd] <;> first | (rw [if_pos (by simp_all)]; done) | (rw [if_neg (by simp_all)]; done))))) (.cons (zB (zf rfl) (Cv.eq (congrArg (fun n => D.v (.int .i64 n)) (by rw [hd] <;> first | (rw [if_pos (by simp_all)]; done) | (rw [if_neg (by simp_all)]; done))))) .nil)) rfl HSub.none ⟨rfl, rfl⟩
                    · skip
                      refine jT rfl (oP rfl (z7 rfl rfl rfl) (oR 1 rfl (oZ rfl ?_)))
                      refine jD rfl (fun hc36 => ?_) (fun hc36 => ?_)
                      · skip
                        have hop : op = (⟨#[60, 61]⟩ : ByteArray) := hc36
                        have hcb : cmpB op = true := by rw [hop]; decide
                        have hd := do_le ha hb hop
                        refine za rfl (oR 2 rfl (oP rfl (zaK rfl rfl rfl) (oR 1 rfl (zg rfl (zw (zc (jk [0, 6, 7, 8, 9] rfl (jS rfl (jT rfl (oR 1 rfl (oW rfl rfl acs Tryz.call53 (zW op) (os 101 rfl (congrArg (fun b => D.v (.bool b)) hcb) (oZ rfl (jCt rfl (jS rfl (jT rfl (oR 1 rfl (oZ rfl ?_))))))))))))))))))
                        refine jD rfl (fun hc37 => ?_) (fun hc37 => ?_)
                        · skip
                          refine jT rfl (oR 2 rfl (oZ rfl (zs rfl (ze (ze ?_)))))
                          exact zj Tryz.results52 (.cons (zB (zf rfl) (Cv.eq (congrArg (fun n => D.v (.int .i64 n)) (by rw [hd] <;> first | (rw [if_pos (by simp_all)]; done) | (rw [if_neg (by simp_all)]; done))))) (.cons (zB (zf rfl) (Cv.eq (congrArg (fun n => D.v (.int .i64 n)) (by rw [hd] <;> first | (rw [if_pos (by simp_all)]; done) | (rw [if_neg (by simp_all)]; done))))) .nil)) rfl HSub.none ⟨rfl, rfl⟩
                        · skip
                          refine zq rfl (zc (jT rfl (oR 2 rfl (oZ rfl (zs rfl (ze ?_))))))
                          exact zj Tryz.results52 (.cons (zB (zf rfl) (Cv.eq (congrArg (fun n => D.v (.int .i64 n)) (by rw [hd] <;> first | (rw [if_pos (by simp_all)]; done) | (rw [if_neg (by simp_all)]; done))))) (.cons (zB (zf rfl) (Cv.eq (congrArg (fun n => D.v (.int .i64 n)) (by rw [hd] <;> first | (rw [if_pos (by simp_all)]; done) | (rw [if_neg (by simp_all)]; done))))) .nil)) rfl HSub.none ⟨rfl, rfl⟩
                      · skip
                        refine jT rfl (oP rfl (z7 rfl rfl rfl) (oR 1 rfl (oZ rfl (jk [0, 1, 2, 6, 7, 8, 9, 95] rfl ?_))))
                        refine jD rfl (fun hc38 => ?_) (fun hc38 => ?_)
                        · skip
                          have hop : op = (⟨#[62]⟩ : ByteArray) := hc38
                          have hcb : cmpB op = true := by rw [hop]; decide
                          have hd := do_gt ha hb hop
                          refine za rfl (oR 2 rfl (oP rfl (zaz rfl rfl rfl) (oR 1 rfl (zg rfl (zw (zc (jS rfl (jT rfl (oR 1 rfl (oW rfl rfl acs Tryz.call53 (zW op) (os 101 rfl (congrArg (fun b => D.v (.bool b)) hcb) (oZ rfl (jCt rfl (jS rfl (jT rfl (oR 1 rfl (oZ rfl (jk [6, 7, 8, 102] rfl ?_))))))))))))))))))
                          refine jD rfl (fun hc39 => ?_) (fun hc39 => ?_)
                          · skip
                            refine jT rfl (oR 2 rfl (oZ rfl (zs rfl (ze (ze ?_)))))
                            exact zj Tryz.results52 (.cons (zB (zf rfl) (Cv.eq (congrArg (fun n => D.v (.int .i64 n)) (by rw [hd] <;> first | (rw [if_pos (by simp_all)]; done) | (rw [if_neg (by simp_all)]; done))))) (.cons (zB (zf rfl) (Cv.eq (congrArg (fun n => D.v (.int .i64 n)) (by rw [hd] <;> first | (rw [if_pos (by simp_all)]; done) | (rw [if_neg (by simp_all)]; done))))) .nil)) rfl HSub.none ⟨rfl, rfl⟩
                          · skip
                            refine zq rfl (zc (jT rfl (oR 2 rfl (oZ rfl (zs rfl (ze ?_))))))
                            exact zj Tryz.results52 (.cons (zB (zf rfl) (Cv.eq (congrArg (fun n => D.v (.int .i64 n)) (by rw [hd] <;> first | (rw [if_pos (by simp_all)]; done) | (rw [if_neg (by simp_all)]; done))))) (.cons (zB (zf rfl) (Cv.eq (congrArg (fun n => D.v (.int .i64 n)) (by rw [hd] <;> first | (rw [if_pos (by simp_all)]; done) | (rw [if_neg (by simp_all)]; done))))) .nil)) rfl HSub.none ⟨rfl, rfl⟩
                        · skip
                          have hge : op = (⟨#[62, 61]⟩ : ByteArray) := op_last ho (by assumption) (by assumption) (by assumption) (by assumption) (by assumption) (by assumption) (by assumption) (by assumption) (by assumption) (by assumption)
                          have hop : op = (⟨#[62, 61]⟩ : ByteArray) := hge
                          have hcb : cmpB op = true := by rw [hop]; decide
                          have hd := do_ge ha hb hop
                          refine za rfl (oR 2 rfl (oP rfl (z8 rfl rfl rfl) (oR 1 rfl (zg rfl (zw (zc (jS rfl (jT rfl (oR 1 rfl (oW rfl rfl acs Tryz.call53 (zW op) (os 101 rfl (congrArg (fun b => D.v (.bool b)) hcb) (oZ rfl (jCt rfl (jS rfl (jT rfl (oR 1 rfl (oZ rfl (jk [6, 7, 8, 102] rfl ?_))))))))))))))))))
                          refine jD rfl (fun hc40 => ?_) (fun hc40 => ?_)
                          · skip
                            refine jT rfl (oR 2 rfl (oZ rfl (zs rfl (ze (ze ?_)))))
                            exact zj Tryz.results52 (.cons (zB (zf rfl) (Cv.eq (congrArg (fun n => D.v (.int .i64 n)) (by rw [hd] <;> first | (rw [if_pos (by simp_all)]; done) | (rw [if_neg (by simp_all)]; done))))) (.cons (zB (zf rfl) (Cv.eq (congrArg (fun n => D.v (.int .i64 n)) (by rw [hd] <;> first | (rw [if_pos (by simp_all)]; done) | (rw [if_neg (by simp_all)]; done))))) .nil)) rfl HSub.none ⟨rfl, rfl⟩
                          · skip
                            refine zq rfl (zc (jT rfl (oR 2 rfl (oZ rfl (zs rfl (ze ?_))))))
                            exact zj Tryz.results52 (.cons (zB (zf rfl) (Cv.eq (congrArg (fun n => D.v (.int .i64 n)) (by rw [hd] <;> first | (rw [if_pos (by simp_all)]; done) | (rw [if_neg (by simp_all)]; done))))) (.cons (zB (zf rfl) (Cv.eq (congrArg (fun n => D.v (.int .i64 n)) (by rw [hd] <;> first | (rw [if_pos (by simp_all)]; done) | (rw [if_neg (by simp_all)]; done))))) .nil)) rfl HSub.none ⟨rfl, rfl⟩
end Lp
