/-
  What is said of labels (chapter 2), as plain data.
-/
import Derived.Test.YtjhkajkickngmaaPText
set_option linter.unusedVariables false
namespace Lp
open Go

theorem cmpLs_self (a : List Lbl) : cmpLs a a = 0 := by have := cmpLs_neg a a; omega
theorem cmpLbl_eq {a b : Lbl} : cmpLbl a b = 0 ↔ a = b := by
  constructor
  · intro h
    unfold cmpLbl or2 at h
    split at h
    · contradiction
    · rename_i h1
      have h1 : cmpS a.n b.n = 0 := by omega
      have e1 := (cmpS_eq _ _).1 h1
      have e2 := (cmpS_eq _ _).1 h
      obtain ⟨_, _⟩ := a; obtain ⟨_, _⟩ := b; simp at e1 e2; simp [e1, e2]
  · rintro rfl; have := cmpLbl_neg a a; omega
theorem cmpLs_eq : ∀ {a b : List Lbl}, cmpLs a b = 0 ↔ a = b
  | [], [] => by simp [cmpLs]
  | [], _ :: _ => by simp [cmpLs]
  | _ :: _, [] => by simp [cmpLs]
  | a :: r, b :: s => by
    unfold cmpLs
    split
    · rename_i h
      constructor
      · intro h'; contradiction
      · intro h'; cases h'; exact absurd (cmpLbl_eq.2 rfl) h
    · rename_i h
      have h : cmpLbl a b = 0 := by omega
      rw [cmpLs_eq, cmpLbl_eq.1 h]; simp

/-! ### picking -/
theorem pick_same (l : List Lbl) (ns : List ByteArray) (w : Bool) : pickL (pickL l ns w) ns w = pickL l ns w := by unfold pickL; rw [List.filter_filter]; simp
theorem pick_other (l : List Lbl) (ns : List ByteArray) : pickL (pickL l ns true) ns false = [] ∧ pickL (pickL l ns false) ns true = [] := by
  unfold pickL
  constructor <;> · rw [List.filter_filter, List.filter_eq_nil_iff]; intro x _; cases hasN ns x.n <;> simp
theorem pick_sum (l : List Lbl) (ns : List ByteArray) : (pickL l ns true).length + (pickL l ns false).length = l.length := by
  induction l with
  | nil => rfl
  | cons x r ih =>
    unfold pickL at *
    simp only [List.filter_cons]
    cases hasN ns x.n <;> simp at ih ⊢ <;> omega
theorem pick_none (l : List Lbl) : pickL l [] true = [] ∧ pickL l [] false = l := by
  unfold pickL
  constructor
  · rw [List.filter_eq_nil_iff]; intro x _; simp [hasN]
  · rw [List.filter_eq_self]; intro x _; simp [hasN]

/-! ### order -/
theorem isort_len' (l : List Lbl) : (isort cmpLbl l).length = l.length := isort_len _ l rfl
theorem eqv_lbl (k x : Lbl) : eqv cmpLbl k x = decide (x = k) := by unfold eqv; rw [decide_eq_decide, cmpLbl_eq]; exact eq_comm
theorem isort_perm {l m : List Lbl} (h : l.Perm m) : isort cmpLbl l = isort cmpLbl m := by
  have h1 := isort_stab cmpLbl_cmp _ l rfl
  have h2 := isort_stab cmpLbl_cmp _ m rfl
  refine Srt.unique cmpLbl_cmp _ _ h1.srt h2.srt fun k => ?_
  rw [h1.same, h2.same]
  have hf : ∀ l : List Lbl, l.filter (eqv cmpLbl k) = List.replicate (l.filter (eqv cmpLbl k)).length k := fun l => by
    rw [List.eq_replicate_iff]
    refine ⟨rfl, fun b hb => ?_⟩
    have := (List.mem_filter.1 hb).2
    rw [eqv_lbl] at this
    exact of_decide_eq_true this
  rw [hf l, hf m, (h.filter _).length_eq]
theorem tidy_perm {l m : List Lbl} (h : l.Perm m) : tidyL l = tidyL m ∧ tidyE l = tidyE m := by
  have e := isort_perm h
  have hl := h.length_eq
  have : tidyOk l = tidyOk m := by unfold tidyOk; rw [e, hl]
  unfold tidyL tidyE; rw [this, e]; exact ⟨rfl, rfl⟩
theorem turn_perm (l : List Lbl) (k : Nat) : (l.drop k ++ l.take k).Perm l := (List.perm_append_comm).trans (by rw [List.take_append_drop])
/-- sorted: sorting does nothing -/
theorem isort_srt {l : List Lbl} (h : Srt cmpLbl l) : isort cmpLbl l = l := (isort_stab cmpLbl_cmp _ l rfl).eq cmpLbl_cmp ⟨h, fun _ => rfl⟩
theorem tidyL_len (l : List Lbl) : (tidyL l).length ≤ l.length := by
  unfold tidyL; cases tidyOk l
  · simp
  · simp [isort_len']
theorem tidyE_cases (l : List Lbl) : (tidyE l = 0 ∧ tidyOk l = true ∧ tidyL l = isort cmpLbl l) ∨ (tidyE l = 1 ∧ tidyL l = []) := by
  unfold tidyL tidyE; cases tidyOk l <;> simp
theorem tidy_srt (l : List Lbl) : Srt cmpLbl (tidyL l) := by
  rcases tidyE_cases l with ⟨_, _, h⟩ | ⟨_, h⟩ <;> rw [h]
  · exact (isort_stab cmpLbl_cmp _ l rfl).srt
  · exact List.Pairwise.nil
theorem tidy_ok_len {l : List Lbl} (h : tidyOk l = true) : l.length ≤ 8 := by unfold tidyOk at h; simp at h; exact h.1
theorem tidy_ok_b {l : List Lbl} (h : tidyOk l = true) : tidyB (isort cmpLbl l) = true := by unfold tidyOk at h; simp at h; exact h.2
/-- tidy labels are tidy -/
theorem tidy_tidy {l : List Lbl} (h : tidyE l = 0) : tidyL (tidyL l) = tidyL l ∧ tidyE (tidyL l) = 0 := by
  rcases tidyE_cases l with ⟨_, h2, h3⟩ | ⟨h2, _⟩
  · have hs := tidy_srt l
    have hi := isort_srt hs
    have : tidyOk (tidyL l) = true := by
      unfold tidyOk; rw [hi, h3, isort_len', tidy_ok_b h2]; simp [tidy_ok_len h2]
    unfold tidyL tidyE at *
    rw [this]; simp [hi]
  · omega

/-! ### the first call -/
def alIn : List Lbl := [⟨⟨#[98]⟩, ⟨#[120]⟩⟩, ⟨⟨#[97]⟩, ⟨#[121]⟩⟩]
def alOut : List Lbl := [⟨⟨#[97]⟩, ⟨#[121]⟩⟩, ⟨⟨#[98]⟩, ⟨#[120]⟩⟩]
theorem al_sort : isort cmpLbl alIn = alOut := by decide
theorem runes_one {s : ByteArray} {r : Nat} (h0 : 0 < s.size) (h1 : decR s 0 = r) (h2 : s.size ≤ decW s 0) : runes s = [(r : Int)] := by
  unfold runes; rw [runesAt_lt h0, runesAt_ge (by omega), h1]
theorem name_a : nameB ⟨#[97]⟩ = true := by unfold nameB; rw [runes_one (r := 97) (by decide) (by decide) (by decide)]; decide
theorem name_b : nameB ⟨#[98]⟩ = true := by unfold nameB; rw [runes_one (r := 98) (by decide) (by decide) (by decide)]; decide
theorem al_tidyB : tidyB alOut = true := by
  have h1 : okL ⟨⟨#[97]⟩, ⟨#[121]⟩⟩ = true := by unfold okL; rw [name_a]; decide
  have h2 : okL ⟨⟨#[98]⟩, ⟨#[120]⟩⟩ = true := by unfold okL; rw [name_b]; decide
  show tidyFrom none alOut = true
  unfold alOut tidyFrom tidyFrom tidyFrom
  rw [h1, h2]; decide
theorem al_ok : tidyOk alIn = true := by unfold tidyOk; rw [al_sort, al_tidyB]; decide
theorem al_tidy : tidyL alIn = alOut ∧ tidyE alIn = 0 := by unfold tidyL tidyE; rw [al_ok, al_sort]; exact ⟨rfl, rfl⟩
theorem quote_one {s : ByteArray} (h0 : 0 < s.size) (h2 : s.size ≤ decW s 0) : quoteL s = 34 :: (piece s 0 ++ [34]) := by
  unfold quoteL; rw [quoteAt_lt h0, quoteAt_ge (by omega), List.append_nil]
theorem al_text : textB alOut = ⟨#[123, 97, 61, 34, 121, 34, 44, 98, 61, 34, 120, 34, 125]⟩ := by
  unfold textB alOut partB quoteB
  simp only [List.map_cons, List.map_nil]
  rw [quote_one (s := ⟨#[121]⟩) (by decide) (by decide), quote_one (s := ⟨#[120]⟩) (by decide) (by decide)]
  decide
theorem al_right : tidyE alOut = 0 ∧ tidyL alOut = alOut := by
  have := tidy_tidy (l := alIn) al_tidy.2
  rw [al_tidy.1] at this; exact ⟨this.2, this.1⟩
theorem al_size : ∀ x ∈ tidyL alIn, x.n.size ≤ 100000 ∧ x.v.size ≤ 100000 := by rw [al_tidy.1]; decide
theorem al_len : (tidyL alIn).length = 2 := by rw [al_tidy.1]; rfl
theorem al_get : getL (tidyL alIn) ⟨#[98]⟩ = ⟨#[120]⟩ := by rw [al_tidy.1]; decide
theorem al_all : (((((decide (tidyE alIn = 0) && decide (((tidyL alIn).length : Int) = 2)) && decide (textB (tidyL alIn) = ⟨#[123, 97, 61, 34, 121, 34, 44, 98, 61, 34, 120, 34, 125]⟩)) && decide (getL (tidyL alIn) ⟨#[98]⟩ = ⟨#[120]⟩)) && (decide (tidyE (tidyL alIn) = 0) && decide (cmpLs (tidyL (tidyL alIn)) (tidyL alIn) = 0)))) = true := by
  rw [al_len, al_get, al_tidy.1, al_tidy.2, al_text, al_right.1, al_right.2, cmpLs_self]; decide
end Lp
