/-
  Sorting in little room, as plain data: what the steps leave.
-/
import Derived.Test.YtjhkajkickngmaaV3
set_option linter.unusedVariables false
namespace Lp
open Go

theorem endS_pos {o : Int} {s : SortD} {l : List RowD} (h : 0 < l.length) : endS o s l = ⟨s.runs ++ [⟨true, isort (cmpRow o) l⟩], s.nr + 1, s.nm, giveAll s.p l⟩ := by unfold endS; rw [if_pos h]
theorem endS_nil {o : Int} {s : SortD} {l : List RowD} (h : ¬ 0 < l.length) : endS o s l = s := by unfold endS; rw [if_neg h]
theorem takes_no {p : PurseD} {n : Int} (h : p.takes n = false) : p.take n = p := by unfold PurseD.take; rw [h]; rfl
theorem seg_snoc {α : Type} {l : List α} {a k : Nat} {x : α} (h : l[k]? = some x) (ha : a ≤ k) : seg l a (k + 1) = seg l a k ++ [x] := by
  have hk := (List.getElem?_eq_some_iff.1 h).1
  unfold seg
  rw [take_snoc h, List.drop_append_of_le_length (by rw [List.length_take]; omega)]
theorem seg_one {α : Type} {l : List α} {k : Nat} {x : α} (h : l[k]? = some x) : seg l k (k + 1) = [x] := by
  have hk := (List.getElem?_eq_some_iff.1 h).1
  rw [seg_snoc h (Nat.le_refl _)]
  have : seg l k k = [] := by unfold seg; rw [List.drop_eq_nil_iff, List.length_take]; omega
  rw [this]; rfl
theorem LightRs.seg {l : List RowD} (h : LightRs l) (a b : Nat) : LightRs (seg l a b) := fun r hr => h r (List.mem_of_mem_take (List.mem_of_mem_drop hr))
theorem getD_at {x : List RowD} {i : Nat} {r : RowD} (h : x[i]? = some r) : x.getD i default = r := by rw [List.getD_eq_getElem?_getD, h]; rfl

/-! ### a merge is there -/
theorem BestTo.ex (o : Int) (L : LLs) : ∀ i, ∃ b, BestTo o L i b
  | 0 => ⟨-1, BestTo.zero o L⟩
  | i + 1 => by
    obtain ⟨b, h⟩ := BestTo.ex o L i
    rcases hi : hd L i with _ | x
    · exact ⟨b, h.skip hi⟩
    · by_cases hb : b < 0
      · exact ⟨_, h.first hb hi⟩
      · obtain ⟨m, y, e, _, hy, _⟩ := h.nat hb
        subst e
        rcases hl : less o x y with _ | _
        · exact ⟨_, h.keep hi hy hl⟩
        · exact ⟨_, h.take hi hy hl⟩
theorem Run.ex (o : Int) : ∀ (n : Nat) (ll : LLs), total ll = n → ∃ rs hs, Run o ll rs hs := by
  intro n
  induction n using Nat.strongRecOn with
  | _ n ih =>
    intro ll hn
    obtain ⟨b, h⟩ := BestTo.ex o ll ll.length
    have far : ∀ k, ll.length ≤ k → hd ll k = none := fun k hk => hd_far hk
    rcases h with ⟨_, h⟩ | ⟨m, _, _, ⟨x, hx⟩, hw⟩
    · refine ⟨[], [], .done fun k => ?_⟩
      rcases Nat.lt_or_ge k ll.length with hk | hk
      · exact h k hk
      · exact far k hk
    · have ht := total_pop hx
      obtain ⟨rs, hs, hr⟩ := ih (total (pop ll m)) (by omega) _ rfl
      refine ⟨x :: rs, m :: hs, .step hx (fun j => ?_) hr⟩
      rcases Nat.lt_or_ge j ll.length with hj | hj
      · exact hw j hj
      · exact Wins.of_none (far j hj)
theorem runR_run (o : Int) (ll : LLs) : Run o ll (runR o ll).1 (runR o ll).2 := by
  obtain ⟨rs, hs, h⟩ := Run.ex o _ ll rfl
  rw [runR_eq h]; exact h
theorem total_done {ll : LLs} (h : ∀ k, hd ll k = none) : total ll = 0 := by
  rcases Nat.eq_zero_or_pos (total ll) with h0 | h0
  · exact h0
  · exfalso
    have : ∃ x ∈ ll, 0 < x.length := by
      unfold total at h0
      induction ll with
      | nil => simp at h0
      | cons y r ih =>
        by_cases hy : 0 < y.length
        · exact ⟨y, List.mem_cons_self, hy⟩
        · simp only [List.map_cons, List.sum_cons] at h0
          obtain ⟨x, hx, hl⟩ := ih (fun k => by have := h (k + 1); unfold hd at this ⊢; simpa using this) (by omega)
          exact ⟨x, List.mem_cons_of_mem _ hx, hl⟩
    obtain ⟨x, hx, hl⟩ := this
    obtain ⟨k, hk⟩ := List.mem_iff_getElem?.1 hx
    have := h k
    rw [hd_at hk] at this
    cases x with
    | nil => simp at hl
    | cons a b => cases this
theorem Run.len {o : Int} {ll : LLs} {rs : List RowD} {hs : List Nat} (h : Run o ll rs hs) : rs.length = total ll ∧ hs.length = total ll := by
  induction h with
  | done h => rw [total_done h]; exact ⟨rfl, rfl⟩
  | step hx _ _ ih => have := total_pop hx; simp only [List.length_cons]; omega
/-- where a merge stands: the next row is there -/
theorem run_at {o : Int} {ll : LLs} {c hs : List Nat} {j m : Nat} (h : ∃ rs, Run o (rest ll c) rs (hs.drop j)) (hm : hs[j]? = some m) : ∃ z q u, ll[m]? = some z ∧ c[m]? = some q ∧ z[q]? = some u ∧ ∃ rs, Run o (rest ll (c.set m (q + 1))) rs (hs.drop (j + 1)) := by
  obtain ⟨rs, hr⟩ := h
  rw [drop_cons hm] at hr
  cases hr with
  | step hx hw hr =>
    obtain ⟨z, q, hz, hq, hu⟩ := hd_rest_some hx
    rw [pop_rest hz hq] at hr
    exact ⟨z, q, _, hz, hq, hu, _, hr⟩
theorem step1_t {ll : LLs} {m q : Nat} {c : List Nat} {p : PurseD} {z : List RowD} {u v : RowD} (hz : ll[m]? = some z) (hq : c[m]? = some q) (hu : z[q]? = some u) (hv : z[q + 1]? = some v) : step1 ll m c p = (p.give (costR u)).take (costR v) := by
  have e1 : c.getD m 0 = q := by rw [List.getD_eq_getElem?_getD, hq]; rfl
  have e2 : ll.getD m [] = z := by rw [List.getD_eq_getElem?_getD, hz]; rfl
  have hl := (List.getElem?_eq_some_iff.1 hv).1
  unfold step1 rowAt
  rw [e1, e2, if_pos hl, getD_at hu, getD_at hv]
theorem step1_f {ll : LLs} {m q : Nat} {c : List Nat} {p : PurseD} {z : List RowD} {u : RowD} (hz : ll[m]? = some z) (hq : c[m]? = some q) (hu : z[q]? = some u) (hv : ¬ q + 1 < z.length) : step1 ll m c p = p.give (costR u) := by
  have e1 : c.getD m 0 = q := by rw [List.getD_eq_getElem?_getD, hq]; rfl
  have e2 : ll.getD m [] = z := by rw [List.getD_eq_getElem?_getD, hz]; rfl
  unfold step1 rowAt
  rw [e1, e2, if_neg hv, getD_at hu]
theorem cntP_next {ll : LLs} {hs c : List Nat} {j m q : Nat} {p : PurseD} (hm : hs[j]? = some m) (hq : c[m]? = some q) : cntP ll (hs.drop j) c p = cntP ll (hs.drop (j + 1)) (c.set m (q + 1)) (step1 ll m c p) := by
  have e1 : c.getD m 0 = q := by rw [List.getD_eq_getElem?_getD, hq]; rfl
  rw [drop_cons hm]
  show cntP ll _ (c.set m (c.getD m 0 + 1)) _ = _
  rw [e1]
theorem cntP_end {ll : LLs} {hs c : List Nat} {j : Nat} {p : PurseD} (h : hs.length ≤ j) : cntP ll (hs.drop j) c p = p := by rw [List.drop_eq_nil_iff.2 h]; rfl
theorem lls_snoc {rs : List RunD} {k : Nat} {x : RunD} (h : rs[k]? = some x) : lls (rs.take (k + 1)) = lls (rs.take k) ++ [x.l] := by rw [take_snoc h]; unfold lls; rw [List.map_append]; rfl
theorem lls_len (rs : List RunD) : (lls rs).length = rs.length := List.length_map _
theorem countS_ok {p : PurseD} (h : p.Ok) (o : Int) (ll : LLs) : (countS o ll p).Ok ∧ (countS o ll p).room = p.room ∧ p.high ≤ (countS o ll p).high := by
  have h1 := firsts_ok h ll
  have h2 := cntP_ok ll (runR o ll).2 (List.replicate ll.length 0) h1.1
  exact ⟨h2.1, h2.2.1.trans h1.2.1, Int.le_trans h1.2.2 h2.2.2⟩

theorem set_at {α : Type} {l : List α} {k : Nat} {x : α} (h : k < l.length) : (l.set k x)[k]? = some x := by rw [List.getElem?_set_self h]
theorem total_mem {ll : LLs} {x : List RowD} (h : x ∈ ll) : x.length ≤ total ll := by
  unfold total
  induction ll with
  | nil => cases h
  | cons y r ih =>
    simp only [List.map_cons, List.sum_cons]
    rcases List.mem_cons.1 h with e | e
    · rw [e]; omega
    · have := ih e; omega
/-! ### what holds throughout -/
structure SOk (s : SortD) (n : Nat) : Prop where
  p : s.p.Ok
  nr0 : 0 ≤ s.nr
  nr1 : s.nr ≤ 2000
  nm0 : 0 ≤ s.nm
  nm1 : s.nm + (s.runs.length : Int) ≤ 2001
  len : s.runs.length ≤ 2000
  li : ∀ r ∈ s.runs, LightRs r.l ∧ 0 < r.l.length
  tot : (flatR s.runs).length = n
theorem flatR_app (a b : List RunD) : flatR (a ++ b) = flatR a ++ flatR b := by unfold flatR; rw [List.map_append, List.flatten_append]
theorem flatR_one (r : RunD) : flatR [r] = r.l := by unfold flatR; simp
theorem flatR_snoc {rs : List RunD} {k : Nat} {x : RunD} (h : rs[k]? = some x) : flatR (rs.take (k + 1)) = flatR (rs.take k) ++ x.l := by rw [take_snoc h, flatR_app, flatR_one]
theorem flatR_take_le (rs : List RunD) (k : Nat) : (flatR (rs.take k)).length ≤ (flatR rs).length := by
  have e : flatR rs = flatR (rs.take k) ++ flatR (rs.drop k) := by rw [← flatR_app, List.take_append_drop]
  rw [e, List.length_append]; omega
theorem total_lls (rs : List RunD) : total (lls rs) = (flatR rs).length := by unfold total lls flatR; rw [List.length_flatten]
theorem SOk.end {o : Int} {s : SortD} {l : List RowD} (hp : s.p.Ok) : (endS o s l).p.Ok ∧ (endS o s l).p.room = s.p.room ∧ (endS o s l).p.high = s.p.high := by
  by_cases h : 0 < l.length
  · rw [endS_pos h]; exact giveAll_ok hp l
  · rw [endS_nil h]; exact ⟨hp, rfl, rfl⟩
theorem endS_num {o : Int} {s : SortD} {l : List RowD} : s.nr ≤ (endS o s l).nr ∧ (endS o s l).nr ≤ s.nr + 1 ∧ (endS o s l).runs.length ≤ s.runs.length + 1 ∧ (endS o s l).nm = s.nm := by
  by_cases h : 0 < l.length
  · rw [endS_pos h]; exact ⟨by show s.nr ≤ s.nr + 1; omega, Int.le_refl _, by show (s.runs ++ [_]).length ≤ _; simp, rfl⟩
  · rw [endS_nil h]; exact ⟨Int.le_refl _, by omega, by omega, rfl⟩
end Lp
