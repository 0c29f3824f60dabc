/-
  Of a merge, as plain data: how often each list is told; one list is itself; no rows.
-/
import Derived.Test.YtjhkajkickngmaaMTree
namespace Lp
open Go Go.RowKit

theorem Run.lt {o : Int} {ll : LLs} {rs : List RowD} {hs : List Nat} (h : Run o ll rs hs) : ∀ k ∈ hs, k < ll.length := by
  induction h with
  | done _ => simp
  | step hx _ _ ih =>
    intro k hk
    rcases List.mem_cons.1 hk with rfl | hk
    · exact hd_lt hx
    · have := ih k hk; rwa [pop_length] at this
theorem getD_pop {ll : LLs} {m : Nat} {x : RowD} (hx : hd ll m = some x) (j : Nat) : (ll.getD j []).length = ((pop ll m).getD j []).length + (if m = j then 1 else 0) := by
  obtain ⟨r, hr⟩ := hd_get hx
  have hlt := hd_lt hx
  by_cases e : m = j
  · subst e
    unfold pop
    simp only [List.getD_eq_getElem?_getD, List.getElem?_set_self hlt, hr, Option.getD_some, if_true]
    simp
  · unfold pop
    rw [if_neg e]
    simp only [List.getD_eq_getElem?_getD, List.getElem?_set_ne e]; rfl
theorem Run.count {o : Int} {ll : LLs} {rs : List RowD} {hs : List Nat} (h : Run o ll rs hs) : ∀ j, hs.count j = (ll.getD j []).length := by
  induction h with
  | @done ll h =>
    intro j
    have := h j
    unfold hd at this
    rw [List.getD_eq_getElem?_getD]
    cases e : ll[j]? with
    | none => rfl
    | some l =>
      rw [e] at this
      cases l with
      | nil => rfl
      | cons y t => cases this
  | @step ll m x rs hs hx _ _ ih =>
    intro j
    rw [List.count_cons, ih j, getD_pop hx j]
    congr 1
    by_cases e : m = j <;> simp [e]
theorem Run.total {o : Int} {ll : LLs} {rs : List RowD} {hs : List Nat} (h : Run o ll rs hs) : rs.length = hs.length := by
  induction h with
  | done _ => rfl
  | step _ _ _ ih => simp [ih]
theorem run_one (o : Int) : ∀ l : List RowD, Run o [[], l, []] l (List.replicate l.length 1)
  | [] => .done (fun k => by match k with | 0 => rfl | 1 => rfl | 2 => rfl | n + 3 => rfl)
  | x :: t => by
    refine Run.step (m := 1) (x := x) rfl (fun j => ?_) (run_one o t)
    match j with
    | 0 => exact Wins.of_none rfl
    | 1 => exact Wins.refl _ _ _
    | 2 => exact Wins.of_none rfl
    | n + 3 => exact Wins.of_none rfl
theorem Run.one {o : Int} {l rs : List RowD} {hs : List Nat} (h : Run o [[], l, []] rs hs) : rs = l := (h.det (run_one o l)).1
theorem Run.nil {o : Int} {rs : List RowD} {hs : List Nat} (h : Run o [] rs hs) : rs = [] := (h.det (.done (fun _ => rfl))).1
theorem less_irrefl (o : Int) (a : RowD) : less o a a = false := by
  rw [less_false]; have := cmpRow_neg o a a; omega
theorem sameR_refl (l : List RowD) : sameR l l = true := by unfold sameR; simp

def num (n : Int) : RowD := ⟨.slice none 0 0, [], n⟩
theorem less_num (a b : Int) : less 1 (num a) (num b) = decide (a < b) := by
  unfold less cmpRow or2 cmpI num
  simp only [if_true, cmpLs]
  by_cases h : a < b
  · simp [h]
  · by_cases h2 : b < a <;> simp [h, h2]
theorem alive_run : Run 1 [[num 1, num 4], [num 1, num 2]] [num 1, num 1, num 2, num 4] [0, 1, 1, 0] := by
  have two : ∀ {ll : LLs} {m j : Nat} {a b : Int}, hd ll m = some (num a) → hd ll j = some (num b) → (a ≤ b) → (j < m → a < b) → Wins 1 ll m j := by
    intro ll m j a b h1 h2 h3 h4 y hy
    rw [h2] at hy; injection hy with e; subst e
    exact ⟨_, h1, by rw [less_num]; simp; omega, fun h => by rw [less_num]; simpa using h4 h⟩
  refine .step (m := 0) (x := num 1) rfl (fun j => ?_) (.step (m := 1) (x := num 1) rfl (fun j => ?_) (.step (m := 1) (x := num 2) rfl (fun j => ?_) (.step (m := 0) (x := num 4) rfl (fun j => ?_) (.done (fun k => ?_)))))
  · match j with
    | 0 => exact Wins.refl _ _ _
    | 1 => exact two rfl rfl (by omega) (by omega)
    | n + 2 => exact Wins.of_none rfl
  · match j with
    | 0 => exact two rfl rfl (by omega) (by omega)
    | 1 => exact Wins.refl _ _ _
    | n + 2 => exact Wins.of_none rfl
  · match j with
    | 0 => exact two rfl rfl (by omega) (by omega)
    | 1 => exact Wins.refl _ _ _
    | n + 2 => exact Wins.of_none rfl
  · match j with
    | 0 => exact Wins.refl _ _ _
    | 1 => exact Wins.of_none rfl
    | n + 2 => exact Wins.of_none rfl
  · match k with
    | 0 => rfl
    | 1 => rfl
    | n + 2 => rfl

theorem rws3 {w : World} {lo hi : Nat} {x : LR} (h : RRow w lo hi x.sv x.rs) : Rws w lo hi [⟨.slice none 0 0, []⟩, x, ⟨.slice none 0 0, []⟩] := by
  intro y hy
  simp at hy
  rcases hy with rfl | rfl | rfl
  · exact RRow.nil h.top
  · exact h
  · exact RRow.nil h.top
theorem small3 {n : Nat} {x : LR} (h1 : x.rs.length ≤ n) (h2 : ∀ r ∈ x.rs, r.ls.length ≤ n) : Small n (lls [⟨.slice none 0 0, []⟩, x, ⟨.slice none 0 0, []⟩]) := by
  intro l hl
  simp [lls] at hl
  rcases hl with rfl | rfl | rfl
  · simp
  · exact ⟨h1, h2⟩
  · simp
theorem total3 (x : LR) : total (lls [⟨.slice none 0 0, []⟩, x, ⟨.slice none 0 0, []⟩]) = x.rs.length := by simp [total, lls]
theorem rrow_num {w : World} {lo hi : Nat} {v : Value} {rs : List RowD} (h : SlT RowD.cs 2 w lo hi v rs) (hr : ∀ r ∈ rs, r.lv = .slice none 0 0 ∧ r.ls = []) : RRow w 0 w.heap.size v rs :=
  ⟨h.wide (Nat.zero_le _) h.top (Nat.le_refl _), fun r hr' => by rw [(hr r hr').1, (hr r hr').2]; exact SlT.nil (Nat.le_refl _)⟩
/-- So often is each list told so far. -/
def Told (n : Nat) (hs : List Nat) (k : Nat) (c : List Nat) : Prop := c.length = n ∧ ∀ j, j < n → c[j]? = some ((hs.take k).count j)
theorem Told.zero (n : Nat) (hs : List Nat) : Told n hs 0 (List.replicate n 0) := ⟨List.length_replicate, fun j hj => by rw [List.getElem?_replicate, if_pos hj]; rfl⟩
theorem Told.next {n : Nat} {hs : List Nat} {k : Nat} {c : List Nat} {x y : Nat} (h : Told n hs k c) (hx : hs[k]? = some x) (hlt : x < n) (hy : c[x]? = some y) : Told n hs (k + 1) (c.set x (y + 1)) := by
  refine ⟨by rw [List.length_set]; exact h.1, fun j hj => ?_⟩
  rw [take_snoc hx, List.count_append]
  by_cases e : j = x
  · subst e
    have := h.2 j hj
    rw [hy] at this; injection this with e
    rw [List.getElem?_set_self (by rw [h.1]; exact hj), e]; simp
  · rw [List.getElem?_set_ne (Ne.symm e), h.2 j hj, List.count_eq_zero_of_not_mem (a := j) (l := [x]) (by simpa using e)]
    simp
theorem Told.end_ {ll : List LR} {o : Int} {rs : List RowD} {hs : List Nat} {k : Nat} {c : List Nat} (h : Told ll.length hs k c) (hr : Run o (lls ll) rs hs) (hk : hs.length ≤ k) {j : Nat} {y : LR} (hy : ll[j]? = some y) : c[j]? = some y.rs.length := by
  rw [h.2 j (get_lt hy), List.take_of_length_le hk, hr.count j, List.getD_eq_getElem?_getD, lls_get hy]; rfl
theorem count_le {n : Nat} {hs : List Nat} {k : Nat} {c : List Nat} (h : Told n hs k c) {x q : Nat} (hq : c[x]? = some q) (hx : x < n) : q ≤ hs.length := by
  rw [h.2 x hx] at hq; injection hq with e; subst e
  exact Nat.le_trans (List.count_le_length) (by rw [List.length_take]; exact Nat.min_le_right _ _)
theorem total_none {ll : LLs} (h : ∀ k, hd ll k = none) : total ll = 0 := by
  unfold total
  have : ∀ l ∈ ll, l = [] := by
    intro l hl
    obtain ⟨i, hi⟩ := List.getElem?_of_mem hl
    have := h i
    unfold hd at this
    rw [hi] at this
    cases l with
    | nil => rfl
    | cons y t => cases this
  clear h
  induction ll with
  | nil => rfl
  | cons l r ih => simp [this l List.mem_cons_self, ih (fun l hl => this l (List.mem_cons_of_mem _ hl))]
theorem Run.length {o : Int} {ll : LLs} {rs : List RowD} {hs : List Nat} (h : Run o ll rs hs) : hs.length = Lp.total ll := by
  induction h with
  | done h => rw [total_none h]; rfl
  | step hx _ _ ih => have := total_pop hx; simp [ih]; omega
theorem rrow_of {w : World} {E b lo hi : Nat} {v : Value} {rs : List RowD} (h : Own RowD.cs 2 E w b v rs) (hl : Labs w lo hi rs) : RRow w 0 w.heap.size v rs :=
  ⟨h.sl.wide (Nat.zero_le _) (Nat.le_refl _) (Nat.le_refl _), fun r hr => (hl r hr).wide (Nat.zero_le _) (hl r hr).top (Nat.le_refl _)⟩
theorem light_small {ll : List LR} (h : lightLL ll = true) : Small 1000000000 (lls ll) := by
  intro l hl
  simp only [lls, List.mem_map] at hl
  obtain ⟨x, hx, rfl⟩ := hl
  have h1 := lightLL_row h hx
  refine ⟨by have := lightR_len h1; omega, fun r hr => ?_⟩
  have := lightL_len (lightR_row h1 hr); omega
theorem light_total {ll : List LR} (h : lightLL ll = true) : total (lls ll) ≤ 200 := by
  have := lightLL_total h
  unfold totalR at this; unfold total lls
  rwa [List.map_map]
theorem labs_ins {w : World} {lo hi n m : Nat} {out : List RowD} {x : RowD} (h : Labs w lo hi out) (hx : RLab w lo hi x.lv x.ls) : Labs w lo hi (((out.take n).drop 0 ++ [x]) ++ (out.take m).drop n) := by
  intro r hr
  rcases List.mem_append.1 hr with hr | hr
  · rcases List.mem_append.1 hr with hr | hr
    · exact h r (List.mem_of_mem_take (List.mem_of_mem_drop hr))
    · simp at hr; subst hr; exact hx
  · exact h r (List.mem_of_mem_take (List.mem_of_mem_drop hr))
end Lp
