/-
  Sorting in little room, as plain data: the purse, runs, merging them.
-/
import Derived.Test.YtjhkajkickngmaaPTree
set_option linter.unusedVariables false
namespace Lp
open Go

/-! ### what rows cost -/
def costL : List Lbl → Int
  | [] => 0
  | x :: r => (8 + ((x.n.size : Nat) : Int) + ((x.v.size : Nat) : Int)) + costL r
def costR (r : RowD) : Int := 16 + costL r.ls
theorem costL_app : ∀ a b : List Lbl, costL (a ++ b) = costL a + costL b
  | [], b => by simp [costL]
  | x :: a, b => by show _ + costL (a ++ b) = _ + costL a + costL b; rw [costL_app a b]; omega
theorem costL_snoc {l : List Lbl} {k : Nat} {x : Lbl} (h : l[k]? = some x) : costL (l.take (k + 1)) = costL (l.take k) + (8 + ((x.n.size : Nat) : Int) + ((x.v.size : Nat) : Int)) := by
  rw [take_snoc h, costL_app]; simp [costL]
theorem costL_nonneg : ∀ l : List Lbl, 0 ≤ costL l
  | [] => by simp [costL]
  | x :: r => by have := costL_nonneg r; simp only [costL]; omega
theorem light_cost {l : List Lbl} (h : lightL l = true) : costL l ≤ 8160 := by
  have hl := lightL_len h
  unfold lightL at h
  rw [Bool.and_eq_true, List.take_of_length_le (by omega), List.all_eq_true] at h
  have key : ∀ m : List Lbl, (∀ x ∈ m, x.n.size ≤ 200 ∧ x.v.size ≤ 200) → costL m ≤ 408 * (m.length : Int) := by
    intro m
    induction m with
    | nil => intro _; simp [costL]
    | cons x r ih =>
      intro hm
      have h1 := hm x List.mem_cons_self
      have h2 := ih (fun y hy => hm y (List.mem_cons_of_mem _ hy))
      simp only [costL, List.length_cons]; omega
  have := key l (fun x hx => by simpa using h.1 x hx)
  omega
theorem costL_take_le (l : List Lbl) (k : Nat) : costL (l.take k) ≤ costL l := by
  conv => rhs; rw [← List.take_append_drop k l, costL_app]
  have := costL_nonneg (l.drop k); omega
theorem costR_bd {r : RowD} (h : lightL r.ls = true) : 16 ≤ costR r ∧ costR r ≤ 8176 := by
  have h1 := costL_nonneg r.ls
  have h2 := light_cost h
  unfold costR; omega
def maxC (l : List RowD) : Int := l.foldl (fun n r => max n (costR r)) 0
theorem maxC_snoc {l : List RowD} {k : Nat} {x : RowD} (h : l[k]? = some x) : maxC (l.take (k + 1)) = max (maxC (l.take k)) (costR x) := by
  rw [take_snoc h]; unfold maxC; rw [List.foldl_append]; rfl
def LightRs (l : List RowD) : Prop := ∀ r ∈ l, lightL r.ls = true
theorem maxC_bd {l : List RowD} (h : LightRs l) (k : Nat) : 0 ≤ maxC (l.take k) ∧ maxC (l.take k) ≤ 8176 := by
  have key : ∀ m : List RowD, (∀ r ∈ m, lightL r.ls = true) → ∀ n : Int, 0 ≤ n → n ≤ 8176 → 0 ≤ m.foldl (fun n r => max n (costR r)) n ∧ m.foldl (fun n r => max n (costR r)) n ≤ 8176 := by
    intro m
    induction m with
    | nil => intro _ n h1 h2; exact ⟨h1, h2⟩
    | cons x r ih =>
      intro hm n h1 h2
      have := costR_bd (hm x List.mem_cons_self)
      exact ih (fun y hy => hm y (List.mem_cons_of_mem _ hy)) (max n (costR x)) (by omega) (by omega)
  exact key _ (fun r hr => h r (List.mem_of_mem_take hr)) 0 (by omega) (by omega)
theorem maxC_ge {l : List RowD} {r : RowD} (h : r ∈ l) : costR r ≤ maxC l := by
  have mono : ∀ (m : List RowD) (n : Int), n ≤ m.foldl (fun n r => max n (costR r)) n := by
    intro m
    induction m with
    | nil => intro n; exact Int.le_refl _
    | cons x m ih => intro n; have := ih (max n (costR x)); simp only [List.foldl_cons]; omega
  have key : ∀ (m : List RowD) (n : Int), r ∈ m → costR r ≤ m.foldl (fun n r => max n (costR r)) n := by
    intro m
    induction m with
    | nil => intro _ h; cases h
    | cons x m ih =>
      intro n h
      simp only [List.foldl_cons]
      rcases List.mem_cons.1 h with e | e
      · have := mono m (max n (costR x)); rw [e]; omega
      · exact ih _ e
  exact key l 0 h
theorem maxC_at {l : List RowD} (h : maxC l ≠ 0) : ∃ r ∈ l, maxC l = costR r := by
  have key : ∀ (m : List RowD) (n : Int), m.foldl (fun n r => max n (costR r)) n = n ∨ ∃ r ∈ m, m.foldl (fun n r => max n (costR r)) n = costR r := by
    intro m
    induction m with
    | nil => intro n; exact .inl rfl
    | cons x m ih =>
      intro n
      simp only [List.foldl_cons]
      rcases ih (max n (costR x)) with e | ⟨r, hr, e⟩
      · rw [e]
        rcases Int.le_total n (costR x) with h | h
        · exact .inr ⟨x, List.mem_cons_self, by omega⟩
        · exact .inl (by omega)
      · exact .inr ⟨r, List.mem_cons_of_mem _ hr, e⟩
  rcases key l 0 with e | e
  · exact absurd e h
  · exact e
theorem mulbd {a b : Int} (h0 : 0 ≤ a) (h1 : a ≤ 20) (h2 : 0 ≤ b) (h3 : b ≤ 8176) : 0 ≤ a * b ∧ a * b ≤ 163520 := by
  refine ⟨Int.mul_nonneg h0 h2, ?_⟩
  have h4 : a * b ≤ 20 * b := Int.mul_le_mul_of_nonneg_right h1 h2
  omega
def sumC : List RowD → Int
  | [] => 0
  | r :: l => costR r + sumC l
theorem sumC_app : ∀ a b : List RowD, sumC (a ++ b) = sumC a + sumC b
  | [], b => by simp [sumC]
  | x :: a, b => by show _ + sumC (a ++ b) = _ + sumC a + sumC b; rw [sumC_app a b]; omega
theorem sumC_nonneg {l : List RowD} (h : LightRs l) : 0 ≤ sumC l := by
  induction l with
  | nil => simp [sumC]
  | cons x r ih =>
    have h1 := costR_bd (h x List.mem_cons_self)
    have h2 := ih (fun y hy => h y (List.mem_cons_of_mem _ hy))
    simp only [sumC]; omega

/-! ### the purse -/
structure PurseD where
  room : Int
  now : Int
  high : Int
def PurseD.takes (p : PurseD) (n : Int) : Bool := !(decide (n < 0) || decide (p.room - p.now < n))
def PurseD.take (p : PurseD) (n : Int) : PurseD := if p.takes n = true then ⟨p.room, p.now + n, max p.high (p.now + n)⟩ else p
def PurseD.give (p : PurseD) (n : Int) : PurseD := if n < 0 ∨ p.now < n then p else ⟨p.room, p.now - n, p.high⟩
structure PurseD.Ok (p : PurseD) : Prop where
  n0 : 0 ≤ p.now
  nh : p.now ≤ p.high
  hr : p.high ≤ p.room
  rm : p.room ≤ 1000000
theorem PurseD.Ok.take {p : PurseD} (h : p.Ok) (n : Int) : (p.take n).Ok ∧ (p.take n).room = p.room ∧ p.high ≤ (p.take n).high := by
  obtain ⟨h1, h2, h3, h4⟩ := h
  unfold PurseD.take
  split
  · rename_i hc
    have : ¬ n < 0 ∧ ¬ p.room - p.now < n := by simpa [PurseD.takes] using hc
    exact ⟨⟨by show 0 ≤ p.now + n; omega, by show p.now + n ≤ max p.high (p.now + n); omega, by show max p.high (p.now + n) ≤ p.room; omega, h4⟩, rfl, by show p.high ≤ max p.high (p.now + n); omega⟩
  · exact ⟨⟨h1, h2, h3, h4⟩, rfl, Int.le_refl _⟩
theorem PurseD.Ok.give {p : PurseD} (h : p.Ok) (n : Int) : (p.give n).Ok ∧ (p.give n).room = p.room ∧ (p.give n).high = p.high := by
  obtain ⟨h1, h2, h3, h4⟩ := h
  unfold PurseD.give
  split
  · exact ⟨⟨h1, h2, h3, h4⟩, rfl, rfl⟩
  · rename_i hc
    exact ⟨⟨by show 0 ≤ p.now - n; omega, by show p.now - n ≤ p.high; omega, h3, h4⟩, rfl, rfl⟩
theorem take_t {p : PurseD} {n : Int} (h1 : ¬ n < 0) (h2 : ¬ p.room - p.now < n) : p.takes n = true ∧ p.take n = ⟨p.room, p.now + n, max p.high (p.now + n)⟩ := by
  have : p.takes n = true := by unfold PurseD.takes; simp [h1, h2]
  exact ⟨this, by unfold PurseD.take; rw [if_pos this]⟩
theorem take_f {p : PurseD} {n : Int} (h : n < 0 ∨ p.room - p.now < n) : p.takes n = false ∧ p.take n = p := by
  have : p.takes n = false := by unfold PurseD.takes; rcases h with h | h <;> simp [h]
  exact ⟨this, by unfold PurseD.take; rw [this]; rfl⟩
theorem give_t {p : PurseD} {n : Int} (h1 : ¬ n < 0) (h2 : ¬ p.now < n) : p.give n = ⟨p.room, p.now - n, p.high⟩ := by unfold PurseD.give; rw [if_neg (by omega)]
theorem give_f {p : PurseD} {n : Int} (h : n < 0 ∨ p.now < n) : p.give n = p := by unfold PurseD.give; rw [if_pos h]
def PurseD.gives (p : PurseD) (n : Int) : Bool := !(decide (n < 0) || decide (p.now < n))
theorem gives_t {p : PurseD} {n : Int} (h1 : ¬ n < 0) (h2 : ¬ p.now < n) : p.gives n = true := by unfold PurseD.gives; simp [h1, h2]
theorem gives_f {p : PurseD} {n : Int} (h : n < 0 ∨ p.now < n) : p.gives n = false := by unfold PurseD.gives; rcases h with h | h <;> simp [h]
def giveAll (p : PurseD) (l : List RowD) : PurseD := l.foldl (fun p r => p.give (costR r)) p
theorem giveAll_snoc {p : PurseD} {l : List RowD} {k : Nat} {x : RowD} (h : l[k]? = some x) : giveAll p (l.take (k + 1)) = (giveAll p (l.take k)).give (costR x) := by
  rw [take_snoc h]; unfold giveAll; rw [List.foldl_append]; rfl
theorem giveAll_ok {p : PurseD} (h : p.Ok) : ∀ l : List RowD, (giveAll p l).Ok ∧ (giveAll p l).room = p.room ∧ (giveAll p l).high = p.high := by
  intro l
  induction l generalizing p with
  | nil => exact ⟨h, rfl, rfl⟩
  | cons x r ih =>
    have h1 := h.give (costR x)
    have h2 := ih h1.1
    exact ⟨h2.1, h2.2.1.trans h1.2.1, h2.2.2.trans h1.2.2⟩
theorem giveAll_now : ∀ {l : List RowD} {p : PurseD}, LightRs l → sumC l ≤ p.now → (giveAll p l).now = p.now - sumC l
  | [], p, _, _ => by show p.now = p.now - 0; omega
  | x :: r, p, h, hs => by
    have h1 := costR_bd (h x List.mem_cons_self)
    have hr : LightRs r := fun y hy => h y (List.mem_cons_of_mem _ hy)
    have h2 := sumC_nonneg hr
    simp only [sumC] at hs
    have e := give_t (p := p) (n := costR x) (by omega) (by omega)
    show (giveAll (p.give (costR x)) r).now = _
    rw [giveAll_now hr (by rw [e]; show sumC r ≤ p.now - costR x; omega), e]
    show p.now - costR x - sumC r = p.now - (costR x + sumC r)
    omega

/-! ### runs -/
structure RunD where
  m : Bool
  l : List RowD
def RunD.d (r : RunD) : D := .ifc (bif r.m then 167 else 166) (.agg [.sh 2 (r.l.map RowD.d)])
structure SortD where
  runs : List RunD
  nr : Int
  nm : Int
  p : PurseD
def flatR (rs : List RunD) : List RowD := (rs.map (·.l)).flatten
def endS (o : Int) (s : SortD) (l : List RowD) : SortD := if 0 < l.length then ⟨s.runs ++ [⟨true, isort (cmpRow o) l⟩], s.nr + 1, s.nm, giveAll s.p l⟩ else s
def mkGo (o : Int) : List RowD → List RowD → SortD → SortD
  | cur, [], s => endS o s cur
  | cur, r :: t, s => if s.p.takes (costR r) = true then mkGo o (cur ++ [r]) t ⟨s.runs, s.nr, s.nm, s.p.take (costR r)⟩
    else mkGo o [r] t ⟨(endS o s cur).runs, (endS o s cur).nr, (endS o s cur).nm, (endS o s cur).p.take (costR r)⟩
theorem mkGo_end {o : Int} {cur rest : List RowD} {s : SortD} (h : rest = []) : mkGo o cur rest s = endS o s cur := by rw [h]; rfl
theorem mkGo_t {o : Int} {cur t : List RowD} {r : RowD} {s : SortD} (h : s.p.takes (costR r) = true) : mkGo o cur (r :: t) s = mkGo o (cur ++ [r]) t ⟨s.runs, s.nr, s.nm, s.p.take (costR r)⟩ := by
  conv => lhs; unfold mkGo
  rw [if_pos h]
theorem mkGo_f {o : Int} {cur t : List RowD} {r : RowD} {s : SortD} (h : s.p.takes (costR r) = false) : mkGo o cur (r :: t) s = mkGo o [r] t ⟨(endS o s cur).runs, (endS o s cur).nr, (endS o s cur).nm, (endS o s cur).p.take (costR r)⟩ := by
  conv => lhs; unfold mkGo
  rw [if_neg (by rw [h]; simp)]

/-- a run that is merged: which rows, and of which list each is -/
noncomputable def runR (o : Int) (ll : LLs) : List RowD × List Nat := Classical.epsilon (fun p => Run o ll p.1 p.2)
theorem runR_eq {o : Int} {ll : LLs} {rs : List RowD} {hs : List Nat} (h : Run o ll rs hs) : runR o ll = (rs, hs) := by
  have h1 : Run o ll (runR o ll).1 (runR o ll).2 := Classical.epsilon_spec (p := fun p : List RowD × List Nat => Run o ll p.1 p.2) ⟨(rs, hs), h⟩
  obtain ⟨e1, e2⟩ := h1.det h
  exact Prod.ext e1 e2
def firsts (p : PurseD) (ll : LLs) : PurseD := ll.foldl (fun p x => p.take (costR (x.getD 0 default))) p
theorem firsts_snoc {p : PurseD} {ll : LLs} {k : Nat} {x : List RowD} (h : ll[k]? = some x) : firsts p (ll.take (k + 1)) = (firsts p (ll.take k)).take (costR (x.getD 0 default)) := by
  rw [take_snoc h]; unfold firsts; rw [List.foldl_append]; rfl
theorem firsts_ok {p : PurseD} (h : p.Ok) : ∀ ll : LLs, (firsts p ll).Ok ∧ (firsts p ll).room = p.room ∧ p.high ≤ (firsts p ll).high := by
  intro l
  induction l generalizing p with
  | nil => exact ⟨h, rfl, Int.le_refl _⟩
  | cons x r ih =>
    have h1 := h.take (costR (x.getD 0 default))
    have h2 := ih h1.1
    exact ⟨h2.1, h2.2.1.trans h1.2.1, Int.le_trans h1.2.2 h2.2.2⟩
def rowAt (ll : LLs) (k i : Nat) : RowD := (ll.getD k []).getD i default
/-- one row is done with, and the next one of its list is at hand -/
def step1 (ll : LLs) (k : Nat) (c : List Nat) (p : PurseD) : PurseD :=
  if c.getD k 0 + 1 < (ll.getD k []).length then (p.give (costR (rowAt ll k (c.getD k 0)))).take (costR (rowAt ll k (c.getD k 0 + 1))) else p.give (costR (rowAt ll k (c.getD k 0)))
def cntP (ll : LLs) : List Nat → List Nat → PurseD → PurseD
  | [], _, p => p
  | k :: hs, c, p => cntP ll hs (c.set k (c.getD k 0 + 1)) (step1 ll k c p)
theorem step1_ok {p : PurseD} (h : p.Ok) (ll : LLs) (k : Nat) (c : List Nat) : (step1 ll k c p).Ok ∧ (step1 ll k c p).room = p.room ∧ p.high ≤ (step1 ll k c p).high := by
  have h1 := h.give (costR (rowAt ll k (c.getD k 0)))
  unfold step1
  split
  · have h2 := h1.1.take (costR (rowAt ll k (c.getD k 0 + 1)))
    exact ⟨h2.1, h2.2.1.trans h1.2.1, by have := h2.2.2; omega⟩
  · exact ⟨h1.1, h1.2.1, by omega⟩
theorem cntP_ok (ll : LLs) : ∀ (hs c : List Nat) {p : PurseD}, p.Ok → (cntP ll hs c p).Ok ∧ (cntP ll hs c p).room = p.room ∧ p.high ≤ (cntP ll hs c p).high
  | [], _, p, h => ⟨h, rfl, Int.le_refl _⟩
  | k :: hs, c, p, h => by
    have h1 := step1_ok h ll k c
    have h2 := cntP_ok ll hs (c.set k (c.getD k 0 + 1)) h1.1
    exact ⟨h2.1, h2.2.1.trans h1.2.1, Int.le_trans h1.2.2 h2.2.2⟩
noncomputable def countS (o : Int) (ll : LLs) (p : PurseD) : PurseD := cntP ll (runR o ll).2 (List.replicate ll.length 0) (firsts p ll)
def lls (rs : List RunD) : LLs := rs.map (·.l)
noncomputable def mergeS (o : Int) (n : Nat) (s : SortD) : SortD := ⟨s.runs.drop n ++ [⟨false, (runR o (lls (s.runs.take n))).1⟩], s.nr, s.nm + 1, countS o (lls (s.runs.take n)) s.p⟩
noncomputable def mergeAll (o : Int) (fan : Nat) : Nat → SortD → SortD
  | 0, s => s
  | n + 1, s => if 1 < s.runs.length then mergeAll o fan n (mergeS o (min fan s.runs.length) s) else s
theorem mergeAll_next {o : Int} {fan n : Nat} {s : SortD} (h : 1 < s.runs.length) : mergeAll o fan (n + 1) s = mergeAll o fan n (mergeS o (min fan s.runs.length) s) := by
  conv => lhs; unfold mergeAll
  rw [if_pos h]
theorem mergeAll_end {o : Int} {fan n : Nat} {s : SortD} (h : ¬ 1 < s.runs.length) : mergeAll o fan n s = s := by
  cases n with
  | zero => rfl
  | succ n => unfold mergeAll; rw [if_neg h]
end Lp
