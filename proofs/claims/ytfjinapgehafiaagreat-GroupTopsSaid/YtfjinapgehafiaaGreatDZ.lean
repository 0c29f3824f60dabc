/-
  Slices with room behind them in which what stands is known.
-/
import Derived.Test.YtfjinapgehafiaaGreatDL
set_option linter.unusedVariables false
namespace Lp
open Go Go.RowKit
theorem rep_shr {w : World} {F : Nat → Prop} {z n : Nat} {xs : List D} {a : Value} (h : D.rep w F (.shr z n xs) a) : ∃ A c, a = .slice A n c ∧ n ≤ xs.length ∧ D.rep w F (.sh z xs) (.slice A xs.length c) ∧ xs.length ≤ c := by
  obtain ⟨A, c, e, h0, h1, h2, h3⟩ := h
  exact ⟨A, c, e, h0, ⟨A, c, rfl, h1, h2, h3⟩, h1⟩
theorem rep_take {w : World} {F : Nat → Prop} {z n : Nat} {xs : List D} {A : Option Addr} {c : Nat} (hF : ∀ b, F b → b < w.heap.size) (h0 : n ≤ xs.length) (h : D.rep w F (.sh z xs) (.slice A xs.length c)) : D.rep w F (.sh z (xs.take n)) (.slice A n c) := by
  have hl : (xs.take n).length = n := by rw [List.length_take]; omega
  obtain ⟨us, hr, hsl, hblk, hmx⟩ := D.rep_sl hF h
  have hul := hr.len
  cases xs with
  | nil =>
    have : n = 0 := by simpa using h0
    subst this
    exact ⟨A, c, rfl, Nat.zero_le _, Nat.zero_le _, fun e => absurd rfl e⟩
  | cons x r =>
    obtain ⟨b', o', c', hv', hF'⟩ := hblk (by simp)
    injection hv' with e1 _ e2
    subst e1; subst e2
    have h2 := hsl.cut 0 n (Nat.zero_le _) (by omega)
    rw [cut0 (.inr ⟨_, _, rfl⟩), List.drop_zero] at h2
    have := D.sl_rep (hr.take n) h2 (fun _ g hg => by cases hg; exact hF') (by rw [List.length_take]; omega)
    exact this
/-- an argument with room behind it, read as what it is -/
theorem ArgC.shr {L : List Hp} {z n : Nat} {xs : List D} : ArgC L (.shr z n xs) (.sh z (xs.take n)) := ⟨fun w F u hF hL hr => by
  obtain ⟨A, c, rfl, h0, h, _⟩ := rep_shr hr
  exact D.keep (Keep.wide _) _ _ (rep_take hF h0 h)⟩
section
variable {P : Program} {ty : TypeId} {K : Kd} {H : List Hp}
end
/-- lists that are read otherwise, each -/
theorem CvL.map {α : Type} {f g : α → D} (h : ∀ x, Cv (f x) (g x)) : ∀ l : List α, CvL (l.map f) (l.map g)
  | [] => .nil
  | x :: r => .cons (h x) (CvL.map h r)
end Lp
/-
  Lists that are kept: rows of the call's own, any number of them.
-/
set_option linter.unusedVariables false
namespace Lp
open Go Go.RowKit
variable {P : Program} {ty : TypeId} {K : Kd} {H : List Hp}

structure Kp (α : Type) where
  v : Value
  l : List α
abbrev Kp.d {α : Type} (p : Kp α) : D := .ov p.v
abbrev Kp.h {α : Type} (z : Nat) (T : TypeId) (f : α → D) (p : Kp α) : Hp := .sl p.v z T (p.l.map f)
theorem ArgC.shs {L : List Hp} {z : Nat} {xs xs' : List D} (h : ArgCs L xs xs') : ArgC L (.sh z xs) (.sh z xs') := ⟨fun w F u hF hL hr => by
  obtain ⟨us, h1, h2, h3, h4⟩ := D.rep_sl hF hr
  refine D.sl_rep (h.repE hF hL h1) h2 (fun hn g hg => ?_) (by have := h1.len; omega)
  have hx : xs ≠ [] := by rintro rfl; cases h; exact hn rfl
  obtain ⟨b, o, c, rfl, hb⟩ := h3 hx
  simp only [Value.ownBlock] at hg
  injection hg with hg
  rw [← hg]; exact .inl hb⟩
theorem perm_t1 {A B T : List Hp} : ((A ++ B) ++ T).Perm ((A ++ T) ++ B) := by
  rw [List.append_assoc, List.append_assoc]
  exact List.perm_append_comm.append_left A
end Lp
/-
  Merging lists of rows, as plain data: which list's head comes first; what a merge is; the tree of a tournament.
-/
set_option linter.unusedVariables false
namespace Lp
open Go

def hd (ll : LLs) (k : Nat) : Option RowD := (ll[k]?).bind List.head?
/-! ### less is an order -/
theorem or2_neg {a b : Int} : or2 (-a) (-b) = - or2 a b := by unfold or2; split <;> split <;> omega
theorem cmpI_neg (a b : Int) : cmpI b a = - cmpI a b := by unfold cmpI; split <;> split <;> (try split) <;> omega
theorem cmpLbl_neg (a b : Lbl) : zD b a = - zD a b := by unfold zD; rw [zc8 a.n, zc8 a.v, or2_neg]
theorem zcM : ∀ a b : List Lbl, zM b a = - zM a b
  | [], [] => rfl
  | [], _ :: _ => rfl
  | _ :: _, [] => rfl
  | a :: r, b :: s => by
    unfold zM
    rw [cmpLbl_neg a b, zcM r s]
    split <;> split <;> omega
theorem cmpRow_neg (o : Int) (a b : RowD) : zI o b a = - zI o a b := by
  unfold zI
  rw [zcM a.ls b.ls]
  split
  · rw [cmpI_neg a.v b.v, or2_neg]
  · split
    · rw [cmpI_neg b.v a.v, or2_neg]
    · rfl
/-- Three that are compared: a sign is handed on. -/
structure Tr (c : Int) (d : Int) (e : Int) : Prop where
  le : c ≤ 0 → d ≤ 0 → e ≤ 0
  lt1 : c < 0 → d ≤ 0 → e < 0
  lt2 : c ≤ 0 → d < 0 → e < 0
  e1 : c = 0 → e = d
  e2 : d = 0 → e = c
theorem cmpS_tr (a b c : ByteArray) : Tr (cmpS a b) (cmpS b c) (cmpS a c) := by
  have n1 := zc8 a b
  have n2 := zc8 b c
  have t := cmpS_trans a b c
  refine ⟨t, fun h1 h2 => ?_, fun h1 h2 => ?_, fun h => ?_, fun h => ?_⟩
  · have := t (by omega) h2
    rcases Int.lt_or_eq_of_le this with h | h
    · exact h
    · rw [zbS] at h; subst h; omega
  · have := t h1 (by omega)
    rcases Int.lt_or_eq_of_le this with h | h
    · exact h
    · rw [zbS] at h; subst h; omega
  · rw [zbS] at h; rw [h]
  · rw [zbS] at h; rw [h]
theorem cmpI_tr (a b c : Int) : Tr (cmpI a b) (cmpI b c) (cmpI a c) := by
  unfold cmpI
  refine ⟨?_, ?_, ?_, ?_, ?_⟩ <;> (repeat' split) <;> omega
theorem or2_tr {a b c d e f : Int} (h : Tr a b c) (h' : Tr d e f) : Tr (or2 a d) (or2 b e) (or2 c f) := by
  obtain ⟨h1, h2, h3, h4, h5⟩ := h
  obtain ⟨k1, k2, k3, k4, k5⟩ := h'
  unfold or2
  by_cases ha : a = 0
  · have hc := h4 ha
    subst hc
    rw [if_neg (by omega)]
    by_cases hb : c = 0
    · rw [if_neg (by omega), if_neg (by omega)]; exact ⟨k1, k2, k3, k4, k5⟩
    · rw [if_pos hb, if_pos hb]
      exact ⟨fun _ h => h, fun _ h => by omega, fun _ h => h, fun _ => rfl, fun h => by omega⟩
  · by_cases hb : b = 0
    · have hc := h5 hb
      subst hc
      rw [if_pos ha, if_neg (by omega), if_pos ha]
      exact ⟨fun h _ => h, fun h _ => h, fun h _ => by omega, fun h => by omega, fun _ => rfl⟩
    · rw [if_pos ha, if_pos hb]
      have : a ≤ 0 → b ≤ 0 → c < 0 := fun p q => h2 (by omega) q
      refine ⟨fun p q => ?_, fun p q => ?_, fun p q => ?_, fun h => by omega, fun h => by omega⟩
      · rw [if_pos (by have := this p q; omega)]; exact h1 p q
      · have := this (by omega) q; rw [if_pos (by omega)]; exact this
      · have := this p (by omega); rw [if_pos (by omega)]; exact this
theorem cmpLbl_tr (a b c : Lbl) : Tr (zD a b) (zD b c) (zD a c) := or2_tr (cmpS_tr _ _ _) (cmpS_tr _ _ _)
theorem Tr.zero : Tr 0 0 0 := ⟨fun h _ => h, fun h _ => h, fun _ h => h, fun _ => rfl, fun _ => rfl⟩
theorem zcL : ∀ a b c : List Lbl, Tr (zM a b) (zM b c) (zM a c)
  | [], [], [] => Tr.zero
  | [], [], _ :: _ => by constructor <;> (intros; simp_all [zM])
  | [], _ :: _, [] => by constructor <;> (intros; simp_all [zM])
  | _ :: _, [], [] => by constructor <;> (intros; simp_all [zM])
  | [], _ :: _, _ :: _ => by
    constructor <;> intros <;> simp_all [zM]
  | _ :: _, [], _ :: _ => by constructor <;> (intros; simp_all [zM])
  | _ :: _, _ :: _, [] => by constructor <;> (intros; simp_all [zM])
  | a :: r, b :: s, c :: t => by
    have h := cmpLbl_tr a b c
    have ih := zcL r s t
    have e : ∀ x y : Lbl, ∀ p q : List Lbl, zM (x :: p) (y :: q) = or2 (zD x y) (zM p q) := by
      intro x y p q
      conv => lhs; unfold zM
      rfl
    rw [e, e, e]
    exact or2_tr h ih
theorem cmpRow_tr (o : Int) (a b c : RowD) : Tr (zI o a b) (zI o b c) (zI o a c) := by
  unfold zI
  split
  · exact or2_tr (cmpI_tr _ _ _) (zcL _ _ _)
  · split
    · have := cmpI_tr c.v b.v a.v
      refine or2_tr ⟨fun h1 h2 => this.le h2 h1, fun h1 h2 => this.lt2 h2 h1, fun h1 h2 => this.lt1 h2 h1, this.e2, this.e1⟩ (zcL _ _ _)
    · exact zcL _ _ _

end Lp
/-
  Runes and names, as data.
-/
set_option linter.unusedVariables false
namespace Lp
open Go

def z7 (r : Int) : Int :=
  if r < 0 ∨ r = 65533 then 0 else if (97 ≤ r ∧ r ≤ 122) ∨ (65 ≤ r ∧ r ≤ 90) ∨ r = 95 ∨ 128 ≤ r then 1 else if 48 ≤ r ∧ r ≤ 57 then 2 else if r = 32 ∨ r = 9 ∨ r = 10 then 3 else 4
abbrev dR (n : Int) : D := .v (.int .i32 n)
def zct : Nat → List Int → Bool
  | n, [] => decide (1 ≤ n) && decide (n ≤ 30)
  | n, r :: rs => if z7 r ≠ 1 ∧ (z7 r ≠ 2 ∨ n = 0) then false else zct (n + 1) rs
def zbw (s : ByteArray) : Bool := zct 0 (zaS s)
theorem nameR_bad {n : Nat} {r : Int} {rs : List Int} (h : z7 r ≠ 1 ∧ (z7 r ≠ 2 ∨ n = 0)) : zct n (r :: rs) = false := by unfold zct; rw [if_pos h]
theorem nameR_next {n : Nat} {r : Int} {rs : List Int} (h : ¬ (z7 r ≠ 1 ∧ (z7 r ≠ 2 ∨ n = 0))) : zct n (r :: rs) = zct (n + 1) rs := by
  show (if z7 r ≠ 1 ∧ (z7 r ≠ 2 ∨ n = 0) then false else zct (n + 1) rs) = _
  rw [if_neg h]
/-- all are letters or digits -/
def zcw (rs : List Int) : Bool := rs.all fun r => decide (z7 r = 1 ∨ z7 r = 2)
theorem wordR_cons {r : Int} {rs : List Int} : zcw (r :: rs) = (decide (z7 r = 1 ∨ z7 r = 2) && zcw rs) := rfl
theorem nameR_word : ∀ (rs : List Int) (n : Nat), 1 ≤ n → zct n rs = (zcw rs && decide (n + rs.length ≤ 30))
  | [], n, h => by simp [zct, zcw, h]
  | r :: rs, n, h => by
    by_cases hr : z7 r = 1 ∨ z7 r = 2
    · rw [nameR_next (by omega), nameR_word rs (n + 1) (by omega), wordR_cons, decide_eq_true hr, Bool.true_and]
      congr 1; rw [decide_eq_decide, List.length_cons]; omega
    · rw [nameR_bad (by omega), wordR_cons, decide_eq_false hr]; rfl
theorem zbK (rs : List Int) : zct 0 rs = (decide (1 ≤ rs.length) && decide (rs.length ≤ 30) && decide (z7 (rs.getD 0 0) = 1) && zcw rs) := by
  cases rs with
  | nil => simp [zct]
  | cons r rs =>
    by_cases hr : z7 r = 1
    · rw [nameR_next (by omega), nameR_word rs 1 (by omega), wordR_cons, decide_eq_true (show z7 r = 1 ∨ z7 r = 2 from .inl hr), Bool.true_and, Bool.and_comm (zcw rs)]
      have e1 : decide (z7 ((r :: rs).getD 0 0) = 1) = true := decide_eq_true hr
      rw [e1, Bool.and_true]
      congr 1
      rw [Bool.eq_iff_iff]; simp [Nat.add_comm]
    · rw [nameR_bad (by omega)]
      have e1 : decide (z7 ((r :: rs).getD 0 0) = 1) = false := decide_eq_false hr
      rw [e1, Bool.and_false]; rfl
theorem wordR_take {rs : List Int} {k : Nat} {x : Int} (hx : rs[k]? = some x) (h : zcw (rs.take k) = true) (hk : z7 x = 1 ∨ z7 x = 2) : zcw (rs.take (k + 1)) = true := by
  unfold zcw at *; exact zbA hx h (by simpa using hk)
theorem wordR_bad {rs : List Int} {k : Nat} {x : Int} (hx : rs[k]? = some x) (hk : ¬ (z7 x = 1 ∨ z7 x = 2)) : zcw rs = false := by
  unfold zcw; rw [List.all_eq_false]; exact ⟨x, List.mem_of_getElem? hx, by simpa using hk⟩
end Lp
/-
  Stable sorting, as plain data, for any way of comparing: what comes out is one list alone; insertion sort as Go's library does it.
-/
set_option linter.unusedVariables false
namespace Lp
open Go
section
variable {α : Type} {c : α → α → Int}

structure Cmp (c : α → α → Int) : Prop where
  neg : ∀ a b, c b a = - c a b
  tr : ∀ a b d, Tr (c a b) (c b d) (c a d)
theorem Cmp.self (h : Cmp c) (a : α) : c a a = 0 := by have := h.neg a a; omega
def Srt (c : α → α → Int) (l : List α) : Prop := l.Pairwise (fun a b => c a b ≤ 0)
def eqv (c : α → α → Int) (k x : α) : Bool := decide (c k x = 0)
structure Stab (c : α → α → Int) (l r : List α) : Prop where
  srt : Srt c r
  same : ∀ k, r.filter (eqv c k) = l.filter (eqv c k)

theorem zco (h : Cmp c) (a : α) : eqv c a a = true := by unfold eqv; simp [h.self a]
theorem Srt.unique (h : Cmp c) : ∀ a b : List α, Srt c a → Srt c b → (∀ k, a.filter (eqv c k) = b.filter (eqv c k)) → a = b
  | [], [], _, _, _ => rfl
  | [], y :: b, _, _, hs => by
    have := hs y; rw [List.filter_cons_of_pos (zco h y)] at this; cases this
  | x :: a, [], _, _, hs => by
    have := hs x; rw [List.filter_cons_of_pos (zco h x)] at this; cases this
  | x :: a, y :: b, ha, hb, hs => by
    have hx : x ∈ y :: b := by
      have : x ∈ (y :: b).filter (eqv c x) := by rw [← hs x, List.filter_cons_of_pos (zco h x)]; exact List.mem_cons_self
      exact (List.mem_filter.1 this).1
    have hy : y ∈ x :: a := by
      have : y ∈ (x :: a).filter (eqv c y) := by rw [hs y, List.filter_cons_of_pos (zco h y)]; exact List.mem_cons_self
      exact (List.mem_filter.1 this).1
    have h1 : c y x ≤ 0 := by
      rcases List.mem_cons.1 hx with e | e
      · rw [e, h.self]; exact Int.le_refl _
      · exact (List.pairwise_cons.1 hb).1 x e
    have h2 : c x y ≤ 0 := by
      rcases List.mem_cons.1 hy with e | e
      · rw [e, h.self]; exact Int.le_refl _
      · exact (List.pairwise_cons.1 ha).1 y e
    have h3 : c x y = 0 := by have := h.neg x y; omega
    have e1 : eqv c x y = true := by unfold eqv; simp [h3]
    have := hs x
    rw [List.filter_cons_of_pos (zco h x), List.filter_cons_of_pos e1] at this
    injection this with hxy _
    subst hxy
    congr 1
    refine Srt.unique h a b (List.pairwise_cons.1 ha).2 (List.pairwise_cons.1 hb).2 (fun k => ?_)
    have := hs k
    simp only [List.filter_cons] at this
    split at this
    · injection this
    · exact this
theorem Stab.eq (h : Cmp c) {l a b : List α} (ha : Stab c l a) (hb : Stab c l b) : a = b := Srt.unique h a b ha.srt hb.srt (fun k => (ha.same k).trans (hb.same k).symm)
theorem Stab.trans {l a b : List α} (ha : Stab c l a) (hb : Stab c a b) : Stab c l b := ⟨hb.srt, fun k => (hb.same k).trans (ha.same k)⟩
theorem Stab.mem (h : Cmp c) {l a : List α} (ha : Stab c l a) (x : α) : x ∈ a ↔ x ∈ l := by
  have := ha.same x
  constructor
  · intro hx
    have : x ∈ l.filter (eqv c x) := by rw [← this]; exact List.mem_filter.2 ⟨hx, zco h x⟩
    exact (List.mem_filter.1 this).1
  · intro hx
    have : x ∈ a.filter (eqv c x) := by rw [this]; exact List.mem_filter.2 ⟨hx, zco h x⟩
    exact (List.mem_filter.1 this).1

/-! ### insertion -/
/-- into a list the other way round -/
def insB (c : α → α → Int) (x : α) : List α → List α
  | [] => [x]
  | y :: r => if c x y < 0 then y :: insB c x r else x :: y :: r
def ins (c : α → α → Int) (x : α) (l : List α) : List α := (insB c x l.reverse).reverse
theorem ins_nil (x : α) : ins c x [] = [x] := rfl
theorem ins_lt {x y : α} {l : List α} (h : c x y < 0) : ins c x (l ++ [y]) = ins c x l ++ [y] := by
  unfold ins; rw [List.reverse_append]; simp [insB, h]
theorem ins_ge {x y : α} {l : List α} (h : ¬ c x y < 0) : ins c x (l ++ [y]) = l ++ [y, x] := by
  unfold ins; rw [List.reverse_append]; simp [insB, h]
theorem insB_len (x : α) : ∀ l : List α, (insB c x l).length = l.length + 1
  | [] => rfl
  | y :: r => by unfold insB; split <;> simp [insB_len x r]
theorem ins_len (x : α) (l : List α) : (ins c x l).length = l.length + 1 := by unfold ins; simp [insB_len]
theorem ins_stab (h : Cmp c) (x : α) : ∀ (n : Nat) (l : List α), l.length = n → Srt c l → Srt c (ins c x l) ∧ (∀ k, (ins c x l).filter (eqv c k) = (l ++ [x]).filter (eqv c k)) ∧ ∀ z ∈ ins c x l, z = x ∨ z ∈ l := by
  intro n
  induction n with
  | zero =>
    intro l hl _
    have : l = [] := List.eq_nil_of_length_eq_zero hl
    subst this
    exact ⟨by simp [Srt, ins_nil], fun k => rfl, fun z hz => by simp [ins_nil] at hz; exact .inl hz⟩
  | succ n ih =>
    intro l hl hs
    obtain ⟨l, y, rfl⟩ : ∃ q y, l = q ++ [y] := by
      have hne : l ≠ [] := by intro e; rw [e] at hl; simp at hl
      exact ⟨l.dropLast, l.getLast hne, (List.dropLast_concat_getLast hne).symm⟩
    have hq := List.pairwise_append.1 hs
    by_cases hc : c x y < 0
    · obtain ⟨i1, i2, i3⟩ := ih l (by simpa using hl) hq.1
      rw [ins_lt hc]
      refine ⟨List.pairwise_append.2 ⟨i1, by simp, fun a ha b hb => ?_⟩, fun k => ?_, fun z hz => ?_⟩
      · simp at hb; subst hb
        rcases i3 a ha with rfl | ha'
        · omega
        · exact hq.2.2 a ha' b (by simp)
      · rw [List.filter_append, i2 k]
        simp only [List.filter_append, List.append_assoc]
        congr 1
        by_cases hx : eqv c k x = true
        · have hy : eqv c k y = false := by
            unfold eqv at hx ⊢
            simp only [decide_eq_true_eq, decide_eq_false_iff_not] at hx ⊢
            intro hy
            have e1 := (h.tr k x y).e1 hx
            have e2 : c k y = 0 := hy
            omega
          simp [hx, hy]
        · simp [hx]
      · rcases List.mem_append.1 hz with hz | hz
        · rcases i3 z hz with e | e
          · exact .inl e
          · exact .inr (List.mem_append_left _ e)
        · exact .inr (List.mem_append_right _ hz)
    · rw [ins_ge hc]
      refine ⟨?_, fun k => by simp, fun z hz => by simp at hz ⊢; rcases hz with h | h | h <;> simp [h]⟩
      have hyx : c y x ≤ 0 := by have := h.neg x y; omega
      rw [show l ++ [y, x] = (l ++ [y]) ++ [x] by simp]
      refine List.pairwise_append.2 ⟨hs, by simp, fun a ha b hb => ?_⟩
      simp at hb; subst hb
      rcases List.mem_append.1 ha with ha | ha
      · exact (h.tr a y b).le (hq.2.2 a ha y (by simp)) hyx
      · simp at ha; subst ha; exact hyx
/-- insertion sort -/
def zt (c : α → α → Int) (l : List α) : List α := l.foldl (fun r x => ins c x r) []
theorem isort_snoc (l : List α) (x : α) : zt c (l ++ [x]) = ins c x (zt c l) := by unfold zt; rw [List.foldl_append]; rfl
theorem zbL : ∀ (n : Nat) (l : List α), l.length = n → (zt c l).length = n
  | 0, l, h => by rw [List.eq_nil_of_length_eq_zero h]; rfl
  | n + 1, l, h => by
    have hne : l ≠ [] := by intro e; rw [e] at h; simp at h
    rw [← List.dropLast_concat_getLast hne, isort_snoc, ins_len, zbL n _ (by simp [h])]
theorem zaj (h : Cmp c) : ∀ (n : Nat) (l : List α), l.length = n → Stab c l (zt c l)
  | 0, l, hl => by rw [List.eq_nil_of_length_eq_zero hl]; exact ⟨by simp [Srt, zt], fun _ => rfl⟩
  | n + 1, l, hl => by
    have hne : l ≠ [] := by intro e; rw [e] at hl; simp at hl
    have ih := zaj h n l.dropLast (by simp [hl])
    have hi := ins_stab h (l.getLast hne) _ (zt c l.dropLast) rfl ih.srt
    conv => arg 2; rw [← List.dropLast_concat_getLast hne]
    conv => arg 3; rw [← List.dropLast_concat_getLast hne]
    rw [isort_snoc]
    refine ⟨hi.1, fun k => ?_⟩
    rw [hi.2.1 k, List.filter_append, List.filter_append, ih.same k]

/-! ### as the library does it -/
/-- The element at j goes down to its place, no further than a. -/
def bub (c : α → α → Int) (a : Nat) : Nat → List α → List α
  | 0, L => L
  | j + 1, L => if a < j + 1 then match L[j + 1]?, L[j]? with
    | some x, some y => if c x y < 0 then bub c a j ((L.set (j + 1) y).set j x) else L
    | _, _ => L
  else L
theorem bub_lt {a j : Nat} {L : List α} {x y : α} (h : a < j + 1) (hx : L[j + 1]? = some x) (hy : L[j]? = some y) (hc : c x y < 0) : bub c a (j + 1) L = bub c a j ((L.set (j + 1) y).set j x) := by
  conv => lhs; unfold bub
  rw [if_pos h, hx, hy]; simp only; rw [if_pos hc]
theorem bub_ge {a j : Nat} {L : List α} {x y : α} (hx : L[j + 1]? = some x) (hy : L[j]? = some y) (hc : ¬ c x y < 0) : bub c a (j + 1) L = L := by
  unfold bub; split
  · rw [hx, hy]; simp only; rw [if_neg hc]
  · rfl
theorem bub_lt' {a j : Nat} {L : List α} {x y : α} (h : a < j) (hx : L[j]? = some x) (hy : L[j - 1]? = some y) (hc : c x y < 0) : bub c a j L = bub c a (j - 1) ((L.set j y).set (j - 1) x) := by
  obtain ⟨m, rfl⟩ : ∃ m, j = m + 1 := ⟨j - 1, by omega⟩
  exact bub_lt h hx hy hc
theorem bub_ge' {a j : Nat} {L : List α} {x y : α} (hx : L[j]? = some x) (hy : L[j - 1]? = some y) (hc : ¬ c x y < 0) : bub c a j L = L := by
  cases j with
  | zero => rfl
  | succ j => exact bub_ge hx hy hc
theorem bub_end {a j : Nat} {L : List α} (h : j ≤ a) : bub c a j L = L := by
  cases j with
  | zero => rfl
  | succ j => unfold bub; rw [if_neg (by omega)]
theorem set_swap {A R : List α} {x y : α} : ((A ++ y :: x :: R).set (A.length + 1) y).set A.length x = A ++ x :: y :: R := by
  rw [List.set_append_right _ _ (by omega), List.set_append_right _ _ (by omega)]
  simp
theorem bub_ins {A R : List α} {x : α} : ∀ (n : Nat) (P : List α), P.length = n → bub c A.length (A.length + n) (A ++ P ++ x :: R) = A ++ ins c x P ++ R := by
  intro n
  induction n generalizing R with
  | zero => intro P hP; rw [List.eq_nil_of_length_eq_zero hP, bub_end (by omega), ins_nil]; simp
  | succ n ih =>
    intro P hP
    obtain ⟨P, y, rfl⟩ : ∃ q y, P = q ++ [y] := by
      have hne : P ≠ [] := by intro e; rw [e] at hP; simp at hP
      exact ⟨P.dropLast, P.getLast hne, (List.dropLast_concat_getLast hne).symm⟩
    have hPn : P.length = n := by simpa using hP
    have e : A ++ (P ++ [y]) ++ x :: R = (A ++ P) ++ y :: x :: R := by simp
    have hx : ((A ++ P) ++ y :: x :: R)[A.length + n + 1]? = some x := by rw [List.getElem?_append_right (by simp; omega)]; simp [hPn]
    have hy : ((A ++ P) ++ y :: x :: R)[A.length + n]? = some y := by rw [List.getElem?_append_right (by simp; omega)]; simp [hPn]
    rw [e, show A.length + (n + 1) = A.length + n + 1 by omega]
    by_cases hc : c x y < 0
    · rw [bub_lt (by omega) hx hy hc, ins_lt hc]
      have := set_swap (A := A ++ P) (R := R) (x := x) (y := y)
      rw [List.length_append, hPn] at this
      rw [this]
      have := ih (R := y :: R) P hPn
      rw [List.append_assoc A P] at this ⊢
      rw [this]; simp
    · rw [bub_ge hx hy hc, ins_ge hc]; simp
/-- insertion sort from i on -/
def isrt (c : α → α → Int) (a b : Nat) : Nat → Nat → List α → List α
  | 0, _, L => L
  | n + 1, i, L => if i < b then isrt c a b n (i + 1) (bub c a i L) else L
theorem za8 {a b n i : Nat} {L : List α} (h : i < b) : isrt c a b (n + 1) i L = isrt c a b n (i + 1) (bub c a i L) := by
  conv => lhs; unfold isrt
  rw [if_pos h]
theorem zaY {a b n i : Nat} {L : List α} (h : b ≤ i) : isrt c a b n i L = L := by
  cases n with
  | zero => rfl
  | succ n => unfold isrt; rw [if_neg (by omega)]
theorem isrt_isort {A R : List α} : ∀ (n : Nat) (S T : List α), T.length = n → isrt c A.length (A.length + S.length + n) n (A.length + S.length) (A ++ zt c S ++ T ++ R) = A ++ zt c (S ++ T) ++ R := by
  intro n
  induction n with
  | zero => intro S T hT; rw [List.eq_nil_of_length_eq_zero hT]; simp [isrt]
  | succ n ih =>
    intro S T hT
    cases T with
    | nil => simp at hT
    | cons x T =>
      have hTn : T.length = n := by simpa using hT
      rw [za8 (by omega)]
      have hb := bub_ins (c := c) (A := A) (R := T ++ R) (x := x) S.length (zt c S) (zbL _ _ rfl)
      rw [show A ++ zt c S ++ (x :: T) ++ R = A ++ zt c S ++ x :: (T ++ R) by simp, hb]
      have := ih (S ++ [x]) T hTn
      rw [isort_snoc, List.length_append, List.length_singleton] at this
      rw [show A.length + S.length + (n + 1) = A.length + (S.length + 1) + n by omega, show A.length + S.length + 1 = A.length + (S.length + 1) by omega]
      rw [show A ++ ins c x (zt c S) ++ (T ++ R) = A ++ ins c x (zt c S) ++ T ++ R by simp, this]
      simp
theorem isrt_all (l : List α) : isrt c 0 l.length l.length 1 l = zt c l := by
  cases l with
  | nil => rfl
  | cons x r =>
    have := isrt_isort (c := c) (A := []) (R := []) r.length [x] r rfl
    simp only [List.length_nil, Nat.zero_add, List.length_singleton, List.nil_append, List.append_nil] at this
    have e : zt c [x] = [x] := rfl
    rw [e] at this
    have h2 : isrt c 0 (x :: r).length (x :: r).length 1 (x :: r) = isrt c 0 (1 + r.length) r.length 1 ([x] ++ r) := by
      rw [List.length_cons, Nat.add_comm]
      cases hr : r.length with
      | zero => rw [zaY (by omega), zaY (by omega)]; rfl
      | succ n =>
        -- one round more is none
        have more : ∀ (k i : Nat) (L : List α), 1 + (n + 1) ≤ i + k → isrt c 0 (1 + (n + 1)) (k + 1) i L = isrt c 0 (1 + (n + 1)) k i L := by
          intro k
          induction k with
          | zero => intro i L hk; rw [zaY (by omega), zaY (by omega)]
          | succ k ih =>
            intro i L hk
            by_cases hi : i < 1 + (n + 1)
            · rw [za8 hi, za8 hi, ih (i + 1) _ (by omega)]
            · rw [zaY (by omega), zaY (by omega)]
        have := more (n + 1) 1 (x :: r) (by omega)
        have e1 : 1 + (n + 1) = n + 1 + 1 := by omega
        rw [e1] at this ⊢
        exact this
    rw [h2, this]
    rfl
theorem zbX : Cmp zD := ⟨fun a b => cmpLbl_neg a b, fun a b d => cmpLbl_tr a b d⟩
end
end Lp
/-
  Tidy labels, as plain data.
-/
set_option linter.unusedVariables false
namespace Lp
open Go

def okL (x : Lbl) : Bool := zbw x.n && (!decide (x.v = ByteArray.empty) && decide (x.v.size ≤ 60))
def zb3 : Option ByteArray → List Lbl → Bool
  | _, [] => true
  | p, x :: r => okL x && (!decide (p = some x.n) && zb3 (some x.n) r)
def zdh (o : List Lbl) : Nat → Option ByteArray
  | 0 => none
  | k + 1 => (o[k]?).map (·.n)
def zbD (o : List Lbl) (k : Nat) : Bool := zb3 (zdh o k) (o.drop k)
def zcW (o : List Lbl) : Bool := zbD o 0
def z1 (l : List Lbl) : Bool := decide (l.length ≤ 8) && zcW (zt zD l)
def zJ (l : List Lbl) : List Lbl := bif z1 l then zt zD l else []
def zaH (l : List Lbl) : Int := bif z1 l then 0 else 1

theorem zc2 {x : Lbl} (h : zbw x.n = false) : okL x = false := by simp [okL, h]
theorem zc1 {x : Lbl} (h : x.v = ByteArray.empty) : okL x = false := by simp [okL, h]
theorem zc0 {x : Lbl} (h : (60 : Int) < ((x.v.size : Nat) : Int)) : okL x = false := by
  have : ¬ x.v.size ≤ 60 := by omega
  simp [okL, this]
theorem okL_t {x : Lbl} (h1 : zbw x.n = true) (h2 : ¬ x.v = ByteArray.empty) (h3 : ¬ (60 : Int) < ((x.v.size : Nat) : Int)) : okL x = true := by
  have : x.v.size ≤ 60 := by omega
  simp [okL, h1, h2, this]
theorem zcD {o : List Lbl} {k : Nat} {y : Lbl} (h : (0 : Int) < ((k : Nat) : Int)) (hy : o[k - 1]? = some y) : zdh o k = some y.n := by
  cases k with
  | zero => simp at h
  | succ k => simp at hy; simp [zdh, hy]
theorem prevN_zero {o : List Lbl} {k : Nat} (h : ¬ (0 : Int) < ((k : Nat) : Int)) : zdh o k = none := by
  have : k = 0 := by omega
  subst this; rfl
theorem drop_at {α : Type} {o : List α} {k : Nat} {x : α} (h : o[k]? = some x) : o.drop k = x :: o.drop (k + 1) := by
  obtain ⟨hk, e⟩ := List.getElem?_eq_some_iff.1 h
  rw [← e]; exact List.drop_eq_getElem_cons hk
theorem tidyAt_next {o : List Lbl} {k : Nat} {x : Lbl} (h : o[k]? = some x) : zbD o k = (okL x && (!decide (zdh o k = some x.n) && zbD o (k + 1))) := by
  unfold zbD
  rw [drop_at h]
  simp only [zb3, zdh, h, Option.map_some]
theorem tidyAt_end {o : List Lbl} {k : Nat} (h : o.length ≤ k) : zbD o k = true := by
  unfold zbD; rw [List.drop_eq_nil_iff.2 h]; rfl
section
variable {l : List Lbl} {k : Nat} {x : Lbl}
theorem tidy_ok (h : z1 l = false) : [] = zJ l ∧ 1 = zaH l := by simp [zJ, zaH, h]
theorem tidy_long (h : (8 : Int) < ((l.length : Nat) : Int)) : [] = zJ l ∧ 1 = zaH l := tidy_ok (by
  have : ¬ l.length ≤ 8 := by omega
  simp [z1, this])
theorem zaU (hk : zcW (zt zD l) = zbD (zt zD l) k) (hx : (zt zD l)[k]? = some x) (h : okL x = false) : [] = zJ l ∧ 1 = zaH l := tidy_ok (by simp [z1, hk, tidyAt_next hx, h])
theorem tidy_bad2 (hk : zcW (zt zD l) = zbD (zt zD l) k) (hx : (zt zD l)[k]? = some x) {n : ByteArray} (h : zdh (zt zD l) k = some n) (hn : n = x.n) : [] = zJ l ∧ 1 = zaH l := tidy_ok (by simp [z1, hk, tidyAt_next hx, h, hn])
theorem tidy_good (hk : zcW (zt zD l) = zbD (zt zD l) k) (hx : (zt zD l).length ≤ k) (h : l.length ≤ 8) : zt zD l = zJ l ∧ 0 = zaH l := by
  have : z1 l = true := by simp [z1, hk, tidyAt_end hx, h]
  simp [zJ, zaH, this]
theorem tidy_step0 (hk : zcW (zt zD l) = zbD (zt zD l) k) (hx : (zt zD l)[k]? = some x) (h : okL x = true) (hp : zdh (zt zD l) k = none) : zcW (zt zD l) = zbD (zt zD l) (k + 1) := by
  rw [hk, tidyAt_next hx, h, hp]; simp
theorem tidy_step (hk : zcW (zt zD l) = zbD (zt zD l) k) (hx : (zt zD l)[k]? = some x) (h : okL x = true) {n : ByteArray} (hp : zdh (zt zD l) k = some n) (hn : ¬ n = x.n) : zcW (zt zD l) = zbD (zt zD l) (k + 1) := by
  rw [hk, tidyAt_next hx, h, hp]; simp [hn]
end

/-! ### picking -/
def hasN (ns : List ByteArray) (n : ByteArray) : Bool := ns.any (fun m => decide (m = n))
def zbb (l : List Lbl) (ns : List ByteArray) (w : Bool) : List Lbl := l.filter (fun x => hasN ns x.n == w)
def idxN (n : ByteArray) : Nat → List ByteArray → Int
  | _, [] => -1
  | k, m :: r => if n = m then (k : Int) else idxN n (k + 1) r
theorem idxN_has (n : ByteArray) : ∀ (ns : List ByteArray) (k : Nat), decide (0 ≤ idxN n k ns) = hasN ns n
  | [], k => rfl
  | m :: r, k => by
    unfold idxN hasN
    by_cases h : n = m
    · have h0 : (0 : Int) ≤ (k : Nat) := by omega
      simp [h, h0]
    · have h' : ¬ m = n := fun e => h e.symm
      have := idxN_has n r (k + 1)
      unfold hasN at this
      rw [if_neg h, this]; simp [h']
theorem idxN_at {n m : ByteArray} {ns : List ByteArray} {k : Nat} (hm : ns[k]? = some m) (h : idxN n 0 ns = idxN n k (ns.drop k)) (e : n = m) : ((k : Nat) : Int) = idxN n 0 ns := by
  rw [h, drop_at hm]; unfold idxN; rw [if_pos e]
theorem idxN_next {n m : ByteArray} {ns : List ByteArray} {k : Nat} (hm : ns[k]? = some m) (h : idxN n 0 ns = idxN n k (ns.drop k)) (e : ¬ n = m) : idxN n 0 ns = idxN n (k + 1) (ns.drop (k + 1)) := by
  rw [h, drop_at hm]; conv => lhs; unfold idxN
  rw [if_neg e]
theorem idxN_end {n : ByteArray} {ns : List ByteArray} {k : Nat} (hk : ns.length ≤ k) (h : idxN n 0 ns = idxN n k (ns.drop k)) : -1 = idxN n 0 ns := by
  rw [h, List.drop_eq_nil_iff.2 hk]; rfl
theorem pickL_snoc {l : List Lbl} {ns : List ByteArray} {w : Bool} {k : Nat} {x : Lbl} (hx : l[k]? = some x) (h : (hasN ns x.n == w) = true) : zbb (l.take (k + 1)) ns w = zbb (l.take k) ns w ++ [x] := by
  rw [zab hx]; unfold zbb; rw [List.filter_append]; simp [h]
theorem pickL_skip {l : List Lbl} {ns : List ByteArray} {w : Bool} {k : Nat} {x : Lbl} (hx : l[k]? = some x) (h : (hasN ns x.n == w) = false) : zbb (l.take (k + 1)) ns w = zbb (l.take k) ns w := by
  rw [zab hx]; unfold zbb; rw [List.filter_append]; simp [h]
theorem zbG (l : List Lbl) (ns : List ByteArray) (w : Bool) : (zbb l ns w).length ≤ l.length := List.length_filter_le _ _
end Lp
/-
  Numbers with a limit, and what is reckoned with them (chapters 4 and 10), as plain data.
-/
set_option linter.unusedVariables false
namespace Lp
open Go
def zaD (v : Int) : Bool := decide (-1000000000000 ≤ v) && decide (v ≤ 1000000000000)
def zcP (v : Int) : Int × Int := if zaD v = true then (v, 0) else (0, 4)
end Lp
/-
  The rules for code once more: one computation stands for all that a step asks.
-/
set_option linter.unusedVariables false
namespace Lp
open Go Go.RowKit Go.Proofs
/-- a list, copied until it stands there entry by entry -/
def cpF {α : Type} : List α → Option (List α)
  | [] => some []
  | x :: r => match cpF r with
    | some l => some (x :: l)
    | none => none
theorem zdI {α : Type} : ∀ {l l' : List α}, cpF l = some l' → l = l'
  | [], _, h => by injection h
  | x :: r, l', h => by
    unfold cpF at h
    split at h
    · rename_i l hl; injection h with h; rw [← h, zdI hl]
    · cases h
def kpF : List Nat → Kd → Option Kd
  | [], _ => some []
  | t :: r, K => match zai K t with
    | some d => match kpF r K with
      | some l => some ((t, d) :: l)
      | none => none
    | none => none
theorem kpF_sub : ∀ {ts : List Nat} {K K' : Kd}, kpF ts K = some K' → SubK K' K
  | [], _, _, h => by injection h with h; subst h; trivial
  | t :: r, K, K', h => by
    unfold kpF at h
    split at h
    · rename_i d hd
      split at h
      · rename_i l hl; injection h with h; subst h; exact ⟨⟨d, hd, Cv.rfl'⟩, kpF_sub hl⟩
      · cases h
    · cases h
theorem sa : ∀ {K' K : Kd}, K'.map (fun p => zai K p.1) = K'.map (fun p => some p.2) → SubK K' K
  | [], _, _ => trivial
  | (t, d) :: r, K, h => by
    simp only [List.map_cons, List.cons.injEq] at h
    exact ⟨⟨d, h.1, Cv.rfl'⟩, sa h.2⟩
def snF : List Bool → Bool → Option (List Bool)
  | [], b => some [b]
  | x :: r, b => match snF r b with
    | some l => some (x :: l)
    | none => none
theorem zdi : ∀ {p q : List Bool} {b : Bool}, snF p b = some q → p ++ [b] = q
  | [], _, _, h => by injection h
  | x :: r, q, b, h => by
    unfold snF at h
    split at h
    · rename_i l hl; injection h with h; rw [← h, List.cons_append, zdi hl]
    · cases h
/-- what an operation without side conditions gives -/
def zdR (K : Kd) : Op → Option D
  | .move x => opD K x
  | .assign x => opD K x
  | .extract x n => match opD K x with
    | some (.tup ds) => nth ds n
    | _ => none
  | .pick c x y => match opD K c with
    | some (.v (.bool true)) => opD K x
    | some (.v (.bool false)) => opD K y
    | _ => none
  | .unOp .not _ x => match opD K x with
    | some (.v (.bool true)) => some (.v (.bool false))
    | some (.v (.bool false)) => some (.v (.bool true))
    | _ => none
  | .nilCheck x => match opD K x with
    | some (.v (.pointer (some a))) => some (.v (.pointer (some a)))
    | some (.el X o) => some (.el X o)
    | _ => none
  | _ => none
theorem pureD_ok {P : Program} {ty : TypeId} {K : Kd} {H : List Hp} {op : Op} {d : D} (h : zdR K op = some d) : Pu P op ty K H d := by
  unfold zdR at h
  split at h
  · exact zc h
  · exact p_assign h
  · split at h
    · rename_i hx; exact zcF hx h
    · cases h
  · split at h
    · rename_i hc; exact p_pick_t hc h
    · rename_i hc; exact zb5 hc h
    · cases h
  · split at h
    · rename_i hx; injection h with h; subst h; exact zbc (q := true) hx
    · rename_i hx; injection h with h; subst h; exact zbc (q := false) hx
    · cases h
  · split at h
    · rename_i hx; injection h with h; subst h; exact p_nilCheck hx
    · rename_i hx; injection h with h; subst h; exact p_nilCheck_el hx
    · cases h
  · cases h
/-- a cell and its datum -/
def oneC (N : Nat) (t : Tmp) : Option D → Option (Tmp × D)
  | some d => bif Nat.blt t N then some (t, d) else none
  | none => none
theorem oneC_ok {N : Nat} {t u : Tmp} {x : Option D} {d : D} (h : oneC N t x = some (u, d)) : t = u ∧ x = some d ∧ Nat.blt t N = true := by
  unfold oneC at h
  cases x with
  | none => cases h
  | some e =>
    cases hb : Nat.blt t N
    · simp [hb] at h
    · simp [hb] at h; exact ⟨h.1, by rw [h.2], rfl⟩
/-- an operation under a guard: what was computed there -/
def guardD (K : Kd) (want : Bool) (op : Op) : Option D → Option D
  | some (.v u) => match nb u, want with
    | some true, true => zdR K op
    | some false, false => zdR K op
    | some true, false => some (.v undef)
    | some false, true => some (.v undef)
    | none, _ => some (.v undef)
  | _ => none
/-- one operation: which cell it fills, and with what -/
def oneD (ops : List Oper) (i N : Nat) (K : Kd) : Option (Tmp × D) :=
  match opAt ops i with
  | some (some t, op, _, none) => oneC N t (zdR K op)
  | some (some t, op, _, some (j, want)) => match zaN ops j with
    | some s => bif Nat.blt s N then oneC N t (guardD K want op (zai K s)) else none
    | none => none
  | _ => none
/-- n operations -/
def runD (ops : List Oper) (N : Nat) : Nat → Nat → Kd → Option (Nat × Kd)
  | 0, i, K => some (i, K)
  | n + 1, i, K => match oneD ops i N K with
    | some (t, d) => runD ops N n (i + 1) ((t, d) :: K)
    | none => none
def opP (ops : List Oper) (i N : Nat) : Option (Tmp × Op × TypeId) := match opAt ops i with
  | some (some t, op, ty, none) => bif Nat.blt t N then some (t, op, ty) else none
  | _ => none
def opE (ops : List Oper) (i N : Nat) : Option (Option Tmp × Op × TypeId) := match opAt ops i with
  | some (t, op, ty, none) => bif dok N t then some (t, op, ty) else none
  | _ => none
/-- the guard of an operation that runs -/
def gdF (ops : List Oper) (N : Nat) (K : Kd) (j : Nat) (want : Bool) : Bool := match zaN ops j with
  | some s => match zai K s with
    | some (.v (.bool b)) => Nat.blt s N && (b == want)
    | _ => false
  | none => false
def opG (ops : List Oper) (i N : Nat) (K : Kd) : Option (Option Tmp × Op × TypeId) := match opAt ops i with
  | some (t, op, ty, some (j, want)) => match dok N t, gdF ops N K j want with
    | true, true => some (t, op, ty)
    | _, _ => none
  | _ => none
section
variable {P : Program} {N : Nat} {C : Ctx} {K : Kd} {H : List Hp} {ops : List Oper} {i : Nat} {Kt : Env → World → (Nat → Prop) → Prop}
theorem nb_b {u : Value} {b : Bool} (h : nb u = some b) : u = .bool b := by cases u <;> simp [nb] at h; rw [h]
theorem o1 {t : Tmp} {d : D} (h : oneD ops i N K = some (t, d)) (k : OpsD P N C ops (i + 1) ((t, d) :: K) H Kt) : OpsD P N C ops i K H Kt := by
  unfold oneD at h
  split at h
  · rename_i t' op ty ho
    obtain ⟨e1, e2, e3⟩ := oneC_ok h
    subst e1
    exact od_pu ho e3 (pureD_ok e2) k
  · rename_i t' op ty j want ho
    split at h
    · rename_i s hs
      cases hb : Nat.blt s N
      · simp [hb] at h
      · simp only [hb, cond_true] at h
        obtain ⟨e1, e2, e3⟩ := oneC_ok h
        subst e1
        unfold guardD at e2
        split at e2
        · rename_i u hl
          split at e2
          · rename_i hn; rw [nb_b hn] at hl; exact od_runp ho e3 hs hb hl (pureD_ok e2) k
          · rename_i hn; rw [nb_b hn] at hl; exact od_runp ho e3 hs hb hl (pureD_ok e2) k
          · rename_i hn; injection e2 with e2; subst e2; exact od_skip ho e3 hs hb hl (by rw [hn]; decide) k
          · rename_i hn; injection e2 with e2; subst e2; exact od_skip ho e3 hs hb hl (by rw [hn]; decide) k
          · rename_i hn; injection e2 with e2; subst e2; exact od_skip ho e3 hs hb hl (by rw [hn]; simp) k
        · cases e2
    · cases h
  · cases h
theorem oR (n : Nat) {j : Nat} {K' : Kd} (h : runD ops N n i K = some (j, K')) (k : OpsD P N C ops j K' H Kt) : OpsD P N C ops i K H Kt := by
  induction n generalizing i K with
  | zero => injection h with h; injection h with h1 h2; subst h1; subst h2; exact k
  | succ n ih =>
    unfold runD at h
    split at h
    · rename_i t d he; exact o1 he (ih h)
    · cases h
theorem opP_ok {t : Tmp} {op : Op} {ty : TypeId} (h : opP ops i N = some (t, op, ty)) : opAt ops i = some (some t, op, ty, none) ∧ Nat.blt t N = true := by
  unfold opP at h
  split at h
  · rename_i t' op' ty' ho
    cases hb : Nat.blt t' N
    · simp [hb] at h
    · simp [hb] at h; obtain ⟨h1, h2, h3⟩ := h; subst h1; subst h2; subst h3; exact ⟨ho, hb⟩
  · cases h
theorem opE_ok {t : Option Tmp} {op : Op} {ty : TypeId} (h : opE ops i N = some (t, op, ty)) : opAt ops i = some (t, op, ty, none) ∧ dok N t = true := by
  unfold opE at h
  split at h
  · rename_i t' op' ty' ho
    cases hb : dok N t'
    · simp [hb] at h
    · simp [hb] at h; obtain ⟨h1, h2, h3⟩ := h; subst h1; subst h2; subst h3; exact ⟨ho, hb⟩
  · cases h
theorem opG_ok {t : Option Tmp} {op : Op} {ty : TypeId} (h : opG ops i N K = some (t, op, ty)) : ∃ j want s, opAt ops i = some (t, op, ty, some (j, want)) ∧ dok N t = true ∧ zaN ops j = some s ∧ Nat.blt s N = true ∧ zai K s = some (.v (.bool want)) := by
  unfold opG at h
  split at h
  · rename_i t' op' ty' j want ho
    split at h
    · rename_i h1 h2
      injection h with h; injection h with e1 h; injection h with e2 e3
      subst e1; subst e2; subst e3
      unfold gdF at h2
      split at h2
      · rename_i s hs
        split at h2
        · rename_i b hb
          simp only [Bool.and_eq_true, beq_iff_eq] at h2
          obtain ⟨h3, h4⟩ := h2; subst h4
          exact ⟨j, b, s, ho, h1, hs, h3, hb⟩
        · cases h2
      · cases h2
    · cases h
  · cases h
theorem oP {t : Tmp} {op : Op} {ty : TypeId} {d : D} (ho : opP ops i N = some (t, op, ty)) (h : Pu P op ty K H d) (k : OpsD P N C ops (i + 1) ((t, d) :: K) H Kt) : OpsD P N C ops i K H Kt := od_pu (opP_ok ho).1 (opP_ok ho).2 h k
theorem oE {t : Option Tmp} {op : Op} {ty : TypeId} {R : D → List Hp → Prop} (ho : opE ops i N = some (t, op, ty)) (h : Ef P op ty K H R) (k : ∀ d H', R d H' → OpsD P N C ops (i + 1) (upK K t d) H' Kt) : OpsD P N C ops i K H Kt := od_step (opE_ok ho).1 (opE_ok ho).2 h k
theorem oF {t : Option Tmp} {op : Op} {ty : TypeId} {R : D → List Hp → Prop} (ho : opG ops i N K = some (t, op, ty)) (h : Ef P op ty K H R) (k : ∀ d H', R d H' → OpsD P N C ops (i + 1) (upK K t d) H' Kt) : OpsD P N C ops i K H Kt := by
  obtain ⟨j, want, s, h1, h2, h3, h4, h5⟩ := opG_ok ho
  exact od_run h1 h2 h3 h4 h5 h k
theorem oG {t : Tmp} {op : Op} {ty : TypeId} {d : D} (ho : opG ops i N K = some (some t, op, ty)) (h : Pu P op ty K H d) (k : OpsD P N C ops (i + 1) ((t, d) :: K) H Kt) : OpsD P N C ops i K H Kt :=
  oF ho h.ef fun _ _ ⟨e1, e2⟩ => by subst e1; subst e2; exact k
/-- a call that only hands back a datum -/
theorem oW {t : Option Tmp} {f : FuncId} {args : Array Operand} {ats : Array TypeId} {ty : TypeId} {ds0 ds : List D} {d : D} (ho : opE ops i N = some (t, .call { callee := .value (.func f), args := args, argTypes := ats }, ty)) (hargs : opsD K args.toList = some ds0) (ha : ArgCs [] ds0 ds)
    (hc : ∀ args w, (callFunc f args).run P w = .ok (.enter f args) w) (hcall : CD P f [] ds (isR d)) (k : OpsD P N C ops (i + 1) (upK K t d) H Kt) : OpsD P N C ops i K H Kt :=
  oE ho (zN [] _ [] rfl hargs ha zz hc hcall (.inl rfl)) (by rintro _ _ ⟨_, ⟨rfl, rfl⟩, rfl⟩; exact k)
theorem oV {t : Option Tmp} {f : FuncId} {args : Array Operand} {ats : Array TypeId} {ty : TypeId} {ds0 ds : List D} {d : D} (ho : opG ops i N K = some (t, .call { callee := .value (.func f), args := args, argTypes := ats }, ty)) (hargs : opsD K args.toList = some ds0) (ha : ArgCs [] ds0 ds)
    (hc : ∀ args w, (callFunc f args).run P w = .ok (.enter f args) w) (hcall : CD P f [] ds (isR d)) (k : OpsD P N C ops (i + 1) (upK K t d) H Kt) : OpsD P N C ops i K H Kt :=
  oF ho (zN [] _ [] rfl hargs ha zz hc hcall (.inl rfl)) (by rintro _ _ ⟨_, ⟨rfl, rfl⟩, rfl⟩; exact k)
theorem acs {L : List Hp} : ∀ {ds : List D}, ArgCs L ds ds
  | [] => .nil
  | _ :: _ => .cons ArgC.id acs
theorem on {H' : List Hp} (h : cpF H = some H') (k : OpsD P N C ops i K H' Kt) : OpsD P N C ops i K H Kt := zdI h ▸ k
theorem ok (ts : List Nat) {K' : Kd} (h : kpF ts K = some K') (k : OpsD P N C ops i K' H Kt) : OpsD P N C ops i K H Kt := OpsD.sub K' (kpF_sub h) k
theorem os (t : Nat) {d d' : D} (h : zai K t = some d) (e : d = d') (k : OpsD P N C ops i ((t, d') :: K) H Kt) : OpsD P N C ops i K H Kt := by
  subst e
  refine ⟨fun a w F ok hk g => k.out a w F ok (fun s u hu => ?_) g⟩
  simp only [zai] at hu
  by_cases e : s = t
  · subst e; rw [show Nat.beq s s = true from Nat.beq_refl s] at hu; simp only [cond_true, Option.some.injEq] at hu; subst hu; exact hk s _ h
  · rw [zbh e] at hu; exact hk s u hu
/-- behind the last operation: the code that follows -/
theorem oZ {b : Code} {Q : zaG} (hn : Nat.ble ops.length i = true) (h : JD P N C b K H Q) : OpsD P N C ops i K H (fun ρ w F => qseq P N b Q .normal ρ w F) := ze (Q := qseq P N b Q) hn (zb h)
end
section
variable {P : Program} {N : Nat} {C : Ctx} {K : Kd} {H : List Hp} {Q : zaG} {c : Code} {p pa pb : List Bool}
theorem jn {H' : List Hp} {b : Code} (h : cpF H = some H') (k : JD P N C b K H' Q) : JD P N C b K H Q := zdI h ▸ k
theorem pn {H' : List Hp} {e : Exit} (h : cpF H = some H') (k : PD C Q e K H') : PD C Q e K H := zdI h ▸ k
theorem jk (ts : List Nat) {K' : Kd} {b : Code} (h : kpF ts K = some K') (k : JD P N C b K' H Q) : JD P N C b K H Q := JD.sub K' (kpF_sub h) k
theorem pk (ts : List Nat) {K' : Kd} {e : Exit} (h : kpF ts K = some K') (k : PD C Q e K' H) : PD C Q e K H := PD.sub K' (kpF_sub h) k
theorem ja {K' : Kd} {b : Code} (h : cpF K = some K') (k : JD P N C b K' H Q) : JD P N C b K H Q := zdI h ▸ k
theorem js (t : Nat) {d d' : D} {b : Code} (h : zai K t = some d) (e : d = d') (k : JD P N C b ((t, d') :: K) H Q) : JD P N C b K H Q := by
  subst e
  refine ⟨fun a w F ok hk g => k.out a w F ok (fun s u hu => ?_) g⟩
  simp only [zai] at hu
  by_cases e : s = t
  · subst e; rw [show Nat.beq s s = true from Nat.beq_refl s] at hu; simp only [cond_true, Option.some.injEq] at hu; subst hu; exact hk s _ h
  · rw [zbh e] at hu; exact hk s u hu
def sqF (c : Code) (p : List Bool) : Option (List Bool × List Bool) := match isSeq (cd c p), snF p false, snF p true with
  | true, some a, some b => some (a, b)
  | _, _, _ => none
theorem sqF_ok (h : sqF c p = some (pa, pb)) : isSeq (cd c p) = true ∧ p ++ [false] = pa ∧ p ++ [true] = pb := by
  unfold sqF at h
  split at h
  · rename_i h1 h2 h3; injection h with h; injection h with e1 e2; subst e1; subst e2; exact ⟨h1, zdi h2, zdi h3⟩
  · cases h
theorem jS (h : sqF c p = some (pa, pb)) (k : JD P N C (cd c pa) K H (qseq P N (cd c pb) Q)) : JD P N C (cd c p) K H Q := jd_seq _ _ (sqF_ok h).1 (sqF_ok h).2.1 (sqF_ok h).2.2 k
def sgF (c : Code) (p : List Bool) : Option (List Bool × List Bool) := match sqF c p with
  | some (a, b) => match zdl (cd c a) with
    | some false => some (a, b)
    | _ => none
  | none => none
theorem jT (h : sgF c p = some (pa, pb)) (k : OpsD P N C (zcs (cd c pa)) 0 K H (fun ρ w F => qseq P N (cd c pb) Q .normal ρ w F)) : JD P N C (cd c p) K H Q := by
  unfold sgF at h
  split at h
  · rename_i a b h1
    split at h
    · rename_i h2; injection h with h; injection h with e1 e2; subst e1; subst e2; exact jS h1 (za h2 k)
    · cases h
  · cases h
def cnF (c : Code) (p : List Bool) (K : Kd) : Option (List Bool × List Bool × D) := match condOf (cd c p), snF p false, snF p true with
  | some x, some a, some b => match opD K x with
    | some d => some (a, b, d)
    | none => none
  | _, _, _ => none
theorem jC {t : Bool} (h : cnF c p K = some (pa, pb, .v (.bool t))) (ht : t = true → JD P N C (cd c pa) K H Q) (hf : t = false → JD P N C (cd c pb) K H Q) : JD P N C (cd c p) K H Q := by
  unfold cnF at h
  split at h
  · rename_i x a b h1 h2 h3
    split at h
    · rename_i d hd; injection h with h; injection h with e1 h; injection h with e2 e3
      subst e1; subst e2; subst e3
      exact jd_cond _ _ h1 (zdi h2) (zdi h3) hd ht hf
    · cases h
  · cases h
theorem jD {φ : Prop} {_ : Decidable φ} (h : cnF c p K = some (pa, pb, .v (.bool (decide φ)))) (ht : φ → JD P N C (cd c pa) K H Q) (hf : ¬φ → JD P N C (cd c pb) K H Q) : JD P N C (cd c p) K H Q :=
  jC h (fun e => ht (of_decide_eq_true e)) (fun e => hf (of_decide_eq_false e))
theorem jCt (h : cnF c p K = some (pa, pb, .v (.bool true))) (ht : JD P N C (cd c pa) K H Q) : JD P N C (cd c p) K H Q := jC h (fun _ => ht) (fun e => by cases e)
theorem jCf (h : cnF c p K = some (pa, pb, .v (.bool false))) (hf : JD P N C (cd c pb) K H Q) : JD P N C (cd c p) K H Q := jC h (fun e => by cases e) (fun _ => hf)
def blF (c : Code) (p : List Bool) : Option (List Bool × Nat) := match blockOf (cd c p), snF p false with
  | some n, some a => some (a, n)
  | _, _ => none
theorem jB {id : Nat} (h : blF c p = some (pa, id)) (k : JD P N C (cd c pa) K H (zdj id Q)) : JD P N C (cd c p) K H Q := by
  unfold blF at h
  split at h
  · rename_i h1 h2; injection h with h; injection h with e1 e2; subst e1; subst e2; exact jd_block _ h1 (zdi h2) k
  · cases h
def lpF (c : Code) (p : List Bool) : Option (List Bool) := match isLoop (cd c p), snF p false with
  | true, some a => some a
  | _, _ => none
theorem zc4 (h : lpF c p = some pa) : isLoop (cd c p) = true ∧ p ++ [false] = pa := by
  unfold lpF at h
  split at h
  · rename_i h1 h2; injection h with h; subst h; exact ⟨h1, zdi h2⟩
  · cases h
abbrev ql1 {A0 : Type} (C : Ctx) (L : A0 → Kd) (HI : A0 → List Hp) (I : A0 → Prop) (μ : A0 → Nat) (a0 : A0) (Q : zaG) : zaG := zdC C (fun g : A0 => L g) (fun g : A0 => HI g) (fun g : A0 => I g) (fun g : A0 => μ g) a0 Q
theorem jl1 {A0 : Type} (L : A0 → Kd) (HI : A0 → List Hp) (I : A0 → Prop) (μ : A0 → Nat) (a0 : A0) (hk : lpF c p = some pa) (hs : SubK (L a0) K) (hH : HSub H (HI a0)) (hI : I a0) (h : ∀ b0, I b0 → JD P N C (cd c pa) (L b0) (HI b0) (ql1 C L HI I μ b0 Q)) : JD P N C (cd c p) K H Q :=
  jd_loop (fun g : A0 => L g) (fun g : A0 => HI g) (fun g : A0 => I g) (fun g : A0 => μ g) pa a0 (zc4 hk).1 (zc4 hk).2 hs hH hI (fun g hg => h g hg)
theorem pl1 {A0 : Type} {L : A0 → Kd} {HI : A0 → List Hp} {I : A0 → Prop} {μ : A0 → Nat} {a0 : A0} (b0 : A0) (hs : SubK (L b0) K) (hH : HSub H (HI b0)) (hI : I b0) (hμ : μ b0 < μ a0) : PD C (ql1 C L HI I μ a0 Q) .normal K H := pd_loop b0 hs hH hI hμ
abbrev ql2 {A0 A1 : Type} (C : Ctx) (L : A0 → A1 → Kd) (HI : A0 → A1 → List Hp) (I : A0 → A1 → Prop) (μ : A0 → A1 → Nat) (a0 : A0) (a1 : A1) (Q : zaG) : zaG := zdC C (fun g : A0 × A1 => L g.1 g.2) (fun g : A0 × A1 => HI g.1 g.2) (fun g : A0 × A1 => I g.1 g.2) (fun g : A0 × A1 => μ g.1 g.2) (a0, a1) Q
theorem jl2 {A0 A1 : Type} (L : A0 → A1 → Kd) (HI : A0 → A1 → List Hp) (I : A0 → A1 → Prop) (μ : A0 → A1 → Nat) (a0 : A0) (a1 : A1) (hk : lpF c p = some pa) (hs : SubK (L a0 a1) K) (hH : HSub H (HI a0 a1)) (hI : I a0 a1) (h : ∀ b0 b1, I b0 b1 → JD P N C (cd c pa) (L b0 b1) (HI b0 b1) (ql2 C L HI I μ b0 b1 Q)) : JD P N C (cd c p) K H Q :=
  jd_loop (fun g : A0 × A1 => L g.1 g.2) (fun g : A0 × A1 => HI g.1 g.2) (fun g : A0 × A1 => I g.1 g.2) (fun g : A0 × A1 => μ g.1 g.2) pa (a0, a1) (zc4 hk).1 (zc4 hk).2 hs hH hI (fun g hg => h g.1 g.2 hg)
theorem pl2 {A0 A1 : Type} {L : A0 → A1 → Kd} {HI : A0 → A1 → List Hp} {I : A0 → A1 → Prop} {μ : A0 → A1 → Nat} {a0 : A0} {a1 : A1} (b0 : A0) (b1 : A1) (hs : SubK (L b0 b1) K) (hH : HSub H (HI b0 b1)) (hI : I b0 b1) (hμ : μ b0 b1 < μ a0 a1) : PD C (ql2 C L HI I μ a0 a1 Q) .normal K H := pd_loop (b0, b1) hs hH hI hμ
abbrev ql3 {A0 A1 A2 : Type} (C : Ctx) (L : A0 → A1 → A2 → Kd) (HI : A0 → A1 → A2 → List Hp) (I : A0 → A1 → A2 → Prop) (μ : A0 → A1 → A2 → Nat) (a0 : A0) (a1 : A1) (a2 : A2) (Q : zaG) : zaG := zdC C (fun g : A0 × A1 × A2 => L g.1 g.2.1 g.2.2) (fun g : A0 × A1 × A2 => HI g.1 g.2.1 g.2.2) (fun g : A0 × A1 × A2 => I g.1 g.2.1 g.2.2) (fun g : A0 × A1 × A2 => μ g.1 g.2.1 g.2.2) (a0, a1, a2) Q
theorem jl3 {A0 A1 A2 : Type} (L : A0 → A1 → A2 → Kd) (HI : A0 → A1 → A2 → List Hp) (I : A0 → A1 → A2 → Prop) (μ : A0 → A1 → A2 → Nat) (a0 : A0) (a1 : A1) (a2 : A2) (hk : lpF c p = some pa) (hs : SubK (L a0 a1 a2) K) (hH : HSub H (HI a0 a1 a2)) (hI : I a0 a1 a2) (h : ∀ b0 b1 b2, I b0 b1 b2 → JD P N C (cd c pa) (L b0 b1 b2) (HI b0 b1 b2) (ql3 C L HI I μ b0 b1 b2 Q)) : JD P N C (cd c p) K H Q :=
  jd_loop (fun g : A0 × A1 × A2 => L g.1 g.2.1 g.2.2) (fun g : A0 × A1 × A2 => HI g.1 g.2.1 g.2.2) (fun g : A0 × A1 × A2 => I g.1 g.2.1 g.2.2) (fun g : A0 × A1 × A2 => μ g.1 g.2.1 g.2.2) pa (a0, a1, a2) (zc4 hk).1 (zc4 hk).2 hs hH hI (fun g hg => h g.1 g.2.1 g.2.2 hg)
theorem pl3 {A0 A1 A2 : Type} {L : A0 → A1 → A2 → Kd} {HI : A0 → A1 → A2 → List Hp} {I : A0 → A1 → A2 → Prop} {μ : A0 → A1 → A2 → Nat} {a0 : A0} {a1 : A1} {a2 : A2} (b0 : A0) (b1 : A1) (b2 : A2) (hs : SubK (L b0 b1 b2) K) (hH : HSub H (HI b0 b1 b2)) (hI : I b0 b1 b2) (hμ : μ b0 b1 b2 < μ a0 a1 a2) : PD C (ql3 C L HI I μ a0 a1 a2 Q) .normal K H := pd_loop (b0, b1, b2) hs hH hI hμ
abbrev ql4 {A0 A1 A2 A3 : Type} (C : Ctx) (L : A0 → A1 → A2 → A3 → Kd) (HI : A0 → A1 → A2 → A3 → List Hp) (I : A0 → A1 → A2 → A3 → Prop) (μ : A0 → A1 → A2 → A3 → Nat) (a0 : A0) (a1 : A1) (a2 : A2) (a3 : A3) (Q : zaG) : zaG := zdC C (fun g : A0 × A1 × A2 × A3 => L g.1 g.2.1 g.2.2.1 g.2.2.2) (fun g : A0 × A1 × A2 × A3 => HI g.1 g.2.1 g.2.2.1 g.2.2.2) (fun g : A0 × A1 × A2 × A3 => I g.1 g.2.1 g.2.2.1 g.2.2.2) (fun g : A0 × A1 × A2 × A3 => μ g.1 g.2.1 g.2.2.1 g.2.2.2) (a0, a1, a2, a3) Q
theorem jl4 {A0 A1 A2 A3 : Type} (L : A0 → A1 → A2 → A3 → Kd) (HI : A0 → A1 → A2 → A3 → List Hp) (I : A0 → A1 → A2 → A3 → Prop) (μ : A0 → A1 → A2 → A3 → Nat) (a0 : A0) (a1 : A1) (a2 : A2) (a3 : A3) (hk : lpF c p = some pa) (hs : SubK (L a0 a1 a2 a3) K) (hH : HSub H (HI a0 a1 a2 a3)) (hI : I a0 a1 a2 a3) (h : ∀ b0 b1 b2 b3, I b0 b1 b2 b3 → JD P N C (cd c pa) (L b0 b1 b2 b3) (HI b0 b1 b2 b3) (ql4 C L HI I μ b0 b1 b2 b3 Q)) : JD P N C (cd c p) K H Q :=
  jd_loop (fun g : A0 × A1 × A2 × A3 => L g.1 g.2.1 g.2.2.1 g.2.2.2) (fun g : A0 × A1 × A2 × A3 => HI g.1 g.2.1 g.2.2.1 g.2.2.2) (fun g : A0 × A1 × A2 × A3 => I g.1 g.2.1 g.2.2.1 g.2.2.2) (fun g : A0 × A1 × A2 × A3 => μ g.1 g.2.1 g.2.2.1 g.2.2.2) pa (a0, a1, a2, a3) (zc4 hk).1 (zc4 hk).2 hs hH hI (fun g hg => h g.1 g.2.1 g.2.2.1 g.2.2.2 hg)
theorem pl4 {A0 A1 A2 A3 : Type} {L : A0 → A1 → A2 → A3 → Kd} {HI : A0 → A1 → A2 → A3 → List Hp} {I : A0 → A1 → A2 → A3 → Prop} {μ : A0 → A1 → A2 → A3 → Nat} {a0 : A0} {a1 : A1} {a2 : A2} {a3 : A3} (b0 : A0) (b1 : A1) (b2 : A2) (b3 : A3) (hs : SubK (L b0 b1 b2 b3) K) (hH : HSub H (HI b0 b1 b2 b3)) (hI : I b0 b1 b2 b3) (hμ : μ b0 b1 b2 b3 < μ a0 a1 a2 a3) : PD C (ql4 C L HI I μ a0 a1 a2 a3 Q) .normal K H := pd_loop (b0, b1, b2, b3) hs hH hI hμ
end
theorem bA (a b : Bool) : ((a && b) = true) = (a = true ∧ b = true) := Bool.and_eq_true a b
theorem bB (a b : Bool) : ((a || b) = true) = (a = true ∨ b = true) := Bool.or_eq_true a b
theorem bC (b : Bool) : ((!b) = true) = (b = false) := Bool.not_eq_true' b
theorem bD (b : Bool) : ((!b) = false) = (b = true) := Bool.not_eq_false' b
theorem bE (a b : Bool) : ((a && b) = false) = (a = false ∨ b = false) := by cases a <;> cases b <;> simp
theorem bF (a b : Bool) : ((a || b) = false) = (a = false ∧ b = false) := by cases a <;> cases b <;> simp
theorem bG (p : Prop) [Decidable p] : (decide p = true) = p := decide_eq_true_eq
theorem bH (p : Prop) [Decidable p] : (decide p = false) = ¬p := by simp
theorem bI (p : Prop) [Decidable p] : (¬¬p) = p := by simp
theorem bJ {α : Sort _} (a b : α) : (a ≠ b) = ¬a = b := rfl
theorem la {α : Type} {a b : List α} : (a ++ b).length = a.length + b.length := List.length_append
theorem lc {α : Type} {a : α} {b : List α} : (a :: b).length = b.length + 1 := List.length_cons
theorem ln {α : Type} : ([] : List α).length = 0 := List.length_nil
theorem lm {α β : Type} {a : List α} {f : α → β} : (a.map f).length = a.length := List.length_map f
theorem lt' {α : Type} {n : Nat} {a : List α} : (a.take n).length = min n a.length := List.length_take
theorem ld {α : Type} {n : Nat} {a : List α} : (a.drop n).length = a.length - n := List.length_drop
theorem ls {α : Type} {n : Nat} {a : List α} {x : α} : (a.set n x).length = a.length := List.length_set
theorem lr {α : Type} {n : Nat} {x : α} : (List.replicate n x).length = n := List.length_replicate
end Lp
