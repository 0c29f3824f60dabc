/-
  Texts of labels, as plain data: zaO as bytes, quotation marks, joining.
-/
import Derived.Test.YtfjinapgehafiaaV60
set_option linter.unusedVariables false
namespace Lp
open Go

/-- a rune as bytes -/
def encR (x : Nat) : List UInt8 :=
  if x ≤ 127 then [UInt8.ofNat (x % 256)]
  else if x ≤ 2047 then [UInt8.ofNat (192 + x / 64 % 256), UInt8.ofNat (128 + x % 256 % 64)]
  else if x < 55296 ∨ (57343 < x ∧ x ≤ 65535) then [UInt8.ofNat (224 + x / 4096 % 256), UInt8.ofNat (128 + x / 64 % 256 % 64), UInt8.ofNat (128 + x % 256 % 64)]
  else if 65535 < x ∧ x ≤ 1114111 then [UInt8.ofNat (240 + x / 262144 % 256), UInt8.ofNat (128 + x / 4096 % 256 % 64), UInt8.ofNat (128 + x / 64 % 256 % 64), UInt8.ofNat (128 + x % 256 % 64)]
  else [239, 191, 189]
theorem zcT (x : Nat) : (encR x).length ≤ 4 := by unfold encR; (repeat' split) <;> simp
def hasP (a b : ByteArray) : Bool := decide (b.size ≤ a.size) && decide (a.extract 0 b.size = b)
def wide : ByteArray := ⟨#[239, 191, 189]⟩
def hexd : ByteArray := ⟨#[48, 49, 50, 51, 52, 53, 54, 55, 56, 57, 97, 98, 99, 100, 101, 102]⟩
def hexB (n : Nat) : UInt8 := hexd[n]?.getD 0
def zdE (s : ByteArray) (p : Nat) : Nat := (s[p]?.getD 0).toNat
/-- what a rune becomes between quotation marks -/
def zcu (s : ByteArray) (p : Nat) : List UInt8 :=
  if decR s p = 34 ∨ decR s p = 92 then 92 :: encR (decR s p)
  else if decR s p = 10 then [92, 110]
  else if decR s p = 65533 ∧ hasP (s.extract p s.size) wide = false then [92, 120, hexB (zdE s p / 16), hexB (zdE s p % 16)]
  else encR (decR s p)
theorem piece_len (s : ByteArray) (p : Nat) : (zcu s p).length ≤ 5 := by
  have := zcT (decR s p)
  unfold zcu
  (repeat' split) <;> simp <;> omega
def zbK (s : ByteArray) (p : Nat) : List UInt8 := if h : p < s.size then zcu s p ++ zbK s (p + decW s p) else []
termination_by s.size - p
decreasing_by have := zaC s p; omega
theorem zct {s : ByteArray} {p : Nat} (h : p < s.size) : zbK s p = zcu s p ++ zbK s (p + decW s p) := by
  conv => lhs; unfold zbK
  rw [dif_pos h]
theorem quoteAt_ge {s : ByteArray} {p : Nat} (h : s.size ≤ p) : zbK s p = [] := by
  unfold zbK; rw [dif_neg (by omega)]
def quoteL (s : ByteArray) : List UInt8 := 34 :: (zbK s 0 ++ [34])
def zcd (s : ByteArray) : ByteArray := ⟨(quoteL s).toArray⟩
/-- texts, something between them -/
def zbU (sep : ByteArray) : List ByteArray → List UInt8
  | [] => []
  | [x] => x.data.toList
  | x :: y :: r => x.data.toList ++ sep.data.toList ++ zbU sep (y :: r)
def zdI (sep : ByteArray) (l : List ByteArray) : ByteArray := ⟨(zbU sep l).toArray⟩
def zdN (x : Lbl) : ByteArray := x.n ++ (⟨#[61]⟩ : ByteArray) ++ zcd x.v
def zcB (l : List Lbl) : ByteArray := (⟨#[123]⟩ : ByteArray) ++ zdI ⟨#[44]⟩ (l.map zdN) ++ (⟨#[125]⟩ : ByteArray)

theorem piece_1 {s : ByteArray} {p : Nat} (h : decR s p = 34 ∨ decR s p = 92) : zcu s p = [92] ++ encR (decR s p) := by unfold zcu; rw [if_pos h]; rfl
theorem piece_2 {s : ByteArray} {p : Nat} (h : ¬ (decR s p = 34 ∨ decR s p = 92)) (h2 : decR s p = 10) : zcu s p = [92, 110] := by unfold zcu; rw [if_neg h, if_pos h2]
theorem piece_3 {s : ByteArray} {p : Nat} (h : ¬ (decR s p = 34 ∨ decR s p = 92)) (h2 : ¬ decR s p = 10) (h3 : decR s p = 65533 ∧ hasP (s.extract p s.size) wide = false) : zcu s p = [92, 120, hexB (zdE s p / 16), hexB (zdE s p % 16)] := by unfold zcu; rw [if_neg h, if_neg h2, if_pos h3]
theorem piece_4 {s : ByteArray} {p : Nat} (h : ¬ (decR s p = 34 ∨ decR s p = 92)) (h2 : ¬ decR s p = 10) (h3 : ¬ (decR s p = 65533 ∧ hasP (s.extract p s.size) wide = false)) : zcu s p = encR (decR s p) := by unfold zcu; rw [if_neg h, if_neg h2, if_neg h3]
theorem hexB_at {n : Nat} {u : UInt8} (h : hexd[n]? = some u) : u = hexB n := by unfold hexB; rw [h]; rfl
theorem byteAt_at {s : ByteArray} {p : Nat} {u : UInt8} (h : s[p]? = some u) : u.toNat = zdE s p := by unfold zdE; rw [h]; rfl
def za7 (l : List ByteArray) : Nat := (l.map ByteArray.size).sum
theorem zbY {l : List ByteArray} {k : Nat} {x : ByteArray} (h : l[k]? = some x) : za7 (l.take (k + 1)) = za7 (l.take k) + x.size := by
  rw [zak h]; simp [za7]
theorem zc6 (l : List ByteArray) (k : Nat) : za7 (l.take k) ≤ za7 l := by
  conv => rhs; rw [← List.take_append_drop k l]
  unfold za7; rw [List.map_append, List.sum_append]; omega
theorem joinL_snoc (sep : ByteArray) : ∀ (l : List ByteArray) (x : ByteArray), l ≠ [] → zbU sep (l ++ [x]) = zbU sep l ++ sep.data.toList ++ x.data.toList
  | [], x, h => absurd rfl h
  | [a], x, _ => by simp [zbU]
  | a :: b :: r, x, _ => by
    have := joinL_snoc sep (b :: r) x (by simp)
    show a.data.toList ++ sep.data.toList ++ zbU sep ((b :: r) ++ [x]) = _
    rw [this]; simp [zbU, List.append_assoc]
theorem joinL_take {sep : ByteArray} {l : List ByteArray} {k : Nat} {x : ByteArray} (h : l[k + 1]? = some x) : zbU sep (l.take (k + 2)) = zbU sep (l.take (k + 1)) ++ sep.data.toList ++ x.data.toList := by
  rw [zak h, joinL_snoc]
  intro e
  have h0 : (l.take (k + 1)).length = 0 := by rw [e]; rfl
  have hk := (List.getElem?_eq_some_iff.1 h).1
  rw [List.length_take] at h0
  omega
theorem joinL_one {sep : ByteArray} {l : List ByteArray} {x : ByteArray} (h : l[0]? = some x) : zbU sep (l.take 1) = x.data.toList := by
  rw [show (1 : Nat) = 0 + 1 from rfl, zak h]; simp [zbU]
theorem joinB_none {sep : ByteArray} {l : List ByteArray} (h : l.length = 0) : ByteArray.empty = zdI sep l := by
  rw [List.eq_nil_of_length_eq_zero h]; rfl
theorem joinB_one {sep : ByteArray} {l : List ByteArray} {x : ByteArray} (h : l[0]? = some x) (hl : l.length = 1) : x = zdI sep l := by
  have := joinL_one (sep := sep) h
  rw [List.take_of_length_le (by omega)] at this
  unfold zdI; rw [this]
theorem joinB_all {sep : ByteArray} {l : List ByteArray} {k : Nat} {bs : List UInt8} (h : bs = zbU sep (l.take (k + 1))) (hl : l.length ≤ k + 1) : (⟨bs.toArray⟩ : ByteArray) = zdI sep l := by
  rw [h, List.take_of_length_le hl]; rfl
theorem zbN (x : ByteArray) : x.data.toList.length = x.size := by simp
theorem quoteAt_len (s : ByteArray) : ∀ (n p : Nat), s.size - p = n → (zbK s p).length ≤ 5 * (s.size - p) := by
  intro n
  induction n using Nat.strongRecOn with
  | _ n ih =>
    intro p hp
    rcases Nat.lt_or_ge p s.size with h | h
    · have h1 := zaC s p
      have h2 := piece_len s p
      rw [zct h, List.length_append]
      have := ih (s.size - (p + decW s p)) (by omega) _ rfl
      omega
    · rw [quoteAt_ge h]; simp
theorem quoteB_size (s : ByteArray) : (zcd s).size ≤ 5 * s.size + 2 := by
  have := quoteAt_len s _ 0 rfl
  show (quoteL s).toArray.size ≤ _
  unfold quoteL
  simp only [List.size_toArray, List.length_cons, List.length_append, List.length_nil]
  omega
theorem partB_size (x : Lbl) : (zdN x).size ≤ x.n.size + 5 * x.v.size + 3 := by
  have := quoteB_size x.v
  unfold zdN
  simp only [ByteArray.size_append]
  have e : (⟨#[61]⟩ : ByteArray).size = 1 := rfl
  omega
theorem joinL_len {sep : ByteArray} (h : sep.size = 1) : ∀ l : List ByteArray, (zbU sep l).length ≤ za7 l + l.length
  | [] => by simp [zbU]
  | [x] => by simp [zbU, za7]
  | x :: y :: r => by
    have := joinL_len h (y :: r)
    simp only [zbU, List.length_append, zbN, za7, List.map_cons, List.sum_cons, List.length_cons] at *
    omega
theorem joinB_size {sep : ByteArray} (h : sep.size = 1) (l : List ByteArray) : (zdI sep l).size ≤ za7 l + l.length := by
  have := joinL_len h l
  show (zbU sep l).toArray.size ≤ _
  simpa using this
theorem sumSz_part {l : List Lbl} (hz : ∀ x ∈ l, x.n.size ≤ 100000 ∧ x.v.size ≤ 100000) : za7 (l.map zdN) ≤ l.length * 600003 := by
  induction l with
  | nil => simp [za7]
  | cons x r ih =>
    have h1 := partB_size x
    have h2 := hz x List.mem_cons_self
    have h3 := ih (fun y hy => hz y (List.mem_cons_of_mem _ hy))
    simp only [za7, List.map_cons, List.sum_cons, List.length_cons] at *
    omega
theorem sumSz_parts {l : List Lbl} (hl : l.length ≤ 1000) (hz : ∀ x ∈ l, x.n.size ≤ 100000 ∧ x.v.size ≤ 100000) (k : Nat) : za7 ((l.take k).map zdN) ≤ 1000000000 := by
  have h1 := sumSz_part (l := l.take k) (fun x hx => hz x (List.mem_of_mem_take hx))
  rw [List.length_take] at h1
  omega
end Lp
/-
  What is said of labels (chapter 2), as plain data.
-/
set_option linter.unusedVariables false
namespace Lp
open Go

theorem cmpLs_self (a : List Lbl) : z1 a a = 0 := by have := cmpLs_neg a a; omega
theorem cmpLbl_eq {a b : Lbl} : zG a b = 0 ↔ a = b := by
  constructor
  · intro h
    unfold zG or2 at h
    split at h
    · contradiction
    · rename_i h1
      have h1 : cmpS a.n b.n = 0 := by omega
      have e1 := (zbW _ _).1 h1
      have e2 := (zbW _ _).1 h
      obtain ⟨_, _⟩ := a; obtain ⟨_, _⟩ := b; simp at e1 e2; simp [e1, e2]
  · rintro rfl; have := cmpLbl_neg a a; omega
theorem cmpLs_eq : ∀ {a b : List Lbl}, z1 a b = 0 ↔ a = b
  | [], [] => by simp [z1]
  | [], _ :: _ => by simp [z1]
  | _ :: _, [] => by simp [z1]
  | a :: r, b :: s => by
    unfold z1
    split
    · rename_i h
      constructor
      · intro h'; contradiction
      · intro h'; cases h'; exact absurd (cmpLbl_eq.2 rfl) h
    · rename_i h
      have h : zG a b = 0 := by omega
      rw [cmpLs_eq, cmpLbl_eq.1 h]; simp

/-! ### order -/
theorem isort_len' (l : List Lbl) : (zO zG l).length = l.length := zcm _ l rfl
theorem tidyL_len (l : List Lbl) : (zS l).length ≤ l.length := by
  unfold zS; cases zad l
  · simp
  · simp [isort_len']
theorem tidyE_cases (l : List Lbl) : (za6 l = 0 ∧ zad l = true ∧ zS l = zO zG l) ∨ (za6 l = 1 ∧ zS l = []) := by
  unfold zS za6; cases zad l <;> simp
theorem tidy_srt (l : List Lbl) : Srt zG (zS l) := by
  rcases tidyE_cases l with ⟨_, _, h⟩ | ⟨_, h⟩ <;> rw [h]
  · exact (zaE zb0 _ l rfl).srt
  · exact List.Pairwise.nil
theorem tidy_ok_len {l : List Lbl} (h : zad l = true) : l.length ≤ 8 := by unfold zad at h; simp at h; exact h.1
theorem tidy_ok_b {l : List Lbl} (h : zad l = true) : zc5 (zO zG l) = true := by unfold zad at h; simp at h; exact h.2
theorem runes_one {s : ByteArray} {r : Nat} (h0 : 0 < s.size) (h1 : decR s 0 = r) (h2 : s.size ≤ decW s 0) : zaO s = [(r : Int)] := by
  unfold zaO; rw [zcr h0, zcs (by omega), h1]
theorem name_a : zci ⟨#[97]⟩ = true := by unfold zci; rw [runes_one (r := 97) (by decide) (by decide) (by decide)]; decide
end Lp
/-
  Texts of labels tell labels apart; names in tidy labels are all different.
-/
set_option linter.unusedVariables false
namespace Lp
open Go

/-! ### names in tidy labels -/
def NSrt (l : List Lbl) : Prop := l.Pairwise (fun a b => cmpS a.n b.n < 0)
theorem cmpLbl_n {a b : Lbl} (h : zG a b ≤ 0) : cmpS a.n b.n ≤ 0 := by
  unfold zG or2 at h; split at h <;> omega
theorem tidyFrom_n : ∀ (l : List Lbl) (p : Option ByteArray), Srt zG l → zb4 p l = true → NSrt l ∧ ∀ x ∈ l, okL x = true
  | [], _, _, _ => ⟨List.Pairwise.nil, fun _ h => by cases h⟩
  | x :: r, p, hs, ht => by
    have hs' := List.pairwise_cons.1 hs
    unfold zb4 at ht
    simp only [Bool.and_eq_true] at ht
    obtain ⟨h1, h2, h3⟩ := ht
    have ih := tidyFrom_n r (some x.n) hs'.2 h3
    refine ⟨List.pairwise_cons.2 ⟨?_, ih.1⟩, ?_⟩
    · intro y hy
      cases r with
      | nil => cases hy
      | cons z r =>
        have hxz : cmpS x.n z.n < 0 := by
          have h4 := cmpLbl_n (hs'.1 z List.mem_cons_self)
          have h5 : ¬ x.n = z.n := by
            unfold zb4 at h3; simp only [Bool.and_eq_true, Bool.not_eq_true', decide_eq_false_iff_not] at h3
            intro e; exact h3.2.1 (congrArg some e)
          have h6 : cmpS x.n z.n ≠ 0 := fun e => h5 ((zbW _ _).1 e)
          omega
        rcases List.mem_cons.1 hy with e | e
        · rw [e]; exact hxz
        · have h7 := (List.pairwise_cons.1 ih.1).1 y e
          exact (cmpS_tr x.n z.n y.n).lt1 hxz (by omega)
    · intro y hy
      rcases List.mem_cons.1 hy with e | e
      · rw [e]; exact h1
      · exact ih.2 y e
theorem tidy_n {l : List Lbl} (h : za6 l = 0) : NSrt (zS l) ∧ ∀ x ∈ zS l, okL x = true := by
  rcases tidyE_cases l with ⟨_, h2, h3⟩ | ⟨h2, _⟩
  · have hs := tidy_srt l
    rw [h3] at hs ⊢
    exact tidyFrom_n _ none hs (tidy_ok_b h2)
  · omega
theorem tidyL_mem {l : List Lbl} {x : Lbl} (h : x ∈ zS l) : x ∈ l := by
  rcases tidyE_cases l with ⟨_, _, h3⟩ | ⟨_, h3⟩ <;> rw [h3] at h
  · exact ((zaE zb0 _ l rfl).mem zb0 x).1 h
  · cases h
theorem light_sizes {l : List Lbl} (h : zaI l = true) : ∀ x ∈ l, x.n.size ≤ 200 ∧ x.v.size ≤ 200 := by
  intro x hx
  have hl := lightL_len h
  unfold zaI at h
  rw [Bool.and_eq_true, List.take_of_length_le (by omega), List.all_eq_true] at h
  have := h.1 x hx
  simpa using this
end Lp
/-
  The document's own tidying of labels and rows, as plain data.
-/
set_option linter.unusedVariables false
namespace Lp
open Go
section
variable {α : Type} {c : α → α → Int}
/-- strictly in order -/
def zaX (c : α → α → Int) (l : List α) : Prop := l.Pairwise (fun a b => c a b < 0)
theorem zaX.srt {l : List α} (h : zaX c l) : Srt c l := List.Pairwise.imp (fun h => Int.le_of_lt h) h
/-- a list with one more at a place -/
def zdW (out : List α) (k : Nat) (x : α) : List α := (((out.take k).drop 0) ++ [x]) ++ ((out.take out.length).drop k)
theorem insAt_eq (out : List α) (k : Nat) (x : α) : zdW out k x = out.take k ++ x :: out.drop k := by unfold zdW; rw [List.take_length, List.drop_zero]; simp
theorem insAt_perm (out : List α) (k : Nat) (x : α) : (zdW out k x).Perm (out ++ [x]) := by
  rw [insAt_eq]
  refine (List.perm_middle).trans ?_
  rw [List.take_append_drop]
  exact (List.perm_append_comm (l₁ := [x]) (l₂ := out))
theorem insAt_strict {out : List α} {k : Nat} {x : α} (h : zaX c out) (h1 : ∀ y ∈ out.take k, c y x < 0) (h2 : ∀ y ∈ out.drop k, c x y < 0) : zaX c (zdW out k x) := by
  rw [insAt_eq]
  have e : out.take k ++ out.drop k = out := List.take_append_drop ..
  unfold zaX at h ⊢
  rw [← e] at h
  obtain ⟨a1, a2, a3⟩ := List.pairwise_append.1 h
  refine List.pairwise_append.2 ⟨a1, List.pairwise_cons.2 ⟨h2, a2⟩, fun y hy z hz => ?_⟩
  rcases List.mem_cons.1 hz with e | e
  · rw [e]; exact h1 y hy
  · exact a3 y hy z e
theorem ins_perm (x : α) (l : List α) : (ins c x l).Perm (x :: l) := by
  have key : ∀ l : List α, (insB c x l).Perm (x :: l) := by
    intro l
    induction l with
    | nil => exact List.Perm.refl _
    | cons y r ih =>
      unfold insB
      split
      · exact (List.Perm.cons y ih).trans (List.Perm.swap x y r)
      · exact List.Perm.refl _
  unfold ins
  exact (List.reverse_perm _).trans ((key l.reverse).trans (List.Perm.cons x (List.reverse_perm l)))
theorem isort_prm (l : List α) : (zO c l).Perm l := by
  have key : ∀ (m r : List α), (m.foldl (fun r x => ins c x r) r).Perm (r ++ m) := by
    intro m
    induction m with
    | nil => intro r; simp
    | cons x m ih =>
      intro r
      refine (ih (ins c x r)).trans ?_
      refine (List.Perm.append_right m (ins_perm x r)).trans ?_
      show (x :: (r ++ m)).Perm (r ++ x :: m)
      exact List.perm_middle.symm
  have := key l []
  rw [List.nil_append] at this
  exact this
/-- in order, and of the same: the same, if alike is the same -/
theorem srt_perm (h : Cmp c) {a b : List α} (ha : Srt c a) (hb : Srt c b) (hp : a.Perm b) (anti : ∀ x ∈ a, ∀ y ∈ a, c x y = 0 → x = y) : a = b := by
  refine Srt.unique h _ _ ha hb (fun k => ?_)
  have hrep : ∀ m : List α, (∀ x ∈ m, ∀ y ∈ m, c x y = 0 → x = y) → ∀ z ∈ m.filter (eqv c k), m.filter (eqv c k) = List.replicate (m.filter (eqv c k)).length z := by
    intro m hm z hz
    rw [List.eq_replicate_iff]
    refine ⟨rfl, fun w hw => ?_⟩
    have h1 := List.mem_filter.1 hz
    have h2 := List.mem_filter.1 hw
    have e1 : c k z = 0 := by simpa [eqv] using h1.2
    have e2 : c k w = 0 := by simpa [eqv] using h2.2
    have e3 := h.neg k w
    have e4 := (h.tr w k z).e1 (by omega)
    exact hm w h2.1 z h1.1 (by omega)
  have hpf := hp.filter (eqv c k)
  have hl := hpf.length_eq
  rcases hz : a.filter (eqv c k) with _ | ⟨z, r⟩
  · rw [hz] at hl
    rw [List.eq_nil_of_length_eq_zero (l := b.filter (eqv c k)) (by rw [← hl]; rfl)]
  · rw [← hz]
    have hm : z ∈ a.filter (eqv c k) := by rw [hz]; exact List.mem_cons_self
    have hm2 : z ∈ b.filter (eqv c k) := hpf.mem_iff.1 hm
    rw [hrep a anti z hm, hrep b (fun x hx y hy => anti x (hp.mem_iff.2 hx) y (hp.mem_iff.2 hy)) z hm2, hl]
theorem zaX.anti (h : Cmp c) {l : List α} (hs : zaX c l) : ∀ x ∈ l, ∀ y ∈ l, c x y = 0 → x = y := by
  induction l with
  | nil => intro x hx; cases hx
  | cons a r ih =>
    have hs' := List.pairwise_cons.1 hs
    intro x hx y hy e
    rcases List.mem_cons.1 hx with ex | ex <;> rcases List.mem_cons.1 hy with ey | ey
    · rw [ex, ey]
    · have := hs'.1 y ey; rw [ex] at e; omega
    · have := hs'.1 x ex; have := h.neg a x; rw [ey] at e; omega
    · exact ih hs'.2 x ex y ey e
theorem strict_isort (h : Cmp c) {l m : List α} (hs : zaX c l) (hp : l.Perm m) : zO c m = l := by
  have h1 := isort_prm (c := c) m
  exact (srt_perm h hs.srt (zaE h _ m rfl).srt (hp.trans h1.symm) (hs.anti h)).symm
end

/-! ### labels -/
theorem NSrt.strict {l : List Lbl} (h : NSrt l) : zaX zG l := List.Pairwise.imp (fun {a b} h => by unfold zG or2; rw [if_pos (by omega)]; exact h) h
/-- how far tidying has come -/
structure RT (l : List Lbl) (i : Nat) (out : List Lbl) : Prop where
  ns : NSrt out
  pm : out.Perm (l.take i)
  ok : ∀ x ∈ out, okL x = true
theorem RT.zero (l : List Lbl) : RT l 0 [] := ⟨List.Pairwise.nil, by simp, fun _ h => by cases h⟩
theorem RT.len {l out : List Lbl} {i : Nat} (h : RT l i out) (hi : i ≤ l.length) : out.length = i := by rw [h.pm.length_eq, List.length_take]; omega
theorem RT.next {l out : List Lbl} {i k : Nat} {x : Lbl} (h : RT l i out) (hx : l[i]? = some x) (hok : okL x = true) (h1 : ∀ j y, j < k → out[j]? = some y → cmpS y.n x.n < 0) (h2 : k = out.length ∨ ∃ y, out[k]? = some y ∧ ¬ cmpS y.n x.n < 0 ∧ ¬ y.n = x.n) : RT l (i + 1) (zdW out k x) := by
  have hn : ∀ y z : Lbl, cmpS y.n z.n < 0 ↔ cmpS y.n z.n < 0 := fun _ _ => Iff.rfl
  refine ⟨?_, ?_, ?_⟩
  · have := insAt_strict (c := fun a b : Lbl => cmpS a.n b.n) (out := out) (k := k) (x := x) h.ns (fun y hy => ?_) (fun y hy => ?_)
    · exact this
    · obtain ⟨j, hj⟩ := List.mem_iff_getElem?.1 hy
      rw [List.getElem?_take] at hj
      split at hj
      · exact h1 j y (by assumption) hj
      · cases hj
    · rcases h2 with e | ⟨z, hz, h3, h4⟩
      · rw [e, List.drop_length] at hy; cases hy
      · have hzx : cmpS x.n z.n < 0 := by
          have e1 := zdg z.n x.n
          have e2 : cmpS z.n x.n ≠ 0 := fun e => h4 ((zbW _ _).1 e)
          omega
        rw [zaw hz] at hy
        rcases List.mem_cons.1 hy with e | e
        · rw [e]; exact hzx
        · have hs : NSrt (out.take k ++ out.drop k) := by rw [List.take_append_drop]; exact h.ns
          have h5 := (List.pairwise_append.1 hs).2.1
          rw [zaw hz] at h5
          have h6 := (List.pairwise_cons.1 h5).1 y e
          exact (cmpS_tr x.n z.n y.n).lt1 hzx (by omega)
  · refine (insAt_perm out k x).trans ?_
    rw [zak hx]
    exact List.Perm.append_right [x] h.pm
  · intro y hy
    rcases List.mem_append.1 ((insAt_perm out k x).mem_iff.1 hy) with e | e
    · exact h.ok y e
    · rw [List.mem_singleton.1 e]; exact hok
/-- tidy: few, each may be, and names all different -/
theorem tidyOk_of {l m : List Lbl} (hl : l.length ≤ 8) (hs : NSrt m) (hp : m.Perm l) (hok : ∀ x ∈ m, okL x = true) : zad l = true ∧ zO zG l = m := by
  have e := strict_isort zb0 hs.strict hp
  refine ⟨?_, e⟩
  have key : ∀ (r : List Lbl) (p : Option ByteArray), NSrt r → (∀ x ∈ r, okL x = true) → (∀ n, p = some n → ∀ x ∈ r, cmpS n x.n < 0) → zb4 p r = true := by
    intro r
    induction r with
    | nil => intro _ _ _ _; rfl
    | cons x r ih =>
      intro p h1 h2 h3
      have h1' := List.pairwise_cons.1 h1
      unfold zb4
      rw [h2 x List.mem_cons_self, ih (some x.n) h1'.2 (fun y hy => h2 y (List.mem_cons_of_mem _ hy)) (fun n hn y hy => by injection hn with hn; rw [← hn]; exact h1'.1 y hy)]
      have : ¬ p = some x.n := fun hp => by have := h3 x.n hp x List.mem_cons_self; have e0 := (zbW x.n x.n).2 rfl; omega
      simp [this]
  unfold zad zc5 zbM
  rw [e]
  simp only [zdp, List.drop_zero, Bool.and_eq_true, decide_eq_true_eq]
  exact ⟨hl, key m none hs hok (fun _ h => by cases h)⟩
theorem RT.done {l out : List Lbl} {i : Nat} (h : RT l i out) (hi : l.length ≤ i) (hl : l.length ≤ 8) : out = zS l ∧ true = zad l := by
  have hp := h.pm
  rw [List.take_of_length_le hi] at hp
  obtain ⟨e1, e2⟩ := tidyOk_of hl h.ns hp h.ok
  unfold zS; rw [e1, e2]; exact ⟨rfl, rfl⟩
theorem tidyL_no {l : List Lbl} (h : zad l = false) : [] = zS l ∧ false = zad l := by unfold zS; rw [h]; exact ⟨rfl, rfl⟩
theorem tidyOk_mem {l : List Lbl} (h : zad l = true) {x : Lbl} (hx : x ∈ l) : okL x = true := by
  have e : za6 l = 0 := by unfold za6; rw [h]; rfl
  have hm : x ∈ zS l := by unfold zS; rw [h]; exact ((zaE zb0 _ l rfl).mem zb0 x).2 hx
  exact (tidy_n e).2 x hm
theorem RT.bad1 {l : List Lbl} {i : Nat} {x : Lbl} (hx : l[i]? = some x) (h : okL x = false) : [] = zS l ∧ false = zad l := tidyL_no (by
  rcases e : zad l with _ | _
  · rfl
  · have := tidyOk_mem e (za8 hx); rw [h] at this; cases this)
theorem RT.long {l : List Lbl} (h : (8 : Int) < ((l.length : Nat) : Int)) : [] = zS l ∧ false = zad l := tidyL_no (by
  have : ¬ l.length ≤ 8 := by omega
  simp [zad, this])
theorem RT.bad2 {l out : List Lbl} {i k : Nat} {x y : Lbl} (h : RT l i out) (hx : l[i]? = some x) (hy : out[k]? = some y) (e : y.n = x.n) : [] = zS l ∧ false = zad l := tidyL_no (by
  rcases ek : zad l with _ | _
  · rfl
  · exfalso
    have e0 : za6 l = 0 := by unfold za6; rw [ek]; rfl
    have eT : zS l = zO zG l := by unfold zS; rw [ek]; rfl
    have hn := (tidy_n e0).1
    rw [eT] at hn
    have hp := isort_prm (c := zG) l
    -- the two stand at different places of l
    have hl : l = l.take i ++ (x :: l.drop (i + 1)) := by rw [← zaw hx, List.take_append_drop]
    have hyt : y ∈ l.take i := h.pm.mem_iff.1 (za8 hy)
    have hnd : (l.map (·.n)).Nodup := by
      have h1 : ((zO zG l).map (·.n)).Nodup := by
        rw [List.Nodup, List.pairwise_map]
        exact List.Pairwise.imp (fun {a b} hab e => by have := (zbW a.n b.n).2 e; omega) hn
      exact (hp.map (·.n)).nodup_iff.1 h1
    rw [hl, List.map_append, List.nodup_append] at hnd
    exact hnd.2.2 y.n (List.mem_map.2 ⟨y, hyt, rfl⟩) x.n (by simp) e)

/-! ### rows -/
def cL (a b : RowD) : Int := z1 a.ls b.ls
theorem zdt : Cmp cL := ⟨fun a b => cmpLs_neg _ _, fun a b d => zdh _ _ _⟩
def ordB (l : List RowD) : Bool := decide ((zO cL l).Pairwise (fun a b => cL a b < 0))
def ordL (l : List RowD) : List RowD := bif ordB l then zO cL l else []
def ordE (l : List RowD) : Int := bif ordB l then 0 else 6
structure RO (l : List RowD) (i : Nat) (out : List RowD) : Prop where
  st : zaX cL out
  pm : out.Perm (l.take i)
theorem RO.zero (l : List RowD) : RO l 0 [] := ⟨List.Pairwise.nil, by simp⟩
theorem RO.len {l out : List RowD} {i : Nat} (h : RO l i out) (hi : i ≤ l.length) : out.length = i := by rw [h.pm.length_eq, List.length_take]; omega
theorem RO.next {l out : List RowD} {i k : Nat} {x : RowD} (h : RO l i out) (hx : l[i]? = some x) (h1 : ∀ j y, k ≤ j → out[j]? = some y → 0 < z1 y.ls x.ls) (h2 : k = 0 ∨ ∃ y, out[k - 1]? = some y ∧ ¬ 0 < z1 y.ls x.ls ∧ ¬ z1 y.ls x.ls = 0) (hk : k ≤ out.length) : RO l (i + 1) (zdW out k x) := by
  refine ⟨insAt_strict h.st (fun y hy => ?_) (fun y hy => ?_), ?_⟩
  · rcases h2 with e | ⟨z, hz, h3, h4⟩
    · rw [e] at hy; cases hy
    · have hzx : cL z x < 0 := by unfold cL; omega
      have hk0 : 0 < k := by
        rcases Nat.eq_zero_or_pos k with e | e
        · subst e; simp at hy
        · exact e
      have e1 : out.take k = out.take (k - 1) ++ [z] := by rw [← zak hz]; congr 1; omega
      rw [e1] at hy
      rcases List.mem_append.1 hy with e | e
      · have hs : zaX cL (out.take (k - 1) ++ out.drop (k - 1)) := by rw [List.take_append_drop]; exact h.st
        have h5 := (List.pairwise_append.1 hs).2.2 y e z (by rw [zaw hz]; exact List.mem_cons_self)
        exact (zdt.tr y z x).lt1 h5 (by omega)
      · rw [List.mem_singleton.1 e]; exact hzx
  · obtain ⟨j, hj⟩ := List.mem_iff_getElem?.1 hy
    rw [List.getElem?_drop] at hj
    have := h1 (k + j) y (by omega) hj
    have e := zdt.neg y x
    unfold cL at *; omega
  · refine (insAt_perm out k x).trans ?_
    rw [zak hx]
    exact List.Perm.append_right [x] h.pm
theorem RO.done {l out : List RowD} {i : Nat} (h : RO l i out) (hi : l.length ≤ i) : out = ordL l ∧ 0 = ordE l := by
  have hp := h.pm
  rw [List.take_of_length_le hi] at hp
  have e := strict_isort zdt h.st hp
  have hb : ordB l = true := by unfold ordB; rw [e]; exact decide_eq_true h.st
  unfold ordL ordE; rw [hb, e]; exact ⟨rfl, rfl⟩
theorem ord_no {l : List RowD} (h : ordB l = false) : [] = ordL l ∧ 6 = ordE l := by unfold ordL ordE; rw [h]; exact ⟨rfl, rfl⟩
theorem RO.bad {l out : List RowD} {i k : Nat} {x y : RowD} (h : RO l i out) (hx : l[i]? = some x) (hy : out[k]? = some y) (e : z1 y.ls x.ls = 0) : [] = ordL l ∧ 6 = ordE l := ord_no (by
  rcases ek : ordB l with _ | _
  · rfl
  · exfalso
    have hst : zaX cL (zO cL l) := by unfold zaX; unfold ordB at ek; exact of_decide_eq_true ek
    have hp := isort_prm (c := cL) l
    have hl : l = l.take i ++ (x :: l.drop (i + 1)) := by rw [← zaw hx, List.take_append_drop]
    have hyt : y ∈ l.take i := h.pm.mem_iff.1 (za8 hy)
    have hnd : (l.map (·.ls)).Nodup := by
      have h1 : ((zO cL l).map (·.ls)).Nodup := by
        rw [List.Nodup, List.pairwise_map]
        exact List.Pairwise.imp (fun {a b} hab e => by unfold cL at hab; rw [e, cmpLs_self] at hab; omega) hst
      exact (hp.map (·.ls)).nodup_iff.1 h1
    rw [hl, List.map_append, List.nodup_append] at hnd
    exact hnd.2.2 y.ls (List.mem_map.2 ⟨y, hyt, rfl⟩) x.ls (by simp) (cmpLs_eq.1 e))
def valB (v : Int) : Bool := decide (-1000000000000 ≤ v) && decide (v ≤ 1000000000000)
def zbR (l : List Lbl) : Bool := zad l && decide (z1 (zS l) l = 0)
def zbq (l : List RowD) : Bool := l.all (fun r => zbR r.ls && valB r.v)
def rtL (l : List RowD) : List RowD := bif decide (l.length ≤ 2000) && zbq l then ordL l else []
def rtE (l : List RowD) : Int := bif decide (l.length ≤ 2000) && zbq l then ordE l else 1
theorem zcE {l : List RowD} (h : (2000 : Int) < ((l.length : Nat) : Int)) : [] = rtL l ∧ 1 = rtE l := by
  have : ¬ l.length ≤ 2000 := by omega
  unfold rtL rtE; rw [decide_eq_false this]; exact ⟨rfl, rfl⟩
theorem zcZ {l : List RowD} {i : Nat} {x : RowD} (hx : l[i]? = some x) (h : (zbR x.ls && valB x.v) = false) : [] = rtL l ∧ 1 = rtE l := by
  have : zbq l = false := by unfold zbq; rw [List.all_eq_false]; exact ⟨x, za8 hx, by rw [h]; simp⟩
  unfold rtL rtE; rw [this, Bool.and_false]; exact ⟨rfl, rfl⟩
theorem zdL {l : List RowD} (h1 : ¬ (2000 : Int) < ((l.length : Nat) : Int)) (h2 : zbq l = true) : ordL l = rtL l ∧ ordE l = rtE l := by
  have : l.length ≤ 2000 := by omega
  unfold rtL rtE; rw [decide_eq_true this, h2]; exact ⟨rfl, rfl⟩
theorem rt_strict {l : List RowD} (h : rtE l = 0) : zaX cL (rtL l) ∧ (rtL l).Perm l := by
  unfold rtE rtL at *
  cases hb : decide (l.length ≤ 2000) && zbq l
  · rw [hb] at h; cases h
  · rw [hb] at h
    unfold ordE at h
    simp only [cond_true] at h ⊢
    cases ho : ordB l
    · rw [ho] at h; cases h
    · unfold ordL; rw [ho]
      have hst : zaX cL (zO cL l) := by unfold zaX; unfold ordB at ho; exact of_decide_eq_true ho
      exact ⟨hst, isort_prm l⟩
/-- one more row, if it may be -/
def zbn (out : List RowD) (r : RowD) : List RowD :=
  if zad r.ls = true ∧ valB r.v = true ∧ rtE (out ++ [⟨zS r.ls, r.v⟩]) = 0 then rtL (out ++ [⟨zS r.ls, r.v⟩]) else out
def zk (l : List RowD) : List RowD := l.foldl zbn []
theorem tidyRs_snoc {l : List RowD} {k : Nat} {x : RowD} (h : l[k]? = some x) : zk (l.take (k + 1)) = zbn (zk (l.take k)) x := by
  rw [zak h]; unfold zk; rw [List.foldl_append]; rfl
structure TRs (l out : List RowD) : Prop where
  st : zaX cL out
  li : ∀ r ∈ out, zaI r.ls = true
  len : out.length ≤ l.length
theorem tidyL_light {l : List Lbl} (h : zaI l = true) : zaI (zS l) = true := by
  have h1 := tidyL_len l
  have h2 := lightL_len h
  have hm : ∀ x ∈ zS l, x.n.size ≤ 200 ∧ x.v.size ≤ 200 := fun x hx => light_sizes h x (tidyL_mem hx)
  unfold zaI
  rw [Bool.and_eq_true, List.all_eq_true]
  exact ⟨fun x hx => by have := hm x (List.mem_of_mem_take hx); simp [this], by rw [decide_eq_true_eq]; omega⟩
theorem tidyRs_trs : ∀ {l : List RowD}, (∀ r ∈ l, zaI r.ls = true) → TRs l (zk l) := by
  intro l hl
  have key : ∀ (m out : List RowD) (n : Nat), (∀ r ∈ m, zaI r.ls = true) → zaX cL out → (∀ r ∈ out, zaI r.ls = true) → out.length ≤ n → zaX cL (m.foldl zbn out) ∧ (∀ r ∈ m.foldl zbn out, zaI r.ls = true) ∧ (m.foldl zbn out).length ≤ n + m.length := by
    intro m
    induction m with
    | nil => intro out n _ h1 h2 h3; exact ⟨h1, h2, by simpa using h3⟩
    | cons x m ih =>
      intro out n hm h1 h2 h3
      have hx := hm x List.mem_cons_self
      have hm' : ∀ r ∈ m, zaI r.ls = true := fun r hr => hm r (List.mem_cons_of_mem _ hr)
      have step : zaX cL (zbn out x) ∧ (∀ r ∈ zbn out x, zaI r.ls = true) ∧ (zbn out x).length ≤ n + 1 := by
        unfold zbn
        split
        · rename_i hc
          obtain ⟨s1, s2⟩ := rt_strict hc.2.2
          refine ⟨s1, fun r hr => ?_, by rw [s2.length_eq]; simp; omega⟩
          rcases List.mem_append.1 (s2.mem_iff.1 hr) with e | e
          · exact h2 r e
          · rw [List.mem_singleton.1 e]; exact tidyL_light hx
        · exact ⟨h1, h2, by omega⟩
      have := ih (zbn out x) (n + 1) hm' step.1 step.2.1 step.2.2
      refine ⟨this.1, this.2.1, ?_⟩
      have := this.2.2; simp only [List.foldl_cons, List.length_cons]; omega
  have := key l [] 0 hl List.Pairwise.nil (fun _ h => by cases h) (Nat.le_refl _)
  exact ⟨this.1, this.2.1, by have := this.2.2; unfold zk; omega⟩
theorem rowsB_snoc {l : List RowD} {k : Nat} {x : RowD} (hx : l[k]? = some x) (h : zbq (l.take k) = true) (hr : zbR x.ls = true) (hv : valB x.v = true) : zbq (l.take (k + 1)) = true := by
  unfold zbq at *; exact zbF hx h (by simp [hr, hv])
theorem light_nz {l : List Lbl} (h : zaI l = true) : ∀ x ∈ l, x.n.size ≤ 1000000 := fun x hx => by have := light_sizes h x hx; omega
theorem trStep_no {out : List RowD} {r : RowD} (h : zad r.ls = false ∨ valB r.v = false) : zbn out r = out := by
  unfold zbn; rw [if_neg]; rintro ⟨h1, h2, _⟩; rcases h with h | h
  · rw [h] at h1; cases h1
  · rw [h] at h2; cases h2
theorem trStep_t {out : List RowD} {r : RowD} (h1 : zad r.ls = true) (h2 : valB r.v = true) (h3 : rtE (out ++ [⟨zS r.ls, r.v⟩]) = 0) : zbn out r = rtL (out ++ [⟨zS r.ls, r.v⟩]) := by unfold zbn; rw [if_pos ⟨h1, h2, h3⟩]
theorem trStep_f {out : List RowD} {r : RowD} (h3 : ¬ rtE (out ++ [⟨zS r.ls, r.v⟩]) = 0) : zbn out r = out := by unfold zbn; rw [if_neg (fun h => h3 h.2.2)]
theorem trs_take {l : List RowD} (h : ∀ r ∈ l, zaI r.ls = true) (k : Nat) : TRs (l.take k) (zk (l.take k)) := tidyRs_trs (fun r hr => h r (List.mem_of_mem_take hr))
end Lp
/-
  Vectors (chapter 10): rows under labels, and what is reckoned with them, as plain data.
-/
set_option linter.unusedVariables false
namespace Lp
open Go
theorem tidyOk_E (l : List Lbl) : decide (za6 l = 0) = zad l := by
  unfold za6; cases zad l <;> rfl
theorem rightB_eq (l : List Lbl) : (decide (za6 l = 0) && decide (z1 (zS l) l = 0)) = zbR l := by
  unfold zbR; rw [tidyOk_E]
def zbi (r : RowD) : Bool := zbR r.ls && zaV r.v
theorem rowsB_ok (l : List RowD) : zbq l = l.all zbi := rfl
theorem okRow_len {r : RowD} (h : zbi r = true) : r.ls.length ≤ 8 := by
  unfold zbi zbR at h
  simp only [Bool.and_eq_true] at h
  exact tidy_ok_len h.1.1
def zdo (l : List RowD) : Nat → Option RowD
  | 0 => none
  | k + 1 => l[k]?
def ltP (p : Option RowD) (x : RowD) : Bool := match p with
  | none => true
  | some q => decide (cL q x < 0)
def ascB : Option RowD → List RowD → Bool
  | _, [] => true
  | p, r :: l => zbi r && (ltP p r && ascB (some r) l)
def zbE (l : List RowD) (k : Nat) : Bool := ascB (zdo l k) (l.drop k)
def z0 (l : List RowD) : Bool := decide (l.length ≤ 2000) && zbE l 0
theorem ascAt_next {l : List RowD} {k : Nat} {x : RowD} (h : l[k]? = some x) : zbE l k = (zbi x && (ltP (zdo l k) x && zbE l (k + 1))) := by
  unfold zbE
  rw [drop_at h]
  show (zbi x && (ltP (zdo l k) x && ascB (some x) (l.drop (k + 1)))) = _
  rw [show zdo l (k + 1) = some x from h]
theorem ascAt_end {l : List RowD} {k : Nat} (h : l.length ≤ k) : zbE l k = true := by
  unfold zbE; rw [List.drop_eq_nil_iff.2 h]; rfl
theorem prevR_pos {l : List RowD} {k : Nat} {y : RowD} (h : (0 : Int) < ((k : Nat) : Int)) (hy : l[k - 1]? = some y) : zdo l k = some y := by
  cases k with
  | zero => simp at h
  | succ k => simpa [zdo] using hy
theorem prevR_zero {l : List RowD} {k : Nat} (h : ¬ (0 : Int) < ((k : Nat) : Int)) : zdo l k = none := by
  have : k = 0 := by omega
  subst this; rfl
section
variable {l : List RowD} {k : Nat} {x : RowD}
theorem vr_long (h : (2000 : Int) < ((l.length : Nat) : Int)) : false = z0 l := by
  have : ¬ l.length ≤ 2000 := by omega
  simp [z0, this]
theorem vr_bad1 (hk : zbE l 0 = zbE l k) (hx : l[k]? = some x) (h : zbi x = false) : false = z0 l := by simp [z0, hk, ascAt_next hx, h]
theorem vr_bad2 (hk : zbE l 0 = zbE l k) (hx : l[k]? = some x) {y : RowD} (h : zdo l k = some y) (hn : 0 ≤ z1 y.ls x.ls) : false = z0 l := by
  have : ¬ cL y x < 0 := by unfold cL; omega
  simp [z0, hk, ascAt_next hx, h, ltP, this]
theorem vr_good (hk : zbE l 0 = zbE l k) (hx : l.length ≤ k) (h : ¬ (2000 : Int) < ((l.length : Nat) : Int)) : true = z0 l := by
  have : l.length ≤ 2000 := by omega
  simp [z0, hk, ascAt_end hx, this]
theorem vr_step0 (hk : zbE l 0 = zbE l k) (hx : l[k]? = some x) (h : zbi x = true) (hp : zdo l k = none) : zbE l 0 = zbE l (k + 1) := by rw [hk, ascAt_next hx, h, hp]; rfl
theorem vr_step (hk : zbE l 0 = zbE l k) (hx : l[k]? = some x) (h : zbi x = true) {y : RowD} (hp : zdo l k = some y) (hn : ¬ 0 ≤ z1 y.ls x.ls) : zbE l 0 = zbE l (k + 1) := by
  have : cL y x < 0 := by unfold cL; omega
  rw [hk, ascAt_next hx, h, hp]; simp [ltP, this]
end
theorem ascB_iff : ∀ (l : List RowD) (p : Option RowD), ascB p l = true ↔ (∀ r ∈ l, zbi r = true) ∧ zaX cL l ∧ (∀ q, p = some q → ∀ r ∈ l, cL q r < 0)
  | [], p => by
    constructor
    · intro _; exact ⟨fun _ h => (by cases h), List.Pairwise.nil, fun _ _ _ h => (by cases h)⟩
    · intro _; rfl
  | r :: l, p => by
    show (zbi r && (ltP p r && ascB (some r) l)) = true ↔ _
    rw [Bool.and_eq_true, Bool.and_eq_true, ascB_iff l (some r)]
    constructor
    · rintro ⟨h1, h2, h3, h4, h5⟩
      refine ⟨fun y hy => ?_, List.pairwise_cons.2 ⟨fun y hy => h5 r rfl y hy, h4⟩, fun q hq y hy => ?_⟩
      · rcases List.mem_cons.1 hy with e | e
        · rw [e]; exact h1
        · exact h3 y e
      · subst hq
        have hqr : cL q r < 0 := of_decide_eq_true h2
        rcases List.mem_cons.1 hy with e | e
        · rw [e]; exact hqr
        · exact (zdt.tr q r y).lt1 hqr (by have := h5 r rfl y e; omega)
    · rintro ⟨h1, h2, h3⟩
      have h2' := List.pairwise_cons.1 h2
      refine ⟨h1 r List.mem_cons_self, ?_, fun y hy => h1 y (List.mem_cons_of_mem _ hy), h2'.2, fun q hq y hy => by injection hq with hq; subst hq; exact h2'.1 y hy⟩
      cases p with
      | none => rfl
      | some q => exact decide_eq_true (h3 q rfl r List.mem_cons_self)
theorem zbm {l : List RowD} : z0 l = true ↔ l.length ≤ 2000 ∧ zbq l = true ∧ zaX cL l := by
  unfold z0
  rw [Bool.and_eq_true, decide_eq_true_eq, rowsB_ok, List.all_eq_true]
  show _ ∧ ascB none l = true ↔ _
  rw [ascB_iff]
  constructor
  · rintro ⟨h1, h2, h3, _⟩; exact ⟨h1, h2, h3⟩
  · rintro ⟨h1, h2, h3⟩; exact ⟨h1, h2, h3, fun _ h => (by cases h)⟩

/-! ### tidy -/
theorem cmpRow0 : zI 0 = cL := by funext a b; rfl
/-- how far the look for twins has come -/
def zc2 (s : List RowD) (i : Nat) : Prop := ∀ j x y, j + 1 < i → s[j]? = some x → s[j + 1]? = some y → cL x y ≠ 0
theorem zc2.one (s : List RowD) : zc2 s 1 := fun j x y h => by omega
theorem zc2.next {s : List RowD} {i : Nat} {x y : RowD} (h : zc2 s i) (hi : 1 ≤ i) (hx : s[i - 1]? = some x) (hy : s[i]? = some y) (hn : ¬ z1 x.ls y.ls = 0) : zc2 s (i + 1) := fun j a b hj ha hb => by
  rcases Nat.lt_or_ge (j + 1) i with e | e
  · exact h j a b e ha hb
  · have : j + 1 = i := by omega
    subst this
    simp only [Nat.add_sub_cancel] at hx
    rw [ha] at hx; rw [hb] at hy; injection hx with hx; injection hy with hy; subst hx; subst hy; exact hn
theorem strict_of {s : List RowD} (h : Srt cL s) (hn : zc2 s s.length) : zaX cL s := by
  induction s with
  | nil => exact List.Pairwise.nil
  | cons x r ih =>
    have h' := List.pairwise_cons.1 h
    have hr : zaX cL r := ih h'.2 (fun j a b hj ha hb => hn (j + 1) a b (by simp; omega) (by simpa using ha) (by simpa using hb))
    refine List.pairwise_cons.2 ⟨fun y hy => ?_, hr⟩
    cases r with
    | nil => cases hy
    | cons z r =>
      have e1 : cL x z ≤ 0 := h'.1 z List.mem_cons_self
      have e2 : cL x z ≠ 0 := hn 0 x z (by simp) rfl rfl
      rcases List.mem_cons.1 hy with e | e
      · rw [e]; omega
      · exact (zdt.tr x z y).lt1 (by omega) (by have := (List.pairwise_cons.1 hr).1 y e; omega)
section
variable {l : List RowD} {i : Nat} {x y : RowD}
theorem td_rows {n : Nat} (h : zbq (l.take n) = true) (hn : l.length ≤ n) : zbq l = true := by rwa [List.take_of_length_le hn] at h
theorem td_twin (h1 : ¬ (2000 : Int) < ((l.length : Nat) : Int)) (h2 : zbq l = true) (hi : 1 ≤ i) (hx : (zO (zI 0) l)[i - 1]? = some x) (hy : (zO (zI 0) l)[i]? = some y) (e : z1 x.ls y.ls = 0) : [] = rtL l ∧ 6 = rtE l := by
  have hb : ordB l = false := by
    rcases ek : ordB l with _ | _
    · rfl
    · exfalso
      have hst : (zO cL l).Pairwise (fun a b => cL a b < 0) := by unfold ordB at ek; exact of_decide_eq_true ek
      rw [← cmpRow0] at hst
      obtain ⟨p1, q1⟩ := List.getElem?_eq_some_iff.1 hx
      obtain ⟨p2, q2⟩ := List.getElem?_eq_some_iff.1 hy
      have := List.pairwise_iff_getElem.1 hst (i - 1) i p1 p2 (by omega)
      rw [q1, q2] at this
      have e' : zI 0 x y = z1 x.ls y.ls := rfl
      omega
  obtain ⟨a, b⟩ := zdL h1 h2
  obtain ⟨c, d⟩ := ord_no hb
  exact ⟨c.trans a, d.trans b⟩
theorem td_good (h1 : ¬ (2000 : Int) < ((l.length : Nat) : Int)) (h2 : zbq l = true) (hn : zc2 (zO (zI 0) l) i) (hi : (zO (zI 0) l).length ≤ i) : zO (zI 0) l = rtL l ∧ 0 = rtE l := by
  have hst : zaX cL (zO cL l) := by
    rw [cmpRow0] at hn hi
    exact strict_of (zaE zdt _ l rfl).srt (fun j a b hj ha hb => hn j a b (by omega) ha hb)
  have hb : ordB l = true := by unfold ordB; exact decide_eq_true hst
  obtain ⟨a, b⟩ := zdL h1 h2
  rw [← a, ← b]
  unfold ordL ordE; rw [hb, cmpRow0]; exact ⟨rfl, rfl⟩
end
theorem rowsB_snoc' {l : List RowD} {k : Nat} {x : RowD} (hx : l[k]? = some x) (h : zbq (l.take k) = true) (hr : zbi x = true) : zbq (l.take (k + 1)) = true := by
  rw [rowsB_ok] at *; exact zbF hx h hr
theorem rt_bad' {l : List RowD} {i : Nat} {x : RowD} (hx : l[i]? = some x) (h : zbi x = false) : [] = rtL l ∧ 1 = rtE l := zcZ hx h

/-! ### keys, ops -/
def metB : ByteArray := ⟨#[109, 101, 116, 114, 105, 99]⟩
def keyL (mode : Int) (ns : List ByteArray) (l : List Lbl) : List Lbl :=
  if mode = 1 then za1 l ns true else if mode = 2 then za1 (za1 l ns false) [metB] false else za1 l [metB] false
theorem keyL_len (mode : Int) (ns : List ByteArray) (l : List Lbl) : (keyL mode ns l).length ≤ l.length := by
  unfold keyL
  split
  · exact zbZ _ _ _
  · split
    · exact Nat.le_trans (zbZ _ _ _) (zbZ _ _ _)
    · exact zbZ _ _ _
theorem pickL_mem {l : List Lbl} {ns : List ByteArray} {w : Bool} {x : Lbl} (h : x ∈ za1 l ns w) : x ∈ l := (List.mem_filter.1 h).1
theorem keyL_mem {mode : Int} {ns : List ByteArray} {l : List Lbl} {x : Lbl} (h : x ∈ keyL mode ns l) : x ∈ l := by
  unfold keyL at h
  split at h
  · exact pickL_mem h
  · split at h
    · exact pickL_mem (pickL_mem h)
    · exact pickL_mem h
/-- rows whose labels are few and short enough to be put in words -/
def LZ (l : List RowD) : Prop := ∀ r ∈ l, r.ls.length ≤ 1000 ∧ ∀ x ∈ r.ls, x.n.size ≤ 100000 ∧ x.v.size ≤ 100000
theorem LZ.key {l : List RowD} (h : LZ l) {r : RowD} (hr : r ∈ l) (mode : Int) (ns : List ByteArray) : (keyL mode ns r.ls).length ≤ 1000 ∧ ∀ x ∈ keyL mode ns r.ls, x.n.size ≤ 100000 ∧ x.v.size ≤ 100000 :=
  ⟨Nat.le_trans (keyL_len _ _ _) (h r hr).1, fun x hx => (h r hr).2 x (keyL_mem hx)⟩
theorem light_LZ {l : List RowD} (h : ∀ r ∈ l, zaI r.ls = true) : LZ l := fun r hr =>
  ⟨by have := lightL_len (h r hr); omega, fun x hx => by have := light_sizes (h r hr) x hx; omega⟩
def opB (op : ByteArray) : Bool := decide ((doE op 1 1).2 = 0)
/-- the first error, if there is one -/
def zaG (f : RowD → Int × Int) : List RowD → Int
  | [] => 0
  | r :: l => if (f r).2 ≠ 0 then (f r).2 else zaG f l
section
variable {f : RowD → Int × Int} {l : List RowD} {k : Nat} {x : RowD}
theorem firstE_app (f : RowD → Int × Int) (a b : List RowD) (h : zaG f a = 0) : zaG f (a ++ b) = zaG f b := by
  induction a with
  | nil => rfl
  | cons y r ih =>
    unfold zaG at h
    split at h
    · contradiction
    · show (if _ then _ else zaG f (r ++ b)) = _
      rw [if_neg (by assumption)]; exact ih h
theorem za5 (hx : l[k]? = some x) (h : zaG f (l.take k) = 0) (e : (f x).2 = 0) : zaG f (l.take (k + 1)) = 0 := by
  rw [zak hx, firstE_app f _ _ h]; unfold zaG; rw [if_neg (by omega)]; rfl
theorem firstE_at (hx : l[k]? = some x) (h : zaG f (l.take k) = 0) (e : ¬ (f x).2 = 0) : zaG f l = (f x).2 := by
  have : l = l.take k ++ x :: l.drop (k + 1) := by rw [← zaw hx, List.take_append_drop]
  rw [this, firstE_app f _ _ h]; unfold zaG; rw [if_pos e]
theorem firstE_0 : zaG f l = 0 ↔ ∀ r ∈ l, (f r).2 = 0 := by
  induction l with
  | nil => constructor; (intro _ r hr; cases hr); (intro _; rfl)
  | cons y r ih =>
    unfold zaG
    constructor
    · intro h
      split at h
      · contradiction
      · intro z hz
        rcases List.mem_cons.1 hz with e | e
        · rw [e]; omega
        · exact ih.1 h z e
    · intro h
      rw [if_neg (by have := h y List.mem_cons_self; omega)]
      exact ih.2 (fun z hz => h z (List.mem_cons_of_mem _ hz))
end
/-! ### each number and one more -/
def scF (op : ByteArray) (v : Int) (left : Bool) (r : RowD) : Int × Int := if left = true then doE op v r.v else doE op r.v v
def zcI (op : ByteArray) (v : Int) (left : Bool) (r : RowD) : Option RowD :=
  if cmpB op = true then (if (scF op v left r).1 = 1 then some r else none) else some ⟨keyL 0 [] r.ls, (scF op v left r).1⟩
def zcq (op : ByteArray) (v : Int) (left : Bool) (l : List RowD) : List RowD := l.filterMap (zcI op v left)
def zbv (op : ByteArray) (v : Int) (l : List RowD) : Bool := opB op && (z0 l && zaV v)
def zK (op : ByteArray) (l : List RowD) (v : Int) (left : Bool) : List RowD :=
  if zbv op v l = true then (if zaG (scF op v left) l = 0 then rtL (zcq op v left l) else []) else []
def zaR (op : ByteArray) (l : List RowD) (v : Int) (left : Bool) : Int :=
  if zbv op v l = true then (if zaG (scF op v left) l = 0 then rtE (zcq op v left l) else zaG (scF op v left) l) else 1
section
variable {op : ByteArray} {v : Int} {left : Bool} {l : List RowD} {k : Nat} {x : RowD}
theorem scOut_add {y : RowD} (hx : l[k]? = some x) (h : zcI op v left x = some y) : zcq op v left (l.take (k + 1)) = zcq op v left (l.take k) ++ [y] := by
  rw [zak hx]; unfold zcq; rw [List.filterMap_append]; simp [h]
theorem scOut_not (hx : l[k]? = some x) (h : zcI op v left x = none) : zcq op v left (l.take (k + 1)) = zcq op v left (l.take k) := by
  rw [zak hx]; unfold zcq; rw [List.filterMap_append]; simp [h]
theorem scOut_len (op : ByteArray) (v : Int) (left : Bool) (l : List RowD) : (zcq op v left l).length ≤ l.length := List.length_filterMap_le _ _
theorem zdz (h : zbv op v l = false) : [] = zK op l v left ∧ 1 = zaR op l v left := by unfold zK zaR; rw [if_neg (by rw [h]; decide), if_neg (by rw [h]; decide)]; exact ⟨rfl, rfl⟩
theorem zcc (h : zbv op v l = true) (hx : l[k]? = some x) (h0 : zaG (scF op v left) (l.take k) = 0) (e : ¬ (scF op v left x).2 = 0) : [] = zK op l v left ∧ (scF op v left x).2 = zaR op l v left := by
  unfold zK zaR; rw [if_pos h, if_pos h, firstE_at hx h0 e, if_neg e, if_neg e]; exact ⟨rfl, rfl⟩
theorem sc_ok (h : zbv op v l = true) (h0 : zaG (scF op v left) (l.take k) = 0) (hk : l.length ≤ k) : rtL (zcq op v left (l.take k)) = zK op l v left ∧ rtE (zcq op v left (l.take k)) = zaR op l v left := by
  rw [List.take_of_length_le hk] at *
  unfold zK zaR; rw [if_pos h, if_pos h, if_pos h0, if_pos h0]; exact ⟨rfl, rfl⟩
end
/-! ### rows that have the same key -/
def keyT (mode : Int) (ns : List ByteArray) (r : RowD) : ByteArray := zcB (keyL mode ns r.ls)
def zaa (mode : Int) (ns : List ByteArray) (l : List RowD) : List ByteArray := l.map (keyT mode ns)
def ndT (mode : Int) (ns : List ByteArray) (l : List RowD) : Prop := (zaa mode ns l).Nodup
instance (mode : Int) (ns : List ByteArray) (l : List RowD) : Decidable (ndT mode ns l) := inferInstanceAs (Decidable (List.Nodup _))
theorem keyTs_snoc {mode : Int} {ns : List ByteArray} {l : List RowD} {k : Nat} {x : RowD} (hx : l[k]? = some x) : zaa mode ns (l.take (k + 1)) = zaa mode ns (l.take k) ++ [keyT mode ns x] := by
  rw [zak hx]; unfold zaa; rw [List.map_append]; rfl
theorem ndT_bad {mode : Int} {ns : List ByteArray} {l : List RowD} {k : Nat} {x : RowD} (hx : l[k]? = some x) (h : keyT mode ns x ∈ zaa mode ns (l.take k)) : ¬ ndT mode ns l := by
  intro hn
  have : l = l.take (k + 1) ++ l.drop (k + 1) := (List.take_append_drop _ _).symm
  unfold ndT at hn
  rw [this] at hn
  unfold zaa at hn h
  rw [List.map_append, List.nodup_append] at hn
  have h1 := hn.1
  rw [zak hx, List.map_append, List.nodup_append] at h1
  exact h1.2.2 _ h _ (by simp) rfl
theorem nd_snoc {t : ByteArray} {ks : List ByteArray} (h : ks.Nodup) (hn : t ∉ ks) : (ks ++ [t]).Nodup := by
  rw [List.nodup_append]
  exact ⟨h, by simp, fun a ha b hb e => hn (by simp at hb; rw [← hb, ← e]; exact ha)⟩
/-- the row of a key's text -/
def zcj (mode : Int) (ns : List ByteArray) (t : ByteArray) (b : List RowD) : Option RowD := b.find? (fun q => decide (keyT mode ns q = t))
theorem findT_none {mode : Int} {ns : List ByteArray} {t : ByteArray} {b : List RowD} (h : t ∉ zaa mode ns b) : zcj mode ns t b = none := by
  unfold zcj
  rw [List.find?_eq_none]
  intro q hq e
  exact h (List.mem_map.2 ⟨q, hq, of_decide_eq_true e⟩)
theorem findT_some {mode : Int} {ns : List ByteArray} {t : ByteArray} {b : List RowD} (h : t ∈ zaa mode ns b) : ∃ (j : Nat) (q : RowD), (zaa mode ns b)[j]? = some t ∧ b[j]? = some q ∧ zcj mode ns t b = some q ∧ keyT mode ns q = t := by
  induction b with
  | nil => cases h
  | cons y r ih =>
    by_cases e : keyT mode ns y = t
    · exact ⟨0, y, by simp [zaa, e], rfl, by unfold zcj; rw [List.find?_cons_of_pos (by simp [e])], e⟩
    · have : t ∈ zaa mode ns r := by
        rcases List.mem_cons.1 (show t ∈ keyT mode ns y :: zaa mode ns r from h) with h | h
        · exact absurd h.symm e
        · exact h
      obtain ⟨j, q, h1, h2, h3, h4⟩ := ih this
      refine ⟨j + 1, q, by simpa [zaa] using h1, by simpa using h2, ?_, h4⟩
      unfold zcj at *
      rw [List.find?_cons_of_neg (by simp [e])]; exact h3
def maF (op : ByteArray) (mode : Int) (ns : List ByteArray) (b : List RowD) (r : RowD) : Int × Int := match zcj mode ns (keyT mode ns r) b with
  | none => (0, 0)
  | some q => doE op r.v q.v
def zcw (op : ByteArray) (mode : Int) (ns : List ByteArray) (b : List RowD) (r : RowD) : Option RowD := match zcj mode ns (keyT mode ns r) b with
  | none => none
  | some q => if cmpB op = true then (if (doE op r.v q.v).1 = 1 then some r else none) else some ⟨keyL mode ns r.ls, (doE op r.v q.v).1⟩
def zb8 (op : ByteArray) (mode : Int) (ns : List ByteArray) (b a : List RowD) : List RowD := a.filterMap (zcw op mode ns b)
def zbw (op : ByteArray) (a b : List RowD) : Bool := opB op && (z0 a && z0 b)
def zE (op : ByteArray) (a b : List RowD) (mode : Int) (ns : List ByteArray) : List RowD :=
  if zbw op a b = true then (if ndT mode ns a ∧ ndT mode ns b then (if zaG (maF op mode ns b) a = 0 then rtL (zb8 op mode ns b a) else []) else []) else []
def zaF (op : ByteArray) (a b : List RowD) (mode : Int) (ns : List ByteArray) : Int :=
  if zbw op a b = true then (if ndT mode ns a ∧ ndT mode ns b then (if zaG (maF op mode ns b) a = 0 then rtE (zb8 op mode ns b a) else zaG (maF op mode ns b) a) else 6) else 1
section
variable {op : ByteArray} {mode : Int} {ns : List ByteArray} {a b : List RowD} {k : Nat} {x : RowD}
theorem maOut_add {y : RowD} (hx : a[k]? = some x) (h : zcw op mode ns b x = some y) : zb8 op mode ns b (a.take (k + 1)) = zb8 op mode ns b (a.take k) ++ [y] := by
  rw [zak hx]; unfold zb8; rw [List.filterMap_append]; simp [h]
theorem maOut_not (hx : a[k]? = some x) (h : zcw op mode ns b x = none) : zb8 op mode ns b (a.take (k + 1)) = zb8 op mode ns b (a.take k) := by
  rw [zak hx]; unfold zb8; rw [List.filterMap_append]; simp [h]
theorem maOut_len (op : ByteArray) (mode : Int) (ns : List ByteArray) (b a : List RowD) : (zb8 op mode ns b a).length ≤ a.length := List.length_filterMap_le _ _
theorem zdB (h : zbw op a b = false) : [] = zE op a b mode ns ∧ 1 = zaF op a b mode ns := by unfold zE zaF; rw [if_neg (by rw [h]; decide), if_neg (by rw [h]; decide)]; exact ⟨rfl, rfl⟩
theorem zaW (h : zbw op a b = true) (hn : ¬ (ndT mode ns a ∧ ndT mode ns b)) : [] = zE op a b mode ns ∧ 6 = zaF op a b mode ns := by
  unfold zE zaF; rw [if_pos h, if_pos h, if_neg hn, if_neg hn]; exact ⟨rfl, rfl⟩
theorem zdA (h : zbw op a b = true) (hn : ndT mode ns a ∧ ndT mode ns b) (hx : a[k]? = some x) (h0 : zaG (maF op mode ns b) (a.take k) = 0) (e : ¬ (maF op mode ns b x).2 = 0) : [] = zE op a b mode ns ∧ (maF op mode ns b x).2 = zaF op a b mode ns := by
  unfold zE zaF; rw [if_pos h, if_pos h, if_pos hn, if_pos hn, firstE_at hx h0 e, if_neg e, if_neg e]; exact ⟨rfl, rfl⟩
theorem ma_ok (h : zbw op a b = true) (hn : ndT mode ns a ∧ ndT mode ns b) (h0 : zaG (maF op mode ns b) (a.take k) = 0) (hk : a.length ≤ k) : rtL (zb8 op mode ns b (a.take k)) = zE op a b mode ns ∧ rtE (zb8 op mode ns b (a.take k)) = zaF op a b mode ns := by
  rw [List.take_of_length_le hk] at *
  unfold zE zaF; rw [if_pos h, if_pos h, if_pos hn, if_pos hn, if_pos h0, if_pos h0]; exact ⟨rfl, rfl⟩
theorem maF_none (h : keyT mode ns x ∉ zaa mode ns b) : maF op mode ns b x = (0, 0) ∧ zcw op mode ns b x = none := by unfold maF zcw; rw [findT_none h]; exact ⟨rfl, rfl⟩
theorem zaU {q : RowD} (h : zcj mode ns (keyT mode ns x) b = some q) : maF op mode ns b x = doE op x.v q.v := by unfold maF; rw [h]
theorem maOne_cmp {q : RowD} (h : zcj mode ns (keyT mode ns x) b = some q) (h1 : cmpB op = true) (h2 : (doE op x.v q.v).1 = 1) : zcw op mode ns b x = some x := by unfold zcw; rw [h]; simp [h1, h2]
theorem maOne_no {q : RowD} (h : zcj mode ns (keyT mode ns x) b = some q) (h1 : cmpB op = true) (h2 : ¬ (doE op x.v q.v).1 = 1) : zcw op mode ns b x = none := by unfold zcw; rw [h]; simp [h1, h2]
theorem maOne_op {q : RowD} (h : zcj mode ns (keyT mode ns x) b = some q) (h1 : cmpB op = false) : zcw op mode ns b x = some ⟨keyL mode ns x.ls, (doE op x.v q.v).1⟩ := by unfold zcw; rw [h]; simp [h1]
end
end Lp
