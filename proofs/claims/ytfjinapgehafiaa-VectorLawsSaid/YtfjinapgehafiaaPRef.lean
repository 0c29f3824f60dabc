/-
  Texts of labels, as plain data: zaK as bytes, quotation marks, joining.
-/
import Derived.Test.YtfjinapgehafiaaV60
set_option linter.unusedVariables false
namespace Lp
open Go

/-- a rune as bytes -/
def encR (x : Nat) : List UInt8 :=
  if x ≤ 127 then [UInt8.ofNat (x % 256)]
  else if x ≤ 2047 then [UInt8.ofNat (192 + x / 64 % 256), UInt8.ofNat (128 + x % 256 % 64)]
  else if x < 55296 ∨ (57343 < x ∧ x ≤ 65535) then [UInt8.ofNat (224 + x / 4096 % 256), UInt8.ofNat (128 + x / 64 % 256 % 64), UInt8.ofNat (128 + x % 256 % 64)]
  else if 65535 < x ∧ x ≤ 1114111 then [UInt8.ofNat (240 + x / 262144 % 256), UInt8.ofNat (128 + x / 4096 % 256 % 64), UInt8.ofNat (128 + x / 64 % 256 % 64), UInt8.ofNat (128 + x % 256 % 64)]
  else [239, 191, 189]
theorem zc6 (x : Nat) : (encR x).length ≤ 4 := by unfold encR; (repeat' split) <;> simp
def hasP (a b : ByteArray) : Bool := decide (b.size ≤ a.size) && decide (a.extract 0 b.size = b)
def wide : ByteArray := ⟨#[239, 191, 189]⟩
def hexd : ByteArray := ⟨#[48, 49, 50, 51, 52, 53, 54, 55, 56, 57, 97, 98, 99, 100, 101, 102]⟩
def hexB (n : Nat) : UInt8 := hexd[n]?.getD 0
def zdy (s : ByteArray) (p : Nat) : Nat := (s[p]?.getD 0).toNat
/-- what a rune becomes between quotation marks -/
def zcq (s : ByteArray) (p : Nat) : List UInt8 :=
  if decR s p = 34 ∨ decR s p = 92 then 92 :: encR (decR s p)
  else if decR s p = 10 then [92, 110]
  else if decR s p = 65533 ∧ hasP (s.extract p s.size) wide = false then [92, 120, hexB (zdy s p / 16), hexB (zdy s p % 16)]
  else encR (decR s p)
theorem piece_len (s : ByteArray) (p : Nat) : (zcq s p).length ≤ 5 := by
  have := zc6 (decR s p)
  unfold zcq
  (repeat' split) <;> simp <;> omega
def za6 (s : ByteArray) (p : Nat) : List UInt8 := if h : p < s.size then zcq s p ++ za6 s (p + decW s p) else []
termination_by s.size - p
decreasing_by have := zaw s p; omega
theorem zbr {s : ByteArray} {p : Nat} (h : p < s.size) : za6 s p = zcq s p ++ za6 s (p + decW s p) := by
  conv => lhs; unfold za6
  rw [dif_pos h]
theorem zcb {s : ByteArray} {p : Nat} (h : s.size ≤ p) : za6 s p = [] := by
  unfold za6; rw [dif_neg (by omega)]
def quoteL (s : ByteArray) : List UInt8 := 34 :: (za6 s 0 ++ [34])
def zca (s : ByteArray) : ByteArray := ⟨(quoteL s).toArray⟩
/-- texts, something between them -/
def zbJ (sep : ByteArray) : List ByteArray → List UInt8
  | [] => []
  | [x] => x.data.toList
  | x :: y :: r => x.data.toList ++ sep.data.toList ++ zbJ sep (y :: r)
def zdM (sep : ByteArray) (l : List ByteArray) : ByteArray := ⟨(zbJ sep l).toArray⟩
def zcY (x : Lbl) : ByteArray := x.n ++ (⟨#[61]⟩ : ByteArray) ++ zca x.v
def zbS (l : List Lbl) : ByteArray := (⟨#[123]⟩ : ByteArray) ++ zdM ⟨#[44]⟩ (l.map zcY) ++ (⟨#[125]⟩ : ByteArray)

theorem piece_1 {s : ByteArray} {p : Nat} (h : decR s p = 34 ∨ decR s p = 92) : zcq s p = [92] ++ encR (decR s p) := by unfold zcq; rw [if_pos h]; rfl
theorem piece_2 {s : ByteArray} {p : Nat} (h : ¬ (decR s p = 34 ∨ decR s p = 92)) (h2 : decR s p = 10) : zcq s p = [92, 110] := by unfold zcq; rw [if_neg h, if_pos h2]
theorem piece_3 {s : ByteArray} {p : Nat} (h : ¬ (decR s p = 34 ∨ decR s p = 92)) (h2 : ¬ decR s p = 10) (h3 : decR s p = 65533 ∧ hasP (s.extract p s.size) wide = false) : zcq s p = [92, 120, hexB (zdy s p / 16), hexB (zdy s p % 16)] := by unfold zcq; rw [if_neg h, if_neg h2, if_pos h3]
theorem piece_4 {s : ByteArray} {p : Nat} (h : ¬ (decR s p = 34 ∨ decR s p = 92)) (h2 : ¬ decR s p = 10) (h3 : ¬ (decR s p = 65533 ∧ hasP (s.extract p s.size) wide = false)) : zcq s p = encR (decR s p) := by unfold zcq; rw [if_neg h, if_neg h2, if_neg h3]
theorem hexB_at {n : Nat} {u : UInt8} (h : hexd[n]? = some u) : u = hexB n := by unfold hexB; rw [h]; rfl
theorem byteAt_at {s : ByteArray} {p : Nat} {u : UInt8} (h : s[p]? = some u) : u.toNat = zdy s p := by unfold zdy; rw [h]; rfl
def za9 (l : List ByteArray) : Nat := (l.map ByteArray.size).sum
theorem zb7 {l : List ByteArray} {k : Nat} {x : ByteArray} (h : l[k]? = some x) : za9 (l.take (k + 1)) = za9 (l.take k) + x.size := by
  rw [zak h]; simp [za9]
theorem zdj (l : List ByteArray) (k : Nat) : za9 (l.take k) ≤ za9 l := by
  conv => rhs; rw [← List.take_append_drop k l]
  unfold za9; rw [List.map_append, List.sum_append]; omega
theorem joinL_snoc (sep : ByteArray) : ∀ (l : List ByteArray) (x : ByteArray), l ≠ [] → zbJ sep (l ++ [x]) = zbJ sep l ++ sep.data.toList ++ x.data.toList
  | [], x, h => absurd rfl h
  | [a], x, _ => by simp [zbJ]
  | a :: b :: r, x, _ => by
    have := joinL_snoc sep (b :: r) x (by simp)
    show a.data.toList ++ sep.data.toList ++ zbJ sep ((b :: r) ++ [x]) = _
    rw [this]; simp [zbJ, List.append_assoc]
theorem joinL_take {sep : ByteArray} {l : List ByteArray} {k : Nat} {x : ByteArray} (h : l[k + 1]? = some x) : zbJ sep (l.take (k + 2)) = zbJ sep (l.take (k + 1)) ++ sep.data.toList ++ x.data.toList := by
  rw [zak h, joinL_snoc]
  intro e
  have h0 : (l.take (k + 1)).length = 0 := by rw [e]; rfl
  have hk := (List.getElem?_eq_some_iff.1 h).1
  rw [List.length_take] at h0
  omega
theorem joinL_one {sep : ByteArray} {l : List ByteArray} {x : ByteArray} (h : l[0]? = some x) : zbJ sep (l.take 1) = x.data.toList := by
  rw [show (1 : Nat) = 0 + 1 from rfl, zak h]; simp [zbJ]
theorem joinB_none {sep : ByteArray} {l : List ByteArray} (h : l.length = 0) : ByteArray.empty = zdM sep l := by
  rw [List.eq_nil_of_length_eq_zero h]; rfl
theorem joinB_one {sep : ByteArray} {l : List ByteArray} {x : ByteArray} (h : l[0]? = some x) (hl : l.length = 1) : x = zdM sep l := by
  have := joinL_one (sep := sep) h
  rw [List.take_of_length_le (by omega)] at this
  unfold zdM; rw [this]
theorem joinB_all {sep : ByteArray} {l : List ByteArray} {k : Nat} {bs : List UInt8} (h : bs = zbJ sep (l.take (k + 1))) (hl : l.length ≤ k + 1) : (⟨bs.toArray⟩ : ByteArray) = zdM sep l := by
  rw [h, List.take_of_length_le hl]; rfl
theorem zbR (x : ByteArray) : x.data.toList.length = x.size := by simp
theorem quoteAt_len (s : ByteArray) : ∀ (n p : Nat), s.size - p = n → (za6 s p).length ≤ 5 * (s.size - p) := by
  intro n
  induction n using Nat.strongRecOn with
  | _ n ih =>
    intro p hp
    rcases Nat.lt_or_ge p s.size with h | h
    · have h1 := zaw s p
      have h2 := piece_len s p
      rw [zbr h, List.length_append]
      have := ih (s.size - (p + decW s p)) (by omega) _ rfl
      omega
    · rw [zcb h]; simp
theorem quoteB_size (s : ByteArray) : (zca s).size ≤ 5 * s.size + 2 := by
  have := quoteAt_len s _ 0 rfl
  show (quoteL s).toArray.size ≤ _
  unfold quoteL
  simp only [List.size_toArray, List.length_cons, List.length_append, List.length_nil]
  omega
theorem partB_size (x : Lbl) : (zcY x).size ≤ x.n.size + 5 * x.v.size + 3 := by
  have := quoteB_size x.v
  unfold zcY
  simp only [ByteArray.size_append]
  have e : (⟨#[61]⟩ : ByteArray).size = 1 := rfl
  omega
theorem joinL_len {sep : ByteArray} (h : sep.size = 1) : ∀ l : List ByteArray, (zbJ sep l).length ≤ za9 l + l.length
  | [] => by simp [zbJ]
  | [x] => by simp [zbJ, za9]
  | x :: y :: r => by
    have := joinL_len h (y :: r)
    simp only [zbJ, List.length_append, zbR, za9, List.map_cons, List.sum_cons, List.length_cons] at *
    omega
theorem joinB_size {sep : ByteArray} (h : sep.size = 1) (l : List ByteArray) : (zdM sep l).size ≤ za9 l + l.length := by
  have := joinL_len h l
  show (zbJ sep l).toArray.size ≤ _
  simpa using this
theorem sumSz_part {l : List Lbl} (hz : ∀ x ∈ l, x.n.size ≤ 100000 ∧ x.v.size ≤ 100000) : za9 (l.map zcY) ≤ l.length * 600003 := by
  induction l with
  | nil => simp [za9]
  | cons x r ih =>
    have h1 := partB_size x
    have h2 := hz x List.mem_cons_self
    have h3 := ih (fun y hy => hz y (List.mem_cons_of_mem _ hy))
    simp only [za9, List.map_cons, List.sum_cons, List.length_cons] at *
    omega
theorem sumSz_parts {l : List Lbl} (hl : l.length ≤ 1000) (hz : ∀ x ∈ l, x.n.size ≤ 100000 ∧ x.v.size ≤ 100000) (k : Nat) : za9 ((l.take k).map zcY) ≤ 1000000000 := by
  have h1 := sumSz_part (l := l.take k) (fun x hx => hz x (List.mem_of_mem_take hx))
  rw [List.length_take] at h1
  omega
end Lp
/-
  What is said of labels (chapter 2), as plain data.
-/
set_option linter.unusedVariables false
namespace Lp
open Go

theorem cmpLs_self (a : List Lbl) : z2 a a = 0 := by have := cmpLs_neg a a; omega
theorem cmpLbl_eq {a b : Lbl} : zG a b = 0 ↔ a = b := by
  constructor
  · intro h
    unfold zG or2 at h
    split at h
    · contradiction
    · rename_i h1
      have h1 : cmpS a.n b.n = 0 := by omega
      have e1 := (zb4 _ _).1 h1
      have e2 := (zb4 _ _).1 h
      obtain ⟨_, _⟩ := a; obtain ⟨_, _⟩ := b; simp at e1 e2; simp [e1, e2]
  · rintro rfl; have := cmpLbl_neg a a; omega
theorem cmpLs_eq : ∀ {a b : List Lbl}, z2 a b = 0 ↔ a = b
  | [], [] => by simp [z2]
  | [], _ :: _ => by simp [z2]
  | _ :: _, [] => by simp [z2]
  | a :: r, b :: s => by
    unfold z2
    split
    · rename_i h
      constructor
      · intro h'; contradiction
      · intro h'; cases h'; exact absurd (cmpLbl_eq.2 rfl) h
    · rename_i h
      have h : zG a b = 0 := by omega
      rw [cmpLs_eq, cmpLbl_eq.1 h]; simp

/-! ### picking -/
theorem pick_same (l : List Lbl) (ns : List ByteArray) (w : Bool) : zaQ (zaQ l ns w) ns w = zaQ l ns w := by unfold zaQ; rw [List.filter_filter]; simp
/-! ### order -/
theorem isort_len' (l : List Lbl) : (zN zG l).length = l.length := zcz _ l rfl
theorem tidyL_len (l : List Lbl) : (zQ l).length ≤ l.length := by
  unfold zQ; cases zad l
  · simp
  · simp [isort_len']
theorem tidyE_cases (l : List Lbl) : (za0 l = 0 ∧ zad l = true ∧ zQ l = zN zG l) ∨ (za0 l = 1 ∧ zQ l = []) := by
  unfold zQ za0; cases zad l <;> simp
theorem tidy_srt (l : List Lbl) : Srt zG (zQ l) := by
  rcases tidyE_cases l with ⟨_, _, h⟩ | ⟨_, h⟩ <;> rw [h]
  · exact (zaA zcc _ l rfl).srt
  · exact List.Pairwise.nil
theorem tidy_ok_len {l : List Lbl} (h : zad l = true) : l.length ≤ 8 := by unfold zad at h; simp at h; exact h.1
theorem tidy_ok_b {l : List Lbl} (h : zad l = true) : zdi (zN zG l) = true := by unfold zad at h; simp at h; exact h.2
theorem runes_one {s : ByteArray} {r : Nat} (h0 : 0 < s.size) (h1 : decR s 0 = r) (h2 : s.size ≤ decW s 0) : zaK s = [(r : Int)] := by
  unfold zaK; rw [zb9 h0, zcD (by omega), h1]
theorem name_a : zb2 ⟨#[97]⟩ = true := by unfold zb2; rw [runes_one (r := 97) (by decide) (by decide) (by decide)]; decide
end Lp
/-
  Texts of labels tell labels apart; names in tidy labels are all different.
-/
set_option linter.unusedVariables false
namespace Lp
open Go

/-! ### names in tidy labels -/
def NSrt (l : List Lbl) : Prop := l.Pairwise (fun a b => cmpS a.n b.n < 0)
theorem cmpLbl_n {a b : Lbl} (h : zG a b ≤ 0) : cmpS a.n b.n ≤ 0 := by
  unfold zG or2 at h; split at h <;> omega
theorem tidyFrom_n : ∀ (l : List Lbl) (p : Option ByteArray), Srt zG l → zci p l = true → NSrt l ∧ ∀ x ∈ l, okL x = true
  | [], _, _, _ => ⟨List.Pairwise.nil, fun _ h => by cases h⟩
  | x :: r, p, hs, ht => by
    have hs' := List.pairwise_cons.1 hs
    unfold zci at ht
    simp only [Bool.and_eq_true] at ht
    obtain ⟨h1, h2, h3⟩ := ht
    have ih := tidyFrom_n r (some x.n) hs'.2 h3
    refine ⟨List.pairwise_cons.2 ⟨?_, ih.1⟩, ?_⟩
    · intro y hy
      cases r with
      | nil => cases hy
      | cons z r =>
        have hxz : cmpS x.n z.n < 0 := by
          have h4 := cmpLbl_n (hs'.1 z List.mem_cons_self)
          have h5 : ¬ x.n = z.n := by
            unfold zci at h3; simp only [Bool.and_eq_true, Bool.not_eq_true', decide_eq_false_iff_not] at h3
            intro e; exact h3.2.1 (congrArg some e)
          have h6 : cmpS x.n z.n ≠ 0 := fun e => h5 ((zb4 _ _).1 e)
          omega
        rcases List.mem_cons.1 hy with e | e
        · rw [e]; exact hxz
        · have h7 := (List.pairwise_cons.1 ih.1).1 y e
          exact (cmpS_tr x.n z.n y.n).lt1 hxz (by omega)
    · intro y hy
      rcases List.mem_cons.1 hy with e | e
      · rw [e]; exact h1
      · exact ih.2 y e
theorem zd2 {l : List Lbl} (h : za0 l = 0) : NSrt (zQ l) ∧ ∀ x ∈ zQ l, okL x = true := by
  rcases tidyE_cases l with ⟨_, h2, h3⟩ | ⟨h2, _⟩
  · have hs := tidy_srt l
    rw [h3] at hs ⊢
    exact tidyFrom_n _ none hs (tidy_ok_b h2)
  · omega
/-! ### what a text of zaK is made of -/
def bts (s : ByteArray) (p : Nat) : List UInt8 := s.data.toList.drop p
theorem zb5 {s : ByteArray} {p : Nat} (h : p < s.size) : bts s p = s.get! p :: bts s (p + 1) := by
  unfold bts
  have h' : p < s.data.toList.length := by simpa using h
  rw [List.drop_eq_getElem_cons h']
  congr 1
  simp [ByteArray.get!, h]
theorem ofNat_eq {a b : Nat} (h : UInt8.ofNat a = UInt8.ofNat b) : a % 256 = b % 256 := by
  have := congrArg UInt8.toNat h; simpa using this
theorem zdF {b : UInt8} {n : Nat} (h : b.toNat = n % 256) : b = UInt8.ofNat n := by
  apply UInt8.toNat_inj.1; simpa using h
theorem extract_bts {s : ByteArray} {p : Nat} : (s.extract p s.size).data.toList = bts s p := by
  unfold bts
  simp only [ByteArray.data_extract, Array.toList_extract, List.extract]
  rw [List.take_of_length_le]
  simp
theorem hasP_bts {s : ByteArray} {p : Nat} (h : hasP (s.extract p s.size) wide = true) : ∃ r, bts s p = 239 :: 191 :: 189 :: r := by
  unfold hasP at h
  simp only [Bool.and_eq_true, decide_eq_true_eq] at h
  have e := congrArg (fun b : ByteArray => b.data.toList) h.2
  simp only [ByteArray.data_extract, Array.toList_extract, List.extract] at e
  have e2 : (s.extract p s.size).data.toList.take 3 = [239, 191, 189] := by
    have e3 : List.take wide.size (List.take (s.size - p) (List.drop p s.data.toList)) = [239, 191, 189] := by simpa [wide] using e
    rw [show wide.size = 3 from rfl] at e3
    simpa using e3
  rw [extract_bts] at e2
  refine ⟨(bts s p).drop 3, ?_⟩
  have := (List.take_append_drop 3 (bts s p)).symm
  rw [e2] at this; simpa using this
theorem not_lt_bts {s : ByteArray} {p : Nat} (h : s.size ≤ p) : bts s p = [] := by unfold bts; rw [List.drop_eq_nil_iff]; simpa using h
theorem bts_lt {s : ByteArray} {p : Nat} {a : UInt8} {r : List UInt8} (h : bts s p = a :: r) : p < s.size := by
  rcases Nat.lt_or_ge p s.size with h' | h'
  · exact h'
  · rw [not_lt_bts h'] at h; cases h
theorem bts_head {s : ByteArray} {p : Nat} {a : UInt8} {r : List UInt8} (h : bts s p = a :: r) : s.get! p = a ∧ bts s (p + 1) = r := by
  rw [zb5 (bts_lt h)] at h; injection h with h1 h2; exact ⟨h1, h2⟩
/-- what is decoded: the bytes of a rune, or a byte that is none -/
theorem dec_cases (s : ByteArray) (p : Nat) (h : p < s.size) :
    (bts s p = encR (decR s p) ++ bts s (p + decW s p)) ∨ (decR s p = 65533 ∧ decW s p = 1 ∧ hasP (s.extract p s.size) wide = false) := by
  by_cases hw : hasP (s.extract p s.size) wide = true
  · left
    obtain ⟨r, hr⟩ := hasP_bts hw
    obtain ⟨g0, b1⟩ := bts_head hr
    obtain ⟨g1, b2⟩ := bts_head b1
    obtain ⟨g2, b3⟩ := bts_head b2
    have l2 := bts_lt b2
    have hd : Utf8.decode s p = (65533, 3) := by
      unfold Utf8.decode
      simp only [Nat.add_zero, g0, g1, show p + 2 = p + 1 + 1 from rfl, g2, show p + 1 < s.size by omega, l2, decide_true, Bool.true_and]
      simp [Utf8.valid]
    have e1 : decR s p = 65533 := by unfold decR; rw [hd]
    have e2 : decW s p = 3 := by unfold decW; rw [hd]
    rw [e1, e2, hr, show p + 3 = p + 1 + 1 + 1 from rfl, b3]
    rfl
  · have hw : hasP (s.extract p s.size) wide = false := by simpa using hw
    have l0 : (s.get! p).toNat < 256 := UInt8.toNat_lt _
    have l1 : (s.get! (p + 1)).toNat < 256 := UInt8.toNat_lt _
    have l2 : (s.get! (p + 2)).toNat < 256 := UInt8.toNat_lt _
    have l3 : (s.get! (p + 3)).toNat < 256 := UInt8.toNat_lt _
    have c0 := zb5 h
    unfold decR decW
    unfold Utf8.decode
    simp only [Nat.add_zero, Utf8.runeError, Bool.and_eq_true, decide_eq_true_eq, beq_iff_eq]
    by_cases h1 : (s.get! p).toNat < 128
    · left
      rw [if_pos h1]
      show _ = encR (s.get! p).toNat ++ _
      unfold encR
      rw [if_pos (show (s.get! p).toNat ≤ 127 by omega), c0]
      congr 1; exact zdF (by omega)
    · rw [if_neg h1]
      by_cases h2 : (s.get! p).toNat / 32 = 6 ∧ p + 1 < s.size ∧ (s.get! (p + 1)).toNat / 64 = 2
      · rw [if_pos h2]
        have c1 := zb5 h2.2.1
        by_cases h3 : (s.get! p).toNat % 32 * 64 + (s.get! (p + 1)).toNat % 64 ≥ 128
        · left
          rw [if_pos h3]
          show _ = encR ((s.get! p).toNat % 32 * 64 + (s.get! (p + 1)).toNat % 64) ++ _
          unfold encR
          rw [if_neg (by omega), if_pos (by omega), c0, c1]
          show _ = _ :: _ :: _
          congr 1
          · exact zdF (by omega)
          · congr 1; exact zdF (by omega)
        · right; rw [if_neg h3]; exact ⟨rfl, rfl, hw⟩
      · rw [if_neg h2]
        by_cases h4 : ((s.get! p).toNat / 16 = 14 ∧ p + 1 < s.size ∧ (s.get! (p + 1)).toNat / 64 = 2) ∧ p + 2 < s.size ∧ (s.get! (p + 2)).toNat / 64 = 2
        · rw [if_pos h4]
          have c1 := zb5 h4.1.2.1
          have c2 := zb5 h4.2.1
          by_cases h3 : (s.get! p).toNat % 16 * 4096 + (s.get! (p + 1)).toNat % 64 * 64 + (s.get! (p + 2)).toNat % 64 ≥ 2048 ∧ Utf8.valid (((s.get! p).toNat % 16 * 4096 + (s.get! (p + 1)).toNat % 64 * 64 + (s.get! (p + 2)).toNat % 64 : Nat) : Int) = true
          · left
            rw [if_pos h3]
            show _ = encR ((s.get! p).toNat % 16 * 4096 + (s.get! (p + 1)).toNat % 64 * 64 + (s.get! (p + 2)).toNat % 64) ++ _
            have hv := h3.2
            unfold Utf8.valid at hv
            simp only [Bool.or_eq_true, Bool.and_eq_true, decide_eq_true_eq] at hv
            unfold encR
            rw [if_neg (by omega), if_neg (by omega), if_pos (by omega), c0, c1, c2]
            show _ = _ :: _ :: _ :: _
            congr 1
            · exact zdF (by omega)
            · congr 1
              · exact zdF (by omega)
              · congr 1; exact zdF (by omega)
          · right; rw [if_neg h3]; exact ⟨rfl, rfl, hw⟩
        · rw [if_neg h4]
          by_cases h5 : (((s.get! p).toNat / 8 = 30 ∧ p + 1 < s.size ∧ (s.get! (p + 1)).toNat / 64 = 2) ∧ p + 2 < s.size ∧ (s.get! (p + 2)).toNat / 64 = 2) ∧ p + 3 < s.size ∧ (s.get! (p + 3)).toNat / 64 = 2
          · rw [if_pos h5]
            have c1 := zb5 h5.1.1.2.1
            have c2 := zb5 h5.1.2.1
            have c3 := zb5 h5.2.1
            by_cases h3 : (s.get! p).toNat % 8 * 262144 + (s.get! (p + 1)).toNat % 64 * 4096 + (s.get! (p + 2)).toNat % 64 * 64 + (s.get! (p + 3)).toNat % 64 ≥ 65536 ∧ Utf8.valid (((s.get! p).toNat % 8 * 262144 + (s.get! (p + 1)).toNat % 64 * 4096 + (s.get! (p + 2)).toNat % 64 * 64 + (s.get! (p + 3)).toNat % 64 : Nat) : Int) = true
            · left
              rw [if_pos h3]
              show _ = encR ((s.get! p).toNat % 8 * 262144 + (s.get! (p + 1)).toNat % 64 * 4096 + (s.get! (p + 2)).toNat % 64 * 64 + (s.get! (p + 3)).toNat % 64) ++ _
              have hv := h3.2
              unfold Utf8.valid at hv
              simp only [Bool.or_eq_true, Bool.and_eq_true, decide_eq_true_eq] at hv
              unfold encR
              rw [if_neg (by omega), if_neg (by omega), if_neg (by omega), if_pos (by omega), c0, c1, c2, c3]
              show _ = _ :: _ :: _ :: _ :: _
              congr 1
              · exact zdF (by omega)
              · congr 1
                · exact zdF (by omega)
                · congr 1
                  · exact zdF (by omega)
                  · congr 1; exact zdF (by omega)
            · right; rw [if_neg h3]; exact ⟨rfl, rfl, hw⟩
          · right; rw [if_neg h5]; exact ⟨rfl, rfl, hw⟩

/-! ### names have no sign of equality -/
theorem encR_no {c : Nat} {x : UInt8} (hx : x.toNat < 128) (h : x ∈ encR c) : c = x.toNat := by
  unfold encR at h
  split at h
  · simp at h; rw [h]; simp; omega
  · exfalso
    have key : ∀ n : Nat, 128 ≤ n % 256 → x ≠ UInt8.ofNat n := fun n hn e => by rw [e] at hx; simp at hx; omega
    split at h
    · simp only [List.mem_cons, List.not_mem_nil, or_false] at h
      rcases h with h | h <;> exact key _ (by omega) h
    · split at h
      · simp only [List.mem_cons, List.not_mem_nil, or_false] at h
        rcases h with h | h | h <;> exact key _ (by omega) h
      · split at h
        · simp only [List.mem_cons, List.not_mem_nil, or_false] at h
          rcases h with h | h | h | h <;> exact key _ (by omega) h
        · simp only [List.mem_cons, List.not_mem_nil, or_false] at h
          rcases h with h | h | h <;> (rw [h] at hx; revert hx; decide)
theorem word_no (s : ByteArray) : ∀ (n p : Nat), s.size - p = n → zcQ (zbz s p) = true → (61 : UInt8) ∉ bts s p := by
  intro n
  induction n using Nat.strongRecOn with
  | _ n ih =>
    intro p hp hw hm
    rcases Nat.lt_or_ge p s.size with h | h
    · rw [zb9 h, wordR_cons, Bool.and_eq_true, decide_eq_true_eq] at hw
      rcases dec_cases s p h with e | ⟨e, _, _⟩
      · rw [e] at hm
        rcases List.mem_append.1 hm with hm | hm
        · have := encR_no (x := 61) (by decide) hm
          rw [this] at hw; have hw := hw.1; revert hw; decide
        · have := zaw s p
          exact ih _ (by omega) (p + decW s p) rfl hw.2 hm
      · rw [e] at hw; have hw := hw.1; revert hw; decide
    · rw [not_lt_bts h] at hm; cases hm
theorem name_no {s : ByteArray} (h : zb2 s = true) : (61 : UInt8) ∉ s.data.toList := by
  unfold zb2 at h
  rw [zbY] at h
  simp only [Bool.and_eq_true] at h
  have := word_no s _ 0 rfl h.2
  simpa [bts] using this

/-! ### between quotation marks -/
inductive Tok : List UInt8 → List UInt8 → Prop where
  | esc {c : UInt8} : c = 34 ∨ c = 92 → Tok [92, c] [c]
  | nl : Tok [92, 110] [10]
  | hex {b : UInt8} : Tok [92, 120, hexB (b.toNat / 16), hexB (b.toNat % 16)] [b]
  | raw {c : Nat} : c < 1114112 → c ≠ 34 → c ≠ 92 → c ≠ 10 → Tok (encR c) (encR c)
theorem byteAt_get {s : ByteArray} {p : Nat} (h : p < s.size) : zdy s p = (s.get! p).toNat := by
  unfold zdy; congr 1; simp [ByteArray.get!, h]; rfl
theorem piece_tok {s : ByteArray} {p : Nat} (h : p < s.size) : ∃ src, Tok (zcq s p) src ∧ bts s p = src ++ bts s (p + decW s p) := by
  have hl := zdO s p
  rcases dec_cases s p h with e | ⟨e1, e2, e3⟩
  · by_cases h1 : decR s p = 34 ∨ decR s p = 92
    · refine ⟨encR (decR s p), ?_, e⟩
      rw [piece_1 h1]
      rcases h1 with h1 | h1 <;> rw [h1]
      · exact .esc (.inl rfl)
      · exact .esc (.inr rfl)
    · by_cases h2 : decR s p = 10
      · refine ⟨encR (decR s p), ?_, e⟩
        rw [piece_2 h1 h2, h2]; exact .nl
      · by_cases h3 : decR s p = 65533 ∧ hasP (s.extract p s.size) wide = false
        · exfalso
          have hr : bts s p = 239 :: 191 :: 189 :: bts s (p + decW s p) := by rw [e, h3.1]; rfl
          have : hasP (s.extract p s.size) wide = true := by
            unfold hasP
            have e4 := extract_bts (s := s) (p := p)
            rw [hr] at e4
            have hsz : 3 ≤ (s.extract p s.size).size := by
              have := congrArg List.length e4
              simp only [Array.length_toList, List.length_cons] at this
              show 3 ≤ (s.extract p s.size).data.size
              omega
            have hx : (s.extract p s.size).extract 0 wide.size = wide := by
              apply ByteArray.ext
              apply Array.toList_inj.1
              rw [ByteArray.data_extract, Array.toList_extract, List.extract, e4]
              rfl
            rw [hx, show wide.size = 3 from rfl, decide_eq_true hsz]; simp
          rw [h3.2] at this; cases this
        · refine ⟨encR (decR s p), ?_, e⟩
          rw [piece_4 h1 h2 h3]
          exact .raw hl (fun e => h1 (.inl e)) (fun e => h1 (.inr e)) h2
  · refine ⟨[s.get! p], ?_, ?_⟩
    · rw [piece_3 (by rw [e1]; decide) (by rw [e1]; decide) ⟨e1, e3⟩, byteAt_get h]; exact .hex
    · rw [e2]; exact zb5 h
def elen (b : UInt8) : Nat := if b.toNat < 192 then 1 else if b.toNat < 224 then 2 else if b.toNat < 240 then 3 else 4
def olen : List UInt8 → Nat
  | [] => 0
  | b :: r => if b = 92 then (if r.head? = some 120 then 4 else 2) else elen b
theorem encR_head {c : Nat} (hc : c < 1114112) : ∃ b r, encR c = b :: r ∧ (encR c).length = elen b ∧ (b = 92 → c = 92) ∧ (b = 34 → c = 34) := by
  have ne : ∀ n m : Nat, m < 128 → 128 ≤ n % 256 → UInt8.ofNat n ≠ UInt8.ofNat m := fun n m hm hn e => by have := ofNat_eq e; omega
  unfold encR elen
  split
  · refine ⟨_, _, rfl, ?_, ?_, ?_⟩
    · have : (UInt8.ofNat (c % 256)).toNat < 192 := by simp; omega
      rw [if_pos this]; rfl
    · intro e; have := ofNat_eq (b := 92) e; omega
    · intro e; have := ofNat_eq (b := 34) e; omega
  · split
    · refine ⟨_, _, rfl, ?_, ?_, ?_⟩
      · have h1 : ¬ (UInt8.ofNat (192 + c / 64 % 256)).toNat < 192 := by simp; omega
        have h2 : (UInt8.ofNat (192 + c / 64 % 256)).toNat < 224 := by simp; omega
        rw [if_neg h1, if_pos h2]; rfl
      · intro e; exact absurd e (ne _ 92 (by decide) (by omega))
      · intro e; exact absurd e (ne _ 34 (by decide) (by omega))
    · split
      · refine ⟨_, _, rfl, ?_, ?_, ?_⟩
        · have h1 : ¬ (UInt8.ofNat (224 + c / 4096 % 256)).toNat < 192 := by simp; omega
          have h2 : ¬ (UInt8.ofNat (224 + c / 4096 % 256)).toNat < 224 := by simp; omega
          have h3 : (UInt8.ofNat (224 + c / 4096 % 256)).toNat < 240 := by simp; omega
          rw [if_neg h1, if_neg h2, if_pos h3]; rfl
        · intro e; exact absurd e (ne _ 92 (by decide) (by omega))
        · intro e; exact absurd e (ne _ 34 (by decide) (by omega))
      · split
        · refine ⟨_, _, rfl, ?_, ?_, ?_⟩
          · have h1 : ¬ (UInt8.ofNat (240 + c / 262144 % 256)).toNat < 192 := by simp; omega
            have h2 : ¬ (UInt8.ofNat (240 + c / 262144 % 256)).toNat < 224 := by simp; omega
            have h3 : ¬ (UInt8.ofNat (240 + c / 262144 % 256)).toNat < 240 := by simp; omega
            rw [if_neg h1, if_neg h2, if_neg h3]; rfl
          · intro e; exact absurd e (ne _ 92 (by decide) (by omega))
          · intro e; exact absurd e (ne _ 34 (by decide) (by omega))
        · refine ⟨_, _, rfl, by decide, fun e => absurd e (by decide), fun e => absurd e (by decide)⟩
theorem tok_len {o s : List UInt8} (h : Tok o s) (r : List UInt8) : olen (o ++ r) = o.length := by
  cases h with
  | esc h => rcases h with h | h <;> rw [h] <;> rfl
  | nl => rfl
  | hex => rfl
  | raw hc _ h92 _ =>
    obtain ⟨b, t, e, el, hb, _⟩ := encR_head hc
    rw [el, e]
    show (if b = 92 then _ else elen b) = _
    rw [if_neg (fun e => h92 (hb e))]
theorem hexB_inj : ∀ a : Nat, a < 16 → ∀ b : Nat, b < 16 → hexB a = hexB b → a = b := by decide
theorem tok_src {o s t : List UInt8} (h : Tok o s) (h' : Tok o t) : s = t := by
  have hh : ∀ {c : Nat} {x : UInt8} {l : List UInt8}, c < 1114112 → c ≠ 92 → encR c = 92 :: l → False := fun {c _ l} hc hn e => by
    obtain ⟨b, t, e', _, hb, _⟩ := encR_head hc
    rw [e'] at e; injection e with e _; exact hn (hb e)
  generalize ho : o = o' at h'
  cases h with
  | esc h =>
    cases h' with
    | esc _ => cases ho; rfl
    | nl => injection ho with _ ho; injection ho with ho; rw [ho] at h; exact absurd h (by decide)
    | hex => cases ho
    | raw hc _ h92 _ => exact (hh (x := 0) hc h92 ho.symm).elim
  | nl =>
    cases h' with
    | esc h => injection ho with _ ho; injection ho with ho; rw [← ho] at h; exact absurd h (by decide)
    | nl => rfl
    | hex => cases ho
    | raw hc _ h92 _ => exact (hh (x := 0) hc h92 ho.symm).elim
  | @hex a =>
    cases h' with
    | esc h => cases ho
    | nl => cases ho
    | @hex b =>
      injection ho with _ ho; injection ho with _ ho; injection ho with h1 ho; injection ho with h2 _
      have la := UInt8.toNat_lt a
      have lb := UInt8.toNat_lt b
      have e1 := hexB_inj _ (by omega) _ (by omega) h1
      have e2 := hexB_inj _ (by omega) _ (by omega) h2
      have : a = b := UInt8.toNat_inj.1 (by omega)
      rw [this]
    | raw hc _ h92 _ => exact (hh (x := 0) hc h92 ho.symm).elim
  | raw hc _ h92 _ =>
    cases h' with
    | esc h => exact (hh (x := 0) hc h92 ho).elim
    | nl => exact (hh (x := 0) hc h92 ho).elim
    | hex => exact (hh (x := 0) hc h92 ho).elim
    | raw _ _ _ _ => exact ho
theorem tok_no {o s r t : List UInt8} (h : Tok o s) : o ++ r ≠ 34 :: t := by
  cases h with
  | esc _ => intro e; injection e with e _; revert e; decide
  | nl => intro e; injection e with e _; revert e; decide
  | hex => intro e; injection e with e _; revert e; decide
  | raw hc h34 _ _ =>
    obtain ⟨b, u, e, _, _, hb⟩ := encR_head hc
    rw [e]; intro e'; injection e' with e' _; exact h34 (hb e')
theorem tok_inj {o s o' s' r r' : List UInt8} (h : Tok o s) (h' : Tok o' s') (e : o ++ r = o' ++ r') : s = s' ∧ r = r' := by
  have hl : o.length = o'.length := by rw [← tok_len h r, ← tok_len h' r', e]
  obtain ⟨e1, e2⟩ := List.append_inj e hl
  subst e1; exact ⟨tok_src h h', e2⟩
theorem quote_inj : ∀ (n : Nat) (s t : ByteArray) (p q : Nat) (r r' : List UInt8), s.size - p = n → za6 s p ++ 34 :: r = za6 t q ++ 34 :: r' → bts s p = bts t q ∧ r = r' := by
  intro n
  induction n using Nat.strongRecOn with
  | _ n ih =>
    intro s t p q r r' hn e
    rcases Nat.lt_or_ge p s.size with h | h <;> rcases Nat.lt_or_ge q t.size with h' | h'
    · obtain ⟨s1, k1, b1⟩ := piece_tok h
      obtain ⟨s2, k2, b2⟩ := piece_tok h'
      rw [zbr h, zbr h', List.append_assoc, List.append_assoc] at e
      obtain ⟨e1, e2⟩ := tok_inj k1 k2 e
      have hp := zaw s p
      obtain ⟨e3, e4⟩ := ih _ (by omega) s t _ _ r r' rfl e2
      rw [b1, b2, e1, e3]; exact ⟨rfl, e4⟩
    · obtain ⟨s1, k1, _⟩ := piece_tok h
      rw [zbr h, zcb h', List.append_assoc] at e
      exact (tok_no k1 e).elim
    · obtain ⟨s2, k2, _⟩ := piece_tok h'
      rw [zcb h, zbr h', List.append_assoc] at e
      exact (tok_no k2 e.symm).elim
    · rw [zcb h, zcb h'] at e
      injection e with _ e
      rw [not_lt_bts h, not_lt_bts h']; exact ⟨rfl, e⟩
theorem bts_inj {s t : ByteArray} (h : bts s 0 = bts t 0) : s = t := by
  unfold bts at h; simp only [List.drop_zero] at h
  exact ByteArray.ext (Array.toList_inj.1 h)
/-! ### texts of labels -/
theorem split_at {x : UInt8} : ∀ {a b r s : List UInt8}, x ∉ a → x ∉ b → a ++ x :: r = b ++ x :: s → a = b ∧ r = s
  | [], [], r, s, _, _, e => by injection e with _ e; exact ⟨rfl, e⟩
  | [], y :: b, r, s, _, hb, e => by injection e with e _; exact absurd (e ▸ List.mem_cons_self) hb
  | y :: a, [], r, s, ha, _, e => by injection e with e _; exact absurd (e ▸ List.mem_cons_self) ha
  | y :: a, z :: b, r, s, ha, hb, e => by
    injection e with e1 e2
    obtain ⟨e3, e4⟩ := split_at (fun h => ha (List.mem_cons_of_mem _ h)) (fun h => hb (List.mem_cons_of_mem _ h)) e2
    rw [e1, e3]; exact ⟨rfl, e4⟩
/-- what stands behind the first bracket -/
def txtL : List Lbl → List UInt8
  | [] => [125]
  | [x] => x.n.data.toList ++ 61 :: 34 :: (za6 x.v 0 ++ 34 :: [125])
  | x :: y :: r => x.n.data.toList ++ 61 :: 34 :: (za6 x.v 0 ++ 34 :: 44 :: txtL (y :: r))
theorem partB_list (x : Lbl) : (zcY x).data.toList = x.n.data.toList ++ 61 :: 34 :: (za6 x.v 0 ++ [34]) := by
  unfold zcY zca quoteL
  simp [ByteArray.data_append]
theorem txtL_join : ∀ l : List Lbl, zbJ ⟨#[44]⟩ (l.map zcY) ++ [125] = txtL l
  | [] => rfl
  | [x] => by
    show (zcY x).data.toList ++ [125] = _
    rw [partB_list]; simp [txtL]
  | x :: y :: r => by
    have := txtL_join (y :: r)
    show (zcY x).data.toList ++ [44] ++ zbJ ⟨#[44]⟩ ((y :: r).map zcY) ++ [125] = _
    rw [List.append_assoc, this, partB_list]; simp [txtL]
theorem textB_list (l : List Lbl) : (zbS l).data.toList = 123 :: txtL l := by
  rw [← txtL_join]
  unfold zbS zdM
  simp [ByteArray.data_append]
theorem txtL_mem (x : Lbl) (r : List Lbl) : (61 : UInt8) ∈ txtL (x :: r) := by
  cases r <;> simp [txtL]
theorem txtL_inj : ∀ {l m : List Lbl}, (∀ x ∈ l, (61 : UInt8) ∉ x.n.data.toList) → (∀ x ∈ m, (61 : UInt8) ∉ x.n.data.toList) → txtL l = txtL m → l = m
  | [], [], _, _, _ => rfl
  | [], y :: m, _, _, e => by
    have := txtL_mem y m; rw [← e] at this; exact absurd this (by decide)
  | x :: l, [], _, _, e => by
    have := txtL_mem x l; rw [e] at this; exact absurd this (by decide)
  | x :: l, y :: m, hl, hm, e => by
    have key : ∀ {R R' : List UInt8}, x.n.data.toList ++ 61 :: 34 :: (za6 x.v 0 ++ 34 :: R) = y.n.data.toList ++ 61 :: 34 :: (za6 y.v 0 ++ 34 :: R') → x = y ∧ R = R' := by
      intro R R' e
      obtain ⟨e1, e2⟩ := split_at (hl x List.mem_cons_self) (hm y List.mem_cons_self) e
      injection e2 with _ e2
      obtain ⟨e3, e4⟩ := quote_inj _ x.v y.v 0 0 R R' rfl e2
      obtain ⟨xn, xv⟩ := x; obtain ⟨yn, yv⟩ := y
      simp only at e1 e3 e4 ⊢
      rw [ByteArray.ext (Array.toList_inj.1 e1), bts_inj e3]; exact ⟨rfl, e4⟩
    cases l with
    | nil => cases m with
      | nil => obtain ⟨e1, _⟩ := key e; rw [e1]
      | cons z m => obtain ⟨_, e2⟩ := key e; injection e2 with e2 _; exact absurd e2 (by decide)
    | cons z l => cases m with
      | nil => obtain ⟨_, e2⟩ := key e; injection e2 with e2 _; exact absurd e2 (by decide)
      | cons z' m =>
        obtain ⟨e1, e2⟩ := key e
        injection e2 with _ e2
        rw [e1, txtL_inj (fun x h => hl x (List.mem_cons_of_mem _ h)) (fun x h => hm x (List.mem_cons_of_mem _ h)) e2]
theorem okL_name {x : Lbl} (h : okL x = true) : zb2 x.n = true := by unfold okL at h; simp only [Bool.and_eq_true] at h; exact h.1
/-- tidy labels have the same text just if they are the same -/
theorem textB_inj {l m : List Lbl} (hl : za0 l = 0) (hm : za0 m = 0) (h : zbS (zQ l) = zbS (zQ m)) : zQ l = zQ m := by
  have e := congrArg (fun b : ByteArray => b.data.toList) h
  simp only [textB_list] at e
  injection e with _ e
  exact txtL_inj (fun x hx => name_no (okL_name ((zd2 hl).2 x hx))) (fun x hx => name_no (okL_name ((zd2 hm).2 x hx))) e
theorem tidyL_mem {l : List Lbl} {x : Lbl} (h : x ∈ zQ l) : x ∈ l := by
  rcases tidyE_cases l with ⟨_, _, h3⟩ | ⟨_, h3⟩ <;> rw [h3] at h
  · exact ((zaA zcc _ l rfl).mem zcc x).1 h
  · cases h
theorem light_sizes {l : List Lbl} (h : zaH l = true) : ∀ x ∈ l, x.n.size ≤ 200 ∧ x.v.size ≤ 200 := by
  intro x hx
  have hl := lightL_len h
  unfold zaH at h
  rw [Bool.and_eq_true, List.take_of_length_le (by omega), List.all_eq_true] at h
  have := h.1 x hx
  simpa using this
end Lp
/-
  The document's own tidying of labels and rows, as plain data.
-/
set_option linter.unusedVariables false
namespace Lp
open Go
section
variable {α : Type} {c : α → α → Int}
/-- strictly in order -/
def zaI (c : α → α → Int) (l : List α) : Prop := l.Pairwise (fun a b => c a b < 0)
theorem zaI.srt {l : List α} (h : zaI c l) : Srt c l := List.Pairwise.imp (fun h => Int.le_of_lt h) h
/-- a list with one more at a place -/
def zeb (out : List α) (k : Nat) (x : α) : List α := (((out.take k).drop 0) ++ [x]) ++ ((out.take out.length).drop k)
theorem insAt_eq (out : List α) (k : Nat) (x : α) : zeb out k x = out.take k ++ x :: out.drop k := by unfold zeb; rw [List.take_length, List.drop_zero]; simp
theorem insAt_perm (out : List α) (k : Nat) (x : α) : (zeb out k x).Perm (out ++ [x]) := by
  rw [insAt_eq]
  refine (List.perm_middle).trans ?_
  rw [List.take_append_drop]
  exact (List.perm_append_comm (l₁ := [x]) (l₂ := out))
theorem insAt_strict {out : List α} {k : Nat} {x : α} (h : zaI c out) (h1 : ∀ y ∈ out.take k, c y x < 0) (h2 : ∀ y ∈ out.drop k, c x y < 0) : zaI c (zeb out k x) := by
  rw [insAt_eq]
  have e : out.take k ++ out.drop k = out := List.take_append_drop ..
  unfold zaI at h ⊢
  rw [← e] at h
  obtain ⟨a1, a2, a3⟩ := List.pairwise_append.1 h
  refine List.pairwise_append.2 ⟨a1, List.pairwise_cons.2 ⟨h2, a2⟩, fun y hy z hz => ?_⟩
  rcases List.mem_cons.1 hz with e | e
  · rw [e]; exact h1 y hy
  · exact a3 y hy z e
theorem ins_perm (x : α) (l : List α) : (ins c x l).Perm (x :: l) := by
  have key : ∀ l : List α, (insB c x l).Perm (x :: l) := by
    intro l
    induction l with
    | nil => exact List.Perm.refl _
    | cons y r ih =>
      unfold insB
      split
      · exact (List.Perm.cons y ih).trans (List.Perm.swap x y r)
      · exact List.Perm.refl _
  unfold ins
  exact (List.reverse_perm _).trans ((key l.reverse).trans (List.Perm.cons x (List.reverse_perm l)))
theorem zc2 (l : List α) : (zN c l).Perm l := by
  have key : ∀ (m r : List α), (m.foldl (fun r x => ins c x r) r).Perm (r ++ m) := by
    intro m
    induction m with
    | nil => intro r; simp
    | cons x m ih =>
      intro r
      refine (ih (ins c x r)).trans ?_
      refine (List.Perm.append_right m (ins_perm x r)).trans ?_
      show (x :: (r ++ m)).Perm (r ++ x :: m)
      exact List.perm_middle.symm
  have := key l []
  rw [List.nil_append] at this
  exact this
/-- in order, and of the same: the same, if alike is the same -/
theorem srt_perm (h : Cmp c) {a b : List α} (ha : Srt c a) (hb : Srt c b) (hp : a.Perm b) (anti : ∀ x ∈ a, ∀ y ∈ a, c x y = 0 → x = y) : a = b := by
  refine Srt.unique h _ _ ha hb (fun k => ?_)
  have hrep : ∀ m : List α, (∀ x ∈ m, ∀ y ∈ m, c x y = 0 → x = y) → ∀ z ∈ m.filter (eqv c k), m.filter (eqv c k) = List.replicate (m.filter (eqv c k)).length z := by
    intro m hm z hz
    rw [List.eq_replicate_iff]
    refine ⟨rfl, fun w hw => ?_⟩
    have h1 := List.mem_filter.1 hz
    have h2 := List.mem_filter.1 hw
    have e1 : c k z = 0 := by simpa [eqv] using h1.2
    have e2 : c k w = 0 := by simpa [eqv] using h2.2
    have e3 := h.neg k w
    have e4 := (h.tr w k z).e1 (by omega)
    exact hm w h2.1 z h1.1 (by omega)
  have hpf := hp.filter (eqv c k)
  have hl := hpf.length_eq
  rcases hz : a.filter (eqv c k) with _ | ⟨z, r⟩
  · rw [hz] at hl
    rw [List.eq_nil_of_length_eq_zero (l := b.filter (eqv c k)) (by rw [← hl]; rfl)]
  · rw [← hz]
    have hm : z ∈ a.filter (eqv c k) := by rw [hz]; exact List.mem_cons_self
    have hm2 : z ∈ b.filter (eqv c k) := hpf.mem_iff.1 hm
    rw [hrep a anti z hm, hrep b (fun x hx y hy => anti x (hp.mem_iff.2 hx) y (hp.mem_iff.2 hy)) z hm2, hl]
theorem zaI.anti (h : Cmp c) {l : List α} (hs : zaI c l) : ∀ x ∈ l, ∀ y ∈ l, c x y = 0 → x = y := by
  induction l with
  | nil => intro x hx; cases hx
  | cons a r ih =>
    have hs' := List.pairwise_cons.1 hs
    intro x hx y hy e
    rcases List.mem_cons.1 hx with ex | ex <;> rcases List.mem_cons.1 hy with ey | ey
    · rw [ex, ey]
    · have := hs'.1 y ey; rw [ex] at e; omega
    · have := hs'.1 x ex; have := h.neg a x; rw [ey] at e; omega
    · exact ih hs'.2 x ex y ey e
theorem strict_isort (h : Cmp c) {l m : List α} (hs : zaI c l) (hp : l.Perm m) : zN c m = l := by
  have h1 := zc2 (c := c) m
  exact (srt_perm h hs.srt (zaA h _ m rfl).srt (hp.trans h1.symm) (hs.anti h)).symm
end

/-! ### labels -/
theorem NSrt.strict {l : List Lbl} (h : NSrt l) : zaI zG l := List.Pairwise.imp (fun {a b} h => by unfold zG or2; rw [if_pos (by omega)]; exact h) h
/-- how far tidying has come -/
structure RT (l : List Lbl) (i : Nat) (out : List Lbl) : Prop where
  ns : NSrt out
  pm : out.Perm (l.take i)
  ok : ∀ x ∈ out, okL x = true
theorem RT.zero (l : List Lbl) : RT l 0 [] := ⟨List.Pairwise.nil, by simp, fun _ h => by cases h⟩
theorem RT.len {l out : List Lbl} {i : Nat} (h : RT l i out) (hi : i ≤ l.length) : out.length = i := by rw [h.pm.length_eq, List.length_take]; omega
theorem RT.next {l out : List Lbl} {i k : Nat} {x : Lbl} (h : RT l i out) (hx : l[i]? = some x) (hok : okL x = true) (h1 : ∀ j y, j < k → out[j]? = some y → cmpS y.n x.n < 0) (h2 : k = out.length ∨ ∃ y, out[k]? = some y ∧ ¬ cmpS y.n x.n < 0 ∧ ¬ y.n = x.n) : RT l (i + 1) (zeb out k x) := by
  have hn : ∀ y z : Lbl, cmpS y.n z.n < 0 ↔ cmpS y.n z.n < 0 := fun _ _ => Iff.rfl
  refine ⟨?_, ?_, ?_⟩
  · have := insAt_strict (c := fun a b : Lbl => cmpS a.n b.n) (out := out) (k := k) (x := x) h.ns (fun y hy => ?_) (fun y hy => ?_)
    · exact this
    · obtain ⟨j, hj⟩ := List.mem_iff_getElem?.1 hy
      rw [List.getElem?_take] at hj
      split at hj
      · exact h1 j y (by assumption) hj
      · cases hj
    · rcases h2 with e | ⟨z, hz, h3, h4⟩
      · rw [e, List.drop_length] at hy; cases hy
      · have hzx : cmpS x.n z.n < 0 := by
          have e1 := zdw z.n x.n
          have e2 : cmpS z.n x.n ≠ 0 := fun e => h4 ((zb4 _ _).1 e)
          omega
        rw [zaW hz] at hy
        rcases List.mem_cons.1 hy with e | e
        · rw [e]; exact hzx
        · have hs : NSrt (out.take k ++ out.drop k) := by rw [List.take_append_drop]; exact h.ns
          have h5 := (List.pairwise_append.1 hs).2.1
          rw [zaW hz] at h5
          have h6 := (List.pairwise_cons.1 h5).1 y e
          exact (cmpS_tr x.n z.n y.n).lt1 hzx (by omega)
  · refine (insAt_perm out k x).trans ?_
    rw [zak hx]
    exact List.Perm.append_right [x] h.pm
  · intro y hy
    rcases List.mem_append.1 ((insAt_perm out k x).mem_iff.1 hy) with e | e
    · exact h.ok y e
    · rw [List.mem_singleton.1 e]; exact hok
/-- tidy: few, each may be, and names all different -/
theorem tidyOk_of {l m : List Lbl} (hl : l.length ≤ 8) (hs : NSrt m) (hp : m.Perm l) (hok : ∀ x ∈ m, okL x = true) : zad l = true ∧ zN zG l = m := by
  have e := strict_isort zcc hs.strict hp
  refine ⟨?_, e⟩
  have key : ∀ (r : List Lbl) (p : Option ByteArray), NSrt r → (∀ x ∈ r, okL x = true) → (∀ n, p = some n → ∀ x ∈ r, cmpS n x.n < 0) → zci p r = true := by
    intro r
    induction r with
    | nil => intro _ _ _ _; rfl
    | cons x r ih =>
      intro p h1 h2 h3
      have h1' := List.pairwise_cons.1 h1
      unfold zci
      rw [h2 x List.mem_cons_self, ih (some x.n) h1'.2 (fun y hy => h2 y (List.mem_cons_of_mem _ hy)) (fun n hn y hy => by injection hn with hn; rw [← hn]; exact h1'.1 y hy)]
      have : ¬ p = some x.n := fun hp => by have := h3 x.n hp x List.mem_cons_self; have e0 := (zb4 x.n x.n).2 rfl; omega
      simp [this]
  unfold zad zdi zbQ
  rw [e]
  simp only [zdH, List.drop_zero, Bool.and_eq_true, decide_eq_true_eq]
  exact ⟨hl, key m none hs hok (fun _ h => by cases h)⟩
theorem RT.done {l out : List Lbl} {i : Nat} (h : RT l i out) (hi : l.length ≤ i) (hl : l.length ≤ 8) : out = zQ l ∧ true = zad l := by
  have hp := h.pm
  rw [List.take_of_length_le hi] at hp
  obtain ⟨e1, e2⟩ := tidyOk_of hl h.ns hp h.ok
  unfold zQ; rw [e1, e2]; exact ⟨rfl, rfl⟩
theorem tidyL_no {l : List Lbl} (h : zad l = false) : [] = zQ l ∧ false = zad l := by unfold zQ; rw [h]; exact ⟨rfl, rfl⟩
theorem tidyOk_mem {l : List Lbl} (h : zad l = true) {x : Lbl} (hx : x ∈ l) : okL x = true := by
  have e : za0 l = 0 := by unfold za0; rw [h]; rfl
  have hm : x ∈ zQ l := by unfold zQ; rw [h]; exact ((zaA zcc _ l rfl).mem zcc x).2 hx
  exact (zd2 e).2 x hm
theorem RT.bad1 {l : List Lbl} {i : Nat} {x : Lbl} (hx : l[i]? = some x) (h : okL x = false) : [] = zQ l ∧ false = zad l := tidyL_no (by
  rcases e : zad l with _ | _
  · rfl
  · have := tidyOk_mem e (zbb hx); rw [h] at this; cases this)
theorem RT.long {l : List Lbl} (h : (8 : Int) < ((l.length : Nat) : Int)) : [] = zQ l ∧ false = zad l := tidyL_no (by
  have : ¬ l.length ≤ 8 := by omega
  simp [zad, this])
theorem RT.bad2 {l out : List Lbl} {i k : Nat} {x y : Lbl} (h : RT l i out) (hx : l[i]? = some x) (hy : out[k]? = some y) (e : y.n = x.n) : [] = zQ l ∧ false = zad l := tidyL_no (by
  rcases ek : zad l with _ | _
  · rfl
  · exfalso
    have e0 : za0 l = 0 := by unfold za0; rw [ek]; rfl
    have eT : zQ l = zN zG l := by unfold zQ; rw [ek]; rfl
    have hn := (zd2 e0).1
    rw [eT] at hn
    have hp := zc2 (c := zG) l
    -- the two stand at different places of l
    have hl : l = l.take i ++ (x :: l.drop (i + 1)) := by rw [← zaW hx, List.take_append_drop]
    have hyt : y ∈ l.take i := h.pm.mem_iff.1 (zbb hy)
    have hnd : (l.map (·.n)).Nodup := by
      have h1 : ((zN zG l).map (·.n)).Nodup := by
        rw [List.Nodup, List.pairwise_map]
        exact List.Pairwise.imp (fun {a b} hab e => by have := (zb4 a.n b.n).2 e; omega) hn
      exact (hp.map (·.n)).nodup_iff.1 h1
    rw [hl, List.map_append, List.nodup_append] at hnd
    exact hnd.2.2 y.n (List.mem_map.2 ⟨y, hyt, rfl⟩) x.n (by simp) e)

/-! ### rows -/
def cL (a b : RowD) : Int := z2 a.ls b.ls
theorem zcJ : Cmp cL := ⟨fun a b => cmpLs_neg _ _, fun a b d => zdx _ _ _⟩
def ordB (l : List RowD) : Bool := decide ((zN cL l).Pairwise (fun a b => cL a b < 0))
def ordL (l : List RowD) : List RowD := bif ordB l then zN cL l else []
def ordE (l : List RowD) : Int := bif ordB l then 0 else 6
structure RO (l : List RowD) (i : Nat) (out : List RowD) : Prop where
  st : zaI cL out
  pm : out.Perm (l.take i)
theorem RO.zero (l : List RowD) : RO l 0 [] := ⟨List.Pairwise.nil, by simp⟩
theorem RO.len {l out : List RowD} {i : Nat} (h : RO l i out) (hi : i ≤ l.length) : out.length = i := by rw [h.pm.length_eq, List.length_take]; omega
theorem RO.next {l out : List RowD} {i k : Nat} {x : RowD} (h : RO l i out) (hx : l[i]? = some x) (h1 : ∀ j y, k ≤ j → out[j]? = some y → 0 < z2 y.ls x.ls) (h2 : k = 0 ∨ ∃ y, out[k - 1]? = some y ∧ ¬ 0 < z2 y.ls x.ls ∧ ¬ z2 y.ls x.ls = 0) (hk : k ≤ out.length) : RO l (i + 1) (zeb out k x) := by
  refine ⟨insAt_strict h.st (fun y hy => ?_) (fun y hy => ?_), ?_⟩
  · rcases h2 with e | ⟨z, hz, h3, h4⟩
    · rw [e] at hy; cases hy
    · have hzx : cL z x < 0 := by unfold cL; omega
      have hk0 : 0 < k := by
        rcases Nat.eq_zero_or_pos k with e | e
        · subst e; simp at hy
        · exact e
      have e1 : out.take k = out.take (k - 1) ++ [z] := by rw [← zak hz]; congr 1; omega
      rw [e1] at hy
      rcases List.mem_append.1 hy with e | e
      · have hs : zaI cL (out.take (k - 1) ++ out.drop (k - 1)) := by rw [List.take_append_drop]; exact h.st
        have h5 := (List.pairwise_append.1 hs).2.2 y e z (by rw [zaW hz]; exact List.mem_cons_self)
        exact (zcJ.tr y z x).lt1 h5 (by omega)
      · rw [List.mem_singleton.1 e]; exact hzx
  · obtain ⟨j, hj⟩ := List.mem_iff_getElem?.1 hy
    rw [List.getElem?_drop] at hj
    have := h1 (k + j) y (by omega) hj
    have e := zcJ.neg y x
    unfold cL at *; omega
  · refine (insAt_perm out k x).trans ?_
    rw [zak hx]
    exact List.Perm.append_right [x] h.pm
theorem RO.done {l out : List RowD} {i : Nat} (h : RO l i out) (hi : l.length ≤ i) : out = ordL l ∧ 0 = ordE l := by
  have hp := h.pm
  rw [List.take_of_length_le hi] at hp
  have e := strict_isort zcJ h.st hp
  have hb : ordB l = true := by unfold ordB; rw [e]; exact decide_eq_true h.st
  unfold ordL ordE; rw [hb, e]; exact ⟨rfl, rfl⟩
theorem ord_no {l : List RowD} (h : ordB l = false) : [] = ordL l ∧ 6 = ordE l := by unfold ordL ordE; rw [h]; exact ⟨rfl, rfl⟩
theorem RO.bad {l out : List RowD} {i k : Nat} {x y : RowD} (h : RO l i out) (hx : l[i]? = some x) (hy : out[k]? = some y) (e : z2 y.ls x.ls = 0) : [] = ordL l ∧ 6 = ordE l := ord_no (by
  rcases ek : ordB l with _ | _
  · rfl
  · exfalso
    have hst : zaI cL (zN cL l) := by unfold zaI; unfold ordB at ek; exact of_decide_eq_true ek
    have hp := zc2 (c := cL) l
    have hl : l = l.take i ++ (x :: l.drop (i + 1)) := by rw [← zaW hx, List.take_append_drop]
    have hyt : y ∈ l.take i := h.pm.mem_iff.1 (zbb hy)
    have hnd : (l.map (·.ls)).Nodup := by
      have h1 : ((zN cL l).map (·.ls)).Nodup := by
        rw [List.Nodup, List.pairwise_map]
        exact List.Pairwise.imp (fun {a b} hab e => by unfold cL at hab; rw [e, cmpLs_self] at hab; omega) hst
      exact (hp.map (·.ls)).nodup_iff.1 h1
    rw [hl, List.map_append, List.nodup_append] at hnd
    exact hnd.2.2 y.ls (List.mem_map.2 ⟨y, hyt, rfl⟩) x.ls (by simp) (cmpLs_eq.1 e))
def valB (v : Int) : Bool := decide (-1000000000000 ≤ v) && decide (v ≤ 1000000000000)
def zbe (l : List Lbl) : Bool := zad l && decide (z2 (zQ l) l = 0)
def zbu (l : List RowD) : Bool := l.all (fun r => zbe r.ls && valB r.v)
def rtL (l : List RowD) : List RowD := bif decide (l.length ≤ 2000) && zbu l then ordL l else []
def rtE (l : List RowD) : Int := bif decide (l.length ≤ 2000) && zbu l then ordE l else 1
theorem zcN {l : List RowD} (h : (2000 : Int) < ((l.length : Nat) : Int)) : [] = rtL l ∧ 1 = rtE l := by
  have : ¬ l.length ≤ 2000 := by omega
  unfold rtL rtE; rw [decide_eq_false this]; exact ⟨rfl, rfl⟩
theorem zdb {l : List RowD} {i : Nat} {x : RowD} (hx : l[i]? = some x) (h : (zbe x.ls && valB x.v) = false) : [] = rtL l ∧ 1 = rtE l := by
  have : zbu l = false := by unfold zbu; rw [List.all_eq_false]; exact ⟨x, zbb hx, by rw [h]; simp⟩
  unfold rtL rtE; rw [this, Bool.and_false]; exact ⟨rfl, rfl⟩
theorem zdZ {l : List RowD} (h1 : ¬ (2000 : Int) < ((l.length : Nat) : Int)) (h2 : zbu l = true) : ordL l = rtL l ∧ ordE l = rtE l := by
  have : l.length ≤ 2000 := by omega
  unfold rtL rtE; rw [decide_eq_true this, h2]; exact ⟨rfl, rfl⟩
theorem rt_strict {l : List RowD} (h : rtE l = 0) : zaI cL (rtL l) ∧ (rtL l).Perm l := by
  unfold rtE rtL at *
  cases hb : decide (l.length ≤ 2000) && zbu l
  · rw [hb] at h; cases h
  · rw [hb] at h
    unfold ordE at h
    simp only [cond_true] at h ⊢
    cases ho : ordB l
    · rw [ho] at h; cases h
    · unfold ordL; rw [ho]
      have hst : zaI cL (zN cL l) := by unfold zaI; unfold ordB at ho; exact of_decide_eq_true ho
      exact ⟨hst, zc2 l⟩
/-- one more row, if it may be -/
def zbq (out : List RowD) (r : RowD) : List RowD :=
  if zad r.ls = true ∧ valB r.v = true ∧ rtE (out ++ [⟨zQ r.ls, r.v⟩]) = 0 then rtL (out ++ [⟨zQ r.ls, r.v⟩]) else out
def zk (l : List RowD) : List RowD := l.foldl zbq []
theorem tidyRs_snoc {l : List RowD} {k : Nat} {x : RowD} (h : l[k]? = some x) : zk (l.take (k + 1)) = zbq (zk (l.take k)) x := by
  rw [zak h]; unfold zk; rw [List.foldl_append]; rfl
structure TRs (l out : List RowD) : Prop where
  st : zaI cL out
  li : ∀ r ∈ out, zaH r.ls = true
  len : out.length ≤ l.length
theorem tidyL_light {l : List Lbl} (h : zaH l = true) : zaH (zQ l) = true := by
  have h1 := tidyL_len l
  have h2 := lightL_len h
  have hm : ∀ x ∈ zQ l, x.n.size ≤ 200 ∧ x.v.size ≤ 200 := fun x hx => light_sizes h x (tidyL_mem hx)
  unfold zaH
  rw [Bool.and_eq_true, List.all_eq_true]
  exact ⟨fun x hx => by have := hm x (List.mem_of_mem_take hx); simp [this], by rw [decide_eq_true_eq]; omega⟩
theorem tidyRs_trs : ∀ {l : List RowD}, (∀ r ∈ l, zaH r.ls = true) → TRs l (zk l) := by
  intro l hl
  have key : ∀ (m out : List RowD) (n : Nat), (∀ r ∈ m, zaH r.ls = true) → zaI cL out → (∀ r ∈ out, zaH r.ls = true) → out.length ≤ n → zaI cL (m.foldl zbq out) ∧ (∀ r ∈ m.foldl zbq out, zaH r.ls = true) ∧ (m.foldl zbq out).length ≤ n + m.length := by
    intro m
    induction m with
    | nil => intro out n _ h1 h2 h3; exact ⟨h1, h2, by simpa using h3⟩
    | cons x m ih =>
      intro out n hm h1 h2 h3
      have hx := hm x List.mem_cons_self
      have hm' : ∀ r ∈ m, zaH r.ls = true := fun r hr => hm r (List.mem_cons_of_mem _ hr)
      have step : zaI cL (zbq out x) ∧ (∀ r ∈ zbq out x, zaH r.ls = true) ∧ (zbq out x).length ≤ n + 1 := by
        unfold zbq
        split
        · rename_i hc
          obtain ⟨s1, s2⟩ := rt_strict hc.2.2
          refine ⟨s1, fun r hr => ?_, by rw [s2.length_eq]; simp; omega⟩
          rcases List.mem_append.1 (s2.mem_iff.1 hr) with e | e
          · exact h2 r e
          · rw [List.mem_singleton.1 e]; exact tidyL_light hx
        · exact ⟨h1, h2, by omega⟩
      have := ih (zbq out x) (n + 1) hm' step.1 step.2.1 step.2.2
      refine ⟨this.1, this.2.1, ?_⟩
      have := this.2.2; simp only [List.foldl_cons, List.length_cons]; omega
  have := key l [] 0 hl List.Pairwise.nil (fun _ h => by cases h) (Nat.le_refl _)
  exact ⟨this.1, this.2.1, by have := this.2.2; unfold zk; omega⟩
theorem rowsB_snoc {l : List RowD} {k : Nat} {x : RowD} (hx : l[k]? = some x) (h : zbu (l.take k) = true) (hr : zbe x.ls = true) (hv : valB x.v = true) : zbu (l.take (k + 1)) = true := by
  unfold zbu at *; exact zbL hx h (by simp [hr, hv])
theorem light_nz {l : List Lbl} (h : zaH l = true) : ∀ x ∈ l, x.n.size ≤ 1000000 := fun x hx => by have := light_sizes h x hx; omega
theorem trStep_no {out : List RowD} {r : RowD} (h : zad r.ls = false ∨ valB r.v = false) : zbq out r = out := by
  unfold zbq; rw [if_neg]; rintro ⟨h1, h2, _⟩; rcases h with h | h
  · rw [h] at h1; cases h1
  · rw [h] at h2; cases h2
theorem trStep_t {out : List RowD} {r : RowD} (h1 : zad r.ls = true) (h2 : valB r.v = true) (h3 : rtE (out ++ [⟨zQ r.ls, r.v⟩]) = 0) : zbq out r = rtL (out ++ [⟨zQ r.ls, r.v⟩]) := by unfold zbq; rw [if_pos ⟨h1, h2, h3⟩]
theorem trStep_f {out : List RowD} {r : RowD} (h3 : ¬ rtE (out ++ [⟨zQ r.ls, r.v⟩]) = 0) : zbq out r = out := by unfold zbq; rw [if_neg (fun h => h3 h.2.2)]
theorem trs_take {l : List RowD} (h : ∀ r ∈ l, zaH r.ls = true) (k : Nat) : TRs (l.take k) (zk (l.take k)) := tidyRs_trs (fun r hr => h r (List.mem_of_mem_take hr))
end Lp
