/-
  Texts of labels tell labels apart; names in tidy labels are all different.
-/
import Derived.Test.YtjhkajkickngmaaPLaw2
set_option linter.unusedVariables false
namespace Lp
open Go

/-! ### names in tidy labels -/
def NSrt (l : List Lbl) : Prop := l.Pairwise (fun a b => cmpS a.n b.n < 0)
theorem cmpLbl_n {a b : Lbl} (h : cmpLbl a b ≤ 0) : cmpS a.n b.n ≤ 0 := by
  unfold cmpLbl or2 at h; split at h <;> omega
theorem tidyFrom_n : ∀ (l : List Lbl) (p : Option ByteArray), Srt cmpLbl l → tidyFrom p l = true → NSrt l ∧ ∀ x ∈ l, okL x = true
  | [], _, _, _ => ⟨List.Pairwise.nil, fun _ h => by cases h⟩
  | x :: r, p, hs, ht => by
    have hs' := List.pairwise_cons.1 hs
    unfold tidyFrom at ht
    simp only [Bool.and_eq_true] at ht
    obtain ⟨h1, h2, h3⟩ := ht
    have ih := tidyFrom_n r (some x.n) hs'.2 h3
    refine ⟨List.pairwise_cons.2 ⟨?_, ih.1⟩, ?_⟩
    · intro y hy
      cases r with
      | nil => cases hy
      | cons z r =>
        have hxz : cmpS x.n z.n < 0 := by
          have h4 := cmpLbl_n (hs'.1 z List.mem_cons_self)
          have h5 : ¬ x.n = z.n := by
            unfold tidyFrom at h3; simp only [Bool.and_eq_true, Bool.not_eq_true', decide_eq_false_iff_not] at h3
            intro e; exact h3.2.1 (congrArg some e)
          have h6 : cmpS x.n z.n ≠ 0 := fun e => h5 ((cmpS_eq _ _).1 e)
          omega
        rcases List.mem_cons.1 hy with e | e
        · rw [e]; exact hxz
        · have h7 := (List.pairwise_cons.1 ih.1).1 y e
          exact (cmpS_tr x.n z.n y.n).lt1 hxz (by omega)
    · intro y hy
      rcases List.mem_cons.1 hy with e | e
      · rw [e]; exact h1
      · exact ih.2 y e
theorem tidy_n {l : List Lbl} (h : tidyE l = 0) : NSrt (tidyL l) ∧ ∀ x ∈ tidyL l, okL x = true := by
  rcases tidyE_cases l with ⟨_, h2, h3⟩ | ⟨h2, _⟩
  · have hs := tidy_srt l
    rw [h3] at hs ⊢
    exact tidyFrom_n _ none hs (tidy_ok_b h2)
  · omega
theorem hasN_one {n m : ByteArray} : hasN [n] m = decide (n = m) := by unfold hasN; simp
/-- of the labels of one name there is one, and its value is what is got; or none -/
theorem pick_get {n : ByteArray} : ∀ {l : List Lbl}, NSrt l → (pickL l [n] true = [] ∧ getL l n = ByteArray.empty) ∨ pickL l [n] true = [⟨n, getL l n⟩]
  | [], _ => .inl ⟨rfl, rfl⟩
  | x :: r, h => by
    have h' := List.pairwise_cons.1 h
    by_cases e : x.n = n
    · right
      have hr : pickL r [n] true = [] := by
        unfold pickL; rw [List.filter_eq_nil_iff]; intro y hy
        have := h'.1 y hy
        rw [hasN_one]
        have hne : ¬ n = y.n := fun e2 => by
          have h0 := (cmpS_eq x.n y.n).2 (e.trans e2)
          omega
        simp [hne]
      have hg : getL (x :: r) n = x.v := by unfold getL; rw [List.find?_cons_of_pos (by simp [e])]; rfl
      rw [hg]
      have hp : pickL (x :: r) [n] true = x :: pickL r [n] true := by unfold pickL; rw [List.filter_cons_of_pos (by rw [hasN_one]; simp [e])]
      rw [hp, hr]; obtain ⟨xn, xv⟩ := x; simp at e; simp [e]
    · have hg : getL (x :: r) n = getL r n := by unfold getL; rw [List.find?_cons_of_neg (by simp [e])]
      have hne : ¬ n = x.n := fun e2 => e e2.symm
      have hp : pickL (x :: r) [n] true = pickL r [n] true := by unfold pickL; rw [List.filter_cons_of_neg (by rw [hasN_one]; simp [hne])]
      rw [hg, hp]; exact pick_get h'.2

/-! ### what a text of runes is made of -/
def bts (s : ByteArray) (p : Nat) : List UInt8 := s.data.toList.drop p
theorem bts_cons {s : ByteArray} {p : Nat} (h : p < s.size) : bts s p = s.get! p :: bts s (p + 1) := by
  unfold bts
  have h' : p < s.data.toList.length := by simpa using h
  rw [List.drop_eq_getElem_cons h']
  congr 1
  simp [ByteArray.get!, h]
theorem ofNat_eq {a b : Nat} (h : UInt8.ofNat a = UInt8.ofNat b) : a % 256 = b % 256 := by
  have := congrArg UInt8.toNat h; simpa using this
theorem u8_of {b : UInt8} {n : Nat} (h : b.toNat = n % 256) : b = UInt8.ofNat n := by
  apply UInt8.toNat_inj.1; simpa using h
theorem extract_bts {s : ByteArray} {p : Nat} : (s.extract p s.size).data.toList = bts s p := by
  unfold bts
  simp only [ByteArray.data_extract, Array.toList_extract, List.extract]
  rw [List.take_of_length_le]
  simp
theorem hasP_bts {s : ByteArray} {p : Nat} (h : hasP (s.extract p s.size) wide = true) : ∃ r, bts s p = 239 :: 191 :: 189 :: r := by
  unfold hasP at h
  simp only [Bool.and_eq_true, decide_eq_true_eq] at h
  have e := congrArg (fun b : ByteArray => b.data.toList) h.2
  simp only [ByteArray.data_extract, Array.toList_extract, List.extract] at e
  have e2 : (s.extract p s.size).data.toList.take 3 = [239, 191, 189] := by
    have e3 : List.take wide.size (List.take (s.size - p) (List.drop p s.data.toList)) = [239, 191, 189] := by simpa [wide] using e
    rw [show wide.size = 3 from rfl] at e3
    simpa using e3
  rw [extract_bts] at e2
  refine ⟨(bts s p).drop 3, ?_⟩
  have := (List.take_append_drop 3 (bts s p)).symm
  rw [e2] at this; simpa using this
theorem not_lt_bts {s : ByteArray} {p : Nat} (h : s.size ≤ p) : bts s p = [] := by unfold bts; rw [List.drop_eq_nil_iff]; simpa using h
theorem bts_lt {s : ByteArray} {p : Nat} {a : UInt8} {r : List UInt8} (h : bts s p = a :: r) : p < s.size := by
  rcases Nat.lt_or_ge p s.size with h' | h'
  · exact h'
  · rw [not_lt_bts h'] at h; cases h
theorem bts_head {s : ByteArray} {p : Nat} {a : UInt8} {r : List UInt8} (h : bts s p = a :: r) : s.get! p = a ∧ bts s (p + 1) = r := by
  rw [bts_cons (bts_lt h)] at h; injection h with h1 h2; exact ⟨h1, h2⟩
/-- what is decoded: the bytes of a rune, or a byte that is none -/
theorem dec_cases (s : ByteArray) (p : Nat) (h : p < s.size) :
    (bts s p = encR (decR s p) ++ bts s (p + decW s p)) ∨ (decR s p = 65533 ∧ decW s p = 1 ∧ hasP (s.extract p s.size) wide = false) := by
  by_cases hw : hasP (s.extract p s.size) wide = true
  · left
    obtain ⟨r, hr⟩ := hasP_bts hw
    obtain ⟨g0, b1⟩ := bts_head hr
    obtain ⟨g1, b2⟩ := bts_head b1
    obtain ⟨g2, b3⟩ := bts_head b2
    have l2 := bts_lt b2
    have hd : Utf8.decode s p = (65533, 3) := by
      unfold Utf8.decode
      simp only [Nat.add_zero, g0, g1, show p + 2 = p + 1 + 1 from rfl, g2, show p + 1 < s.size by omega, l2, decide_true, Bool.true_and]
      simp [Utf8.valid]
    have e1 : decR s p = 65533 := by unfold decR; rw [hd]
    have e2 : decW s p = 3 := by unfold decW; rw [hd]
    rw [e1, e2, hr, show p + 3 = p + 1 + 1 + 1 from rfl, b3]
    rfl
  · have hw : hasP (s.extract p s.size) wide = false := by simpa using hw
    have l0 : (s.get! p).toNat < 256 := UInt8.toNat_lt _
    have l1 : (s.get! (p + 1)).toNat < 256 := UInt8.toNat_lt _
    have l2 : (s.get! (p + 2)).toNat < 256 := UInt8.toNat_lt _
    have l3 : (s.get! (p + 3)).toNat < 256 := UInt8.toNat_lt _
    have c0 := bts_cons h
    unfold decR decW
    unfold Utf8.decode
    simp only [Nat.add_zero, Utf8.runeError, Bool.and_eq_true, decide_eq_true_eq, beq_iff_eq]
    by_cases h1 : (s.get! p).toNat < 128
    · left
      rw [if_pos h1]
      show _ = encR (s.get! p).toNat ++ _
      unfold encR
      rw [if_pos (show (s.get! p).toNat ≤ 127 by omega), c0]
      congr 1; exact u8_of (by omega)
    · rw [if_neg h1]
      by_cases h2 : (s.get! p).toNat / 32 = 6 ∧ p + 1 < s.size ∧ (s.get! (p + 1)).toNat / 64 = 2
      · rw [if_pos h2]
        have c1 := bts_cons h2.2.1
        by_cases h3 : (s.get! p).toNat % 32 * 64 + (s.get! (p + 1)).toNat % 64 ≥ 128
        · left
          rw [if_pos h3]
          show _ = encR ((s.get! p).toNat % 32 * 64 + (s.get! (p + 1)).toNat % 64) ++ _
          unfold encR
          rw [if_neg (by omega), if_pos (by omega), c0, c1]
          show _ = _ :: _ :: _
          congr 1
          · exact u8_of (by omega)
          · congr 1; exact u8_of (by omega)
        · right; rw [if_neg h3]; exact ⟨rfl, rfl, hw⟩
      · rw [if_neg h2]
        by_cases h4 : ((s.get! p).toNat / 16 = 14 ∧ p + 1 < s.size ∧ (s.get! (p + 1)).toNat / 64 = 2) ∧ p + 2 < s.size ∧ (s.get! (p + 2)).toNat / 64 = 2
        · rw [if_pos h4]
          have c1 := bts_cons h4.1.2.1
          have c2 := bts_cons h4.2.1
          by_cases h3 : (s.get! p).toNat % 16 * 4096 + (s.get! (p + 1)).toNat % 64 * 64 + (s.get! (p + 2)).toNat % 64 ≥ 2048 ∧ Utf8.valid (((s.get! p).toNat % 16 * 4096 + (s.get! (p + 1)).toNat % 64 * 64 + (s.get! (p + 2)).toNat % 64 : Nat) : Int) = true
          · left
            rw [if_pos h3]
            show _ = encR ((s.get! p).toNat % 16 * 4096 + (s.get! (p + 1)).toNat % 64 * 64 + (s.get! (p + 2)).toNat % 64) ++ _
            have hv := h3.2
            unfold Utf8.valid at hv
            simp only [Bool.or_eq_true, Bool.and_eq_true, decide_eq_true_eq] at hv
            unfold encR
            rw [if_neg (by omega), if_neg (by omega), if_pos (by omega), c0, c1, c2]
            show _ = _ :: _ :: _ :: _
            congr 1
            · exact u8_of (by omega)
            · congr 1
              · exact u8_of (by omega)
              · congr 1; exact u8_of (by omega)
          · right; rw [if_neg h3]; exact ⟨rfl, rfl, hw⟩
        · rw [if_neg h4]
          by_cases h5 : (((s.get! p).toNat / 8 = 30 ∧ p + 1 < s.size ∧ (s.get! (p + 1)).toNat / 64 = 2) ∧ p + 2 < s.size ∧ (s.get! (p + 2)).toNat / 64 = 2) ∧ p + 3 < s.size ∧ (s.get! (p + 3)).toNat / 64 = 2
          · rw [if_pos h5]
            have c1 := bts_cons h5.1.1.2.1
            have c2 := bts_cons h5.1.2.1
            have c3 := bts_cons h5.2.1
            by_cases h3 : (s.get! p).toNat % 8 * 262144 + (s.get! (p + 1)).toNat % 64 * 4096 + (s.get! (p + 2)).toNat % 64 * 64 + (s.get! (p + 3)).toNat % 64 ≥ 65536 ∧ Utf8.valid (((s.get! p).toNat % 8 * 262144 + (s.get! (p + 1)).toNat % 64 * 4096 + (s.get! (p + 2)).toNat % 64 * 64 + (s.get! (p + 3)).toNat % 64 : Nat) : Int) = true
            · left
              rw [if_pos h3]
              show _ = encR ((s.get! p).toNat % 8 * 262144 + (s.get! (p + 1)).toNat % 64 * 4096 + (s.get! (p + 2)).toNat % 64 * 64 + (s.get! (p + 3)).toNat % 64) ++ _
              have hv := h3.2
              unfold Utf8.valid at hv
              simp only [Bool.or_eq_true, Bool.and_eq_true, decide_eq_true_eq] at hv
              unfold encR
              rw [if_neg (by omega), if_neg (by omega), if_neg (by omega), if_pos (by omega), c0, c1, c2, c3]
              show _ = _ :: _ :: _ :: _ :: _
              congr 1
              · exact u8_of (by omega)
              · congr 1
                · exact u8_of (by omega)
                · congr 1
                  · exact u8_of (by omega)
                  · congr 1; exact u8_of (by omega)
            · right; rw [if_neg h3]; exact ⟨rfl, rfl, hw⟩
          · right; rw [if_neg h5]; exact ⟨rfl, rfl, hw⟩

/-! ### names have no sign of equality -/
theorem encR_no {c : Nat} {x : UInt8} (hx : x.toNat < 128) (h : x ∈ encR c) : c = x.toNat := by
  unfold encR at h
  split at h
  · simp at h; rw [h]; simp; omega
  · exfalso
    have key : ∀ n : Nat, 128 ≤ n % 256 → x ≠ UInt8.ofNat n := fun n hn e => by rw [e] at hx; simp at hx; omega
    split at h
    · simp only [List.mem_cons, List.not_mem_nil, or_false] at h
      rcases h with h | h <;> exact key _ (by omega) h
    · split at h
      · simp only [List.mem_cons, List.not_mem_nil, or_false] at h
        rcases h with h | h | h <;> exact key _ (by omega) h
      · split at h
        · simp only [List.mem_cons, List.not_mem_nil, or_false] at h
          rcases h with h | h | h | h <;> exact key _ (by omega) h
        · simp only [List.mem_cons, List.not_mem_nil, or_false] at h
          rcases h with h | h | h <;> (rw [h] at hx; revert hx; decide)
theorem word_no (s : ByteArray) : ∀ (n p : Nat), s.size - p = n → wordR (runesAt s p) = true → (61 : UInt8) ∉ bts s p := by
  intro n
  induction n using Nat.strongRecOn with
  | _ n ih =>
    intro p hp hw hm
    rcases Nat.lt_or_ge p s.size with h | h
    · rw [runesAt_lt h, wordR_cons, Bool.and_eq_true, decide_eq_true_eq] at hw
      rcases dec_cases s p h with e | ⟨e, _, _⟩
      · rw [e] at hm
        rcases List.mem_append.1 hm with hm | hm
        · have := encR_no (x := 61) (by decide) hm
          rw [this] at hw; have hw := hw.1; revert hw; decide
        · have := decW_pos s p
          exact ih _ (by omega) (p + decW s p) rfl hw.2 hm
      · rw [e] at hw; have hw := hw.1; revert hw; decide
    · rw [not_lt_bts h] at hm; cases hm
theorem name_no {s : ByteArray} (h : nameB s = true) : (61 : UInt8) ∉ s.data.toList := by
  unfold nameB at h
  rw [nameR_start] at h
  simp only [Bool.and_eq_true] at h
  have := word_no s _ 0 rfl h.2
  simpa [bts] using this

/-! ### between quotation marks -/
inductive Tok : List UInt8 → List UInt8 → Prop where
  | esc {c : UInt8} : c = 34 ∨ c = 92 → Tok [92, c] [c]
  | nl : Tok [92, 110] [10]
  | hex {b : UInt8} : Tok [92, 120, hexB (b.toNat / 16), hexB (b.toNat % 16)] [b]
  | raw {c : Nat} : c < 1114112 → c ≠ 34 → c ≠ 92 → c ≠ 10 → Tok (encR c) (encR c)
theorem byteAt_get {s : ByteArray} {p : Nat} (h : p < s.size) : byteAt s p = (s.get! p).toNat := by
  unfold byteAt; congr 1; simp [ByteArray.get!, h]; rfl
theorem piece_tok {s : ByteArray} {p : Nat} (h : p < s.size) : ∃ src, Tok (piece s p) src ∧ bts s p = src ++ bts s (p + decW s p) := by
  have hl := decR_lt s p
  rcases dec_cases s p h with e | ⟨e1, e2, e3⟩
  · by_cases h1 : decR s p = 34 ∨ decR s p = 92
    · refine ⟨encR (decR s p), ?_, e⟩
      rw [piece_1 h1]
      rcases h1 with h1 | h1 <;> rw [h1]
      · exact .esc (.inl rfl)
      · exact .esc (.inr rfl)
    · by_cases h2 : decR s p = 10
      · refine ⟨encR (decR s p), ?_, e⟩
        rw [piece_2 h1 h2, h2]; exact .nl
      · by_cases h3 : decR s p = 65533 ∧ hasP (s.extract p s.size) wide = false
        · exfalso
          have hr : bts s p = 239 :: 191 :: 189 :: bts s (p + decW s p) := by rw [e, h3.1]; rfl
          have : hasP (s.extract p s.size) wide = true := by
            unfold hasP
            have e4 := extract_bts (s := s) (p := p)
            rw [hr] at e4
            have hsz : 3 ≤ (s.extract p s.size).size := by
              have := congrArg List.length e4
              simp only [Array.length_toList, List.length_cons] at this
              show 3 ≤ (s.extract p s.size).data.size
              omega
            have hx : (s.extract p s.size).extract 0 wide.size = wide := by
              apply ByteArray.ext
              apply Array.toList_inj.1
              rw [ByteArray.data_extract, Array.toList_extract, List.extract, e4]
              rfl
            rw [hx, show wide.size = 3 from rfl, decide_eq_true hsz]; simp
          rw [h3.2] at this; cases this
        · refine ⟨encR (decR s p), ?_, e⟩
          rw [piece_4 h1 h2 h3]
          exact .raw hl (fun e => h1 (.inl e)) (fun e => h1 (.inr e)) h2
  · refine ⟨[s.get! p], ?_, ?_⟩
    · rw [piece_3 (by rw [e1]; decide) (by rw [e1]; decide) ⟨e1, e3⟩, byteAt_get h]; exact .hex
    · rw [e2]; exact bts_cons h
def elen (b : UInt8) : Nat := if b.toNat < 192 then 1 else if b.toNat < 224 then 2 else if b.toNat < 240 then 3 else 4
def olen : List UInt8 → Nat
  | [] => 0
  | b :: r => if b = 92 then (if r.head? = some 120 then 4 else 2) else elen b
theorem encR_head {c : Nat} (hc : c < 1114112) : ∃ b r, encR c = b :: r ∧ (encR c).length = elen b ∧ (b = 92 → c = 92) ∧ (b = 34 → c = 34) := by
  have ne : ∀ n m : Nat, m < 128 → 128 ≤ n % 256 → UInt8.ofNat n ≠ UInt8.ofNat m := fun n m hm hn e => by have := ofNat_eq e; omega
  unfold encR elen
  split
  · refine ⟨_, _, rfl, ?_, ?_, ?_⟩
    · have : (UInt8.ofNat (c % 256)).toNat < 192 := by simp; omega
      rw [if_pos this]; rfl
    · intro e; have := ofNat_eq (b := 92) e; omega
    · intro e; have := ofNat_eq (b := 34) e; omega
  · split
    · refine ⟨_, _, rfl, ?_, ?_, ?_⟩
      · have h1 : ¬ (UInt8.ofNat (192 + c / 64 % 256)).toNat < 192 := by simp; omega
        have h2 : (UInt8.ofNat (192 + c / 64 % 256)).toNat < 224 := by simp; omega
        rw [if_neg h1, if_pos h2]; rfl
      · intro e; exact absurd e (ne _ 92 (by decide) (by omega))
      · intro e; exact absurd e (ne _ 34 (by decide) (by omega))
    · split
      · refine ⟨_, _, rfl, ?_, ?_, ?_⟩
        · have h1 : ¬ (UInt8.ofNat (224 + c / 4096 % 256)).toNat < 192 := by simp; omega
          have h2 : ¬ (UInt8.ofNat (224 + c / 4096 % 256)).toNat < 224 := by simp; omega
          have h3 : (UInt8.ofNat (224 + c / 4096 % 256)).toNat < 240 := by simp; omega
          rw [if_neg h1, if_neg h2, if_pos h3]; rfl
        · intro e; exact absurd e (ne _ 92 (by decide) (by omega))
        · intro e; exact absurd e (ne _ 34 (by decide) (by omega))
      · split
        · refine ⟨_, _, rfl, ?_, ?_, ?_⟩
          · have h1 : ¬ (UInt8.ofNat (240 + c / 262144 % 256)).toNat < 192 := by simp; omega
            have h2 : ¬ (UInt8.ofNat (240 + c / 262144 % 256)).toNat < 224 := by simp; omega
            have h3 : ¬ (UInt8.ofNat (240 + c / 262144 % 256)).toNat < 240 := by simp; omega
            rw [if_neg h1, if_neg h2, if_neg h3]; rfl
          · intro e; exact absurd e (ne _ 92 (by decide) (by omega))
          · intro e; exact absurd e (ne _ 34 (by decide) (by omega))
        · refine ⟨_, _, rfl, by decide, fun e => absurd e (by decide), fun e => absurd e (by decide)⟩
theorem tok_len {o s : List UInt8} (h : Tok o s) (r : List UInt8) : olen (o ++ r) = o.length := by
  cases h with
  | esc h => rcases h with h | h <;> rw [h] <;> rfl
  | nl => rfl
  | hex => rfl
  | raw hc _ h92 _ =>
    obtain ⟨b, t, e, el, hb, _⟩ := encR_head hc
    rw [el, e]
    show (if b = 92 then _ else elen b) = _
    rw [if_neg (fun e => h92 (hb e))]
theorem hexB_inj : ∀ a : Nat, a < 16 → ∀ b : Nat, b < 16 → hexB a = hexB b → a = b := by decide
theorem tok_src {o s t : List UInt8} (h : Tok o s) (h' : Tok o t) : s = t := by
  have hh : ∀ {c : Nat} {x : UInt8} {l : List UInt8}, c < 1114112 → c ≠ 92 → encR c = 92 :: l → False := fun {c _ l} hc hn e => by
    obtain ⟨b, t, e', _, hb, _⟩ := encR_head hc
    rw [e'] at e; injection e with e _; exact hn (hb e)
  generalize ho : o = o' at h'
  cases h with
  | esc h =>
    cases h' with
    | esc _ => cases ho; rfl
    | nl => injection ho with _ ho; injection ho with ho; rw [ho] at h; exact absurd h (by decide)
    | hex => cases ho
    | raw hc _ h92 _ => exact (hh (x := 0) hc h92 ho.symm).elim
  | nl =>
    cases h' with
    | esc h => injection ho with _ ho; injection ho with ho; rw [← ho] at h; exact absurd h (by decide)
    | nl => rfl
    | hex => cases ho
    | raw hc _ h92 _ => exact (hh (x := 0) hc h92 ho.symm).elim
  | @hex a =>
    cases h' with
    | esc h => cases ho
    | nl => cases ho
    | @hex b =>
      injection ho with _ ho; injection ho with _ ho; injection ho with h1 ho; injection ho with h2 _
      have la := UInt8.toNat_lt a
      have lb := UInt8.toNat_lt b
      have e1 := hexB_inj _ (by omega) _ (by omega) h1
      have e2 := hexB_inj _ (by omega) _ (by omega) h2
      have : a = b := UInt8.toNat_inj.1 (by omega)
      rw [this]
    | raw hc _ h92 _ => exact (hh (x := 0) hc h92 ho.symm).elim
  | raw hc _ h92 _ =>
    cases h' with
    | esc h => exact (hh (x := 0) hc h92 ho).elim
    | nl => exact (hh (x := 0) hc h92 ho).elim
    | hex => exact (hh (x := 0) hc h92 ho).elim
    | raw _ _ _ _ => exact ho
theorem tok_no {o s r t : List UInt8} (h : Tok o s) : o ++ r ≠ 34 :: t := by
  cases h with
  | esc _ => intro e; injection e with e _; revert e; decide
  | nl => intro e; injection e with e _; revert e; decide
  | hex => intro e; injection e with e _; revert e; decide
  | raw hc h34 _ _ =>
    obtain ⟨b, u, e, _, _, hb⟩ := encR_head hc
    rw [e]; intro e'; injection e' with e' _; exact h34 (hb e')
theorem tok_inj {o s o' s' r r' : List UInt8} (h : Tok o s) (h' : Tok o' s') (e : o ++ r = o' ++ r') : s = s' ∧ r = r' := by
  have hl : o.length = o'.length := by rw [← tok_len h r, ← tok_len h' r', e]
  obtain ⟨e1, e2⟩ := List.append_inj e hl
  subst e1; exact ⟨tok_src h h', e2⟩
theorem quote_inj : ∀ (n : Nat) (s t : ByteArray) (p q : Nat) (r r' : List UInt8), s.size - p = n → quoteAt s p ++ 34 :: r = quoteAt t q ++ 34 :: r' → bts s p = bts t q ∧ r = r' := by
  intro n
  induction n using Nat.strongRecOn with
  | _ n ih =>
    intro s t p q r r' hn e
    rcases Nat.lt_or_ge p s.size with h | h <;> rcases Nat.lt_or_ge q t.size with h' | h'
    · obtain ⟨s1, k1, b1⟩ := piece_tok h
      obtain ⟨s2, k2, b2⟩ := piece_tok h'
      rw [quoteAt_lt h, quoteAt_lt h', List.append_assoc, List.append_assoc] at e
      obtain ⟨e1, e2⟩ := tok_inj k1 k2 e
      have hp := decW_pos s p
      obtain ⟨e3, e4⟩ := ih _ (by omega) s t _ _ r r' rfl e2
      rw [b1, b2, e1, e3]; exact ⟨rfl, e4⟩
    · obtain ⟨s1, k1, _⟩ := piece_tok h
      rw [quoteAt_lt h, quoteAt_ge h', List.append_assoc] at e
      exact (tok_no k1 e).elim
    · obtain ⟨s2, k2, _⟩ := piece_tok h'
      rw [quoteAt_ge h, quoteAt_lt h', List.append_assoc] at e
      exact (tok_no k2 e.symm).elim
    · rw [quoteAt_ge h, quoteAt_ge h'] at e
      injection e with _ e
      rw [not_lt_bts h, not_lt_bts h']; exact ⟨rfl, e⟩
theorem bts_inj {s t : ByteArray} (h : bts s 0 = bts t 0) : s = t := by
  unfold bts at h; simp only [List.drop_zero] at h
  exact ByteArray.ext (Array.toList_inj.1 h)
theorem quoteB_inj {s t : ByteArray} (h : quoteB s = quoteB t) : s = t := by
  have e := congrArg (fun b : ByteArray => b.data.toList) h
  simp only [quoteB, quoteL] at e
  injection e with _ e
  exact bts_inj (quote_inj _ s t 0 0 [] [] rfl e).1

/-! ### texts of labels -/
theorem split_at {x : UInt8} : ∀ {a b r s : List UInt8}, x ∉ a → x ∉ b → a ++ x :: r = b ++ x :: s → a = b ∧ r = s
  | [], [], r, s, _, _, e => by injection e with _ e; exact ⟨rfl, e⟩
  | [], y :: b, r, s, _, hb, e => by injection e with e _; exact absurd (e ▸ List.mem_cons_self) hb
  | y :: a, [], r, s, ha, _, e => by injection e with e _; exact absurd (e ▸ List.mem_cons_self) ha
  | y :: a, z :: b, r, s, ha, hb, e => by
    injection e with e1 e2
    obtain ⟨e3, e4⟩ := split_at (fun h => ha (List.mem_cons_of_mem _ h)) (fun h => hb (List.mem_cons_of_mem _ h)) e2
    rw [e1, e3]; exact ⟨rfl, e4⟩
/-- what stands behind the first bracket -/
def txtL : List Lbl → List UInt8
  | [] => [125]
  | [x] => x.n.data.toList ++ 61 :: 34 :: (quoteAt x.v 0 ++ 34 :: [125])
  | x :: y :: r => x.n.data.toList ++ 61 :: 34 :: (quoteAt x.v 0 ++ 34 :: 44 :: txtL (y :: r))
theorem partB_list (x : Lbl) : (partB x).data.toList = x.n.data.toList ++ 61 :: 34 :: (quoteAt x.v 0 ++ [34]) := by
  unfold partB quoteB quoteL
  simp [ByteArray.data_append]
theorem txtL_join : ∀ l : List Lbl, joinL ⟨#[44]⟩ (l.map partB) ++ [125] = txtL l
  | [] => rfl
  | [x] => by
    show (partB x).data.toList ++ [125] = _
    rw [partB_list]; simp [txtL]
  | x :: y :: r => by
    have := txtL_join (y :: r)
    show (partB x).data.toList ++ [44] ++ joinL ⟨#[44]⟩ ((y :: r).map partB) ++ [125] = _
    rw [List.append_assoc, this, partB_list]; simp [txtL]
theorem textB_list (l : List Lbl) : (textB l).data.toList = 123 :: txtL l := by
  rw [← txtL_join]
  unfold textB joinB
  simp [ByteArray.data_append]
theorem txtL_mem (x : Lbl) (r : List Lbl) : (61 : UInt8) ∈ txtL (x :: r) := by
  cases r <;> simp [txtL]
theorem txtL_inj : ∀ {l m : List Lbl}, (∀ x ∈ l, (61 : UInt8) ∉ x.n.data.toList) → (∀ x ∈ m, (61 : UInt8) ∉ x.n.data.toList) → txtL l = txtL m → l = m
  | [], [], _, _, _ => rfl
  | [], y :: m, _, _, e => by
    have := txtL_mem y m; rw [← e] at this; exact absurd this (by decide)
  | x :: l, [], _, _, e => by
    have := txtL_mem x l; rw [e] at this; exact absurd this (by decide)
  | x :: l, y :: m, hl, hm, e => by
    have key : ∀ {R R' : List UInt8}, x.n.data.toList ++ 61 :: 34 :: (quoteAt x.v 0 ++ 34 :: R) = y.n.data.toList ++ 61 :: 34 :: (quoteAt y.v 0 ++ 34 :: R') → x = y ∧ R = R' := by
      intro R R' e
      obtain ⟨e1, e2⟩ := split_at (hl x List.mem_cons_self) (hm y List.mem_cons_self) e
      injection e2 with _ e2
      obtain ⟨e3, e4⟩ := quote_inj _ x.v y.v 0 0 R R' rfl e2
      obtain ⟨xn, xv⟩ := x; obtain ⟨yn, yv⟩ := y
      simp only at e1 e3 e4 ⊢
      rw [ByteArray.ext (Array.toList_inj.1 e1), bts_inj e3]; exact ⟨rfl, e4⟩
    cases l with
    | nil => cases m with
      | nil => obtain ⟨e1, _⟩ := key e; rw [e1]
      | cons z m => obtain ⟨_, e2⟩ := key e; injection e2 with e2 _; exact absurd e2 (by decide)
    | cons z l => cases m with
      | nil => obtain ⟨_, e2⟩ := key e; injection e2 with e2 _; exact absurd e2 (by decide)
      | cons z' m =>
        obtain ⟨e1, e2⟩ := key e
        injection e2 with _ e2
        rw [e1, txtL_inj (fun x h => hl x (List.mem_cons_of_mem _ h)) (fun x h => hm x (List.mem_cons_of_mem _ h)) e2]
theorem okL_name {x : Lbl} (h : okL x = true) : nameB x.n = true := by unfold okL at h; simp only [Bool.and_eq_true] at h; exact h.1
/-- tidy labels have the same text just if they are the same -/
theorem textB_inj {l m : List Lbl} (hl : tidyE l = 0) (hm : tidyE m = 0) (h : textB (tidyL l) = textB (tidyL m)) : tidyL l = tidyL m := by
  have e := congrArg (fun b : ByteArray => b.data.toList) h
  simp only [textB_list] at e
  injection e with _ e
  exact txtL_inj (fun x hx => name_no (okL_name ((tidy_n hl).2 x hx))) (fun x hx => name_no (okL_name ((tidy_n hm).2 x hx))) e
theorem pick_perm (l : List Lbl) (ns : List ByteArray) : (pickL l ns true ++ pickL l ns false).Perm l := by
  have := List.filter_append_perm (fun x : Lbl => hasN ns x.n) l
  unfold pickL
  have e1 : l.filter (fun x => hasN ns x.n == true) = l.filter (fun x => hasN ns x.n) := by congr 1; funext x; simp
  have e2 : l.filter (fun x => hasN ns x.n == false) = l.filter (fun x => !hasN ns x.n) := by congr 1; funext x; cases hasN ns x.n <;> rfl
  rw [e1, e2]; exact this
theorem tidy_both {l : List Lbl} (h : tidyE l = 0) (ns : List ByteArray) : tidyE (pickL (tidyL l) ns true ++ pickL (tidyL l) ns false) = 0 ∧ tidyL (pickL (tidyL l) ns true ++ pickL (tidyL l) ns false) = tidyL l := by
  have := tidy_perm (pick_perm (tidyL l) ns)
  have t := tidy_tidy h
  exact ⟨this.2.trans t.2, this.1.trans t.1⟩
theorem tidyL_mem {l : List Lbl} {x : Lbl} (h : x ∈ tidyL l) : x ∈ l := by
  rcases tidyE_cases l with ⟨_, _, h3⟩ | ⟨_, h3⟩ <;> rw [h3] at h
  · exact ((isort_stab cmpLbl_cmp _ l rfl).mem cmpLbl_cmp x).1 h
  · cases h
theorem tidyE_le (l : List Lbl) (h : tidyE l = 0) : (tidyL l).length ≤ 8 := by
  rcases tidyE_cases l with ⟨_, h2, h3⟩ | ⟨h2, _⟩
  · rw [h3, isort_len']; exact tidy_ok_len h2
  · omega
theorem light_sizes {l : List Lbl} (h : lightL l = true) : ∀ x ∈ l, x.n.size ≤ 200 ∧ x.v.size ≤ 200 := by
  intro x hx
  have hl := lightL_len h
  unfold lightL at h
  rw [Bool.and_eq_true, List.take_of_length_le (by omega), List.all_eq_true] at h
  have := h.1 x hx
  simpa using this
theorem tidy_sizes {l : List Lbl} (h : lightL l = true) : ∀ x ∈ tidyL l, x.n.size ≤ 100000 ∧ x.v.size ≤ 100000 := by
  intro x hx; have := light_sizes h x (tidyL_mem hx); omega
end Lp
