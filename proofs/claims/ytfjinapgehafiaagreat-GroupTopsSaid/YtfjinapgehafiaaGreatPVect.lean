/-
  Texts of labels tell labels apart; names in tidy labels are all different.
-/
import Derived.Test.YtfjinapgehafiaaGreatPLaw2
set_option linter.unusedVariables false
namespace Lp
open Go

/-! ### names in tidy labels -/
def NSrt (l : List Lbl) : Prop := l.Pairwise (fun a b => cmpS a.n b.n < 0)
theorem cmpLbl_n {a b : Lbl} (h : zD a b ≤ 0) : cmpS a.n b.n ≤ 0 := by
  unfold zD or2 at h; split at h <;> omega
theorem tidyFrom_n : ∀ (l : List Lbl) (p : Option ByteArray), Srt zD l → zb3 p l = true → NSrt l ∧ ∀ x ∈ l, okL x = true
  | [], _, _, _ => ⟨List.Pairwise.nil, fun _ h => by cases h⟩
  | x :: r, p, hs, ht => by
    have hs' := List.pairwise_cons.1 hs
    unfold zb3 at ht
    simp only [Bool.and_eq_true] at ht
    obtain ⟨h1, h2, h3⟩ := ht
    have ih := tidyFrom_n r (some x.n) hs'.2 h3
    refine ⟨List.pairwise_cons.2 ⟨?_, ih.1⟩, ?_⟩
    · intro y hy
      cases r with
      | nil => cases hy
      | cons z r =>
        have hxz : cmpS x.n z.n < 0 := by
          have h4 := cmpLbl_n (hs'.1 z List.mem_cons_self)
          have h5 : ¬ x.n = z.n := by
            unfold zb3 at h3; simp only [Bool.and_eq_true, Bool.not_eq_true', decide_eq_false_iff_not] at h3
            intro e; exact h3.2.1 (congrArg some e)
          have h6 : cmpS x.n z.n ≠ 0 := fun e => h5 ((zbS _ _).1 e)
          omega
        rcases List.mem_cons.1 hy with e | e
        · rw [e]; exact hxz
        · have h7 := (List.pairwise_cons.1 ih.1).1 y e
          exact (cmpS_tr x.n z.n y.n).lt1 hxz (by omega)
    · intro y hy
      rcases List.mem_cons.1 hy with e | e
      · rw [e]; exact h1
      · exact ih.2 y e
theorem zdE {l : List Lbl} (h : zaH l = 0) : NSrt (zJ l) ∧ ∀ x ∈ zJ l, okL x = true := by
  rcases tidyE_cases l with ⟨_, h2, h3⟩ | ⟨h2, _⟩
  · have hs := tidy_srt l
    rw [h3] at hs ⊢
    exact tidyFrom_n _ none hs (tidy_ok_b h2)
  · omega
/-! ### what a text of zaS is made of -/
def bts (s : ByteArray) (p : Nat) : List UInt8 := s.data.toList.drop p
theorem zba {s : ByteArray} {p : Nat} (h : p < s.size) : bts s p = s.get! p :: bts s (p + 1) := by
  unfold bts
  have h' : p < s.data.toList.length := by simpa using h
  rw [List.drop_eq_getElem_cons h']
  congr 1
  simp [ByteArray.get!, h]
theorem ofNat_eq {a b : Nat} (h : UInt8.ofNat a = UInt8.ofNat b) : a % 256 = b % 256 := by
  have := congrArg UInt8.toNat h; simpa using this
theorem zdf {b : UInt8} {n : Nat} (h : b.toNat = n % 256) : b = UInt8.ofNat n := by
  apply UInt8.toNat_inj.1; simpa using h
theorem extract_bts {s : ByteArray} {p : Nat} : (s.extract p s.size).data.toList = bts s p := by
  unfold bts
  simp only [ByteArray.data_extract, Array.toList_extract, List.extract]
  rw [List.take_of_length_le]
  simp
theorem hasP_bts {s : ByteArray} {p : Nat} (h : hasP (s.extract p s.size) wide = true) : ∃ r, bts s p = 239 :: 191 :: 189 :: r := by
  unfold hasP at h
  simp only [Bool.and_eq_true, decide_eq_true_eq] at h
  have e := congrArg (fun b : ByteArray => b.data.toList) h.2
  simp only [ByteArray.data_extract, Array.toList_extract, List.extract] at e
  have e2 : (s.extract p s.size).data.toList.take 3 = [239, 191, 189] := by
    have e3 : List.take wide.size (List.take (s.size - p) (List.drop p s.data.toList)) = [239, 191, 189] := by simpa [wide] using e
    rw [show wide.size = 3 from rfl] at e3
    simpa using e3
  rw [extract_bts] at e2
  refine ⟨(bts s p).drop 3, ?_⟩
  have := (List.take_append_drop 3 (bts s p)).symm
  rw [e2] at this; simpa using this
theorem not_lt_bts {s : ByteArray} {p : Nat} (h : s.size ≤ p) : bts s p = [] := by unfold bts; rw [List.drop_eq_nil_iff]; simpa using h
theorem bts_lt {s : ByteArray} {p : Nat} {a : UInt8} {r : List UInt8} (h : bts s p = a :: r) : p < s.size := by
  rcases Nat.lt_or_ge p s.size with h' | h'
  · exact h'
  · rw [not_lt_bts h'] at h; cases h
theorem bts_head {s : ByteArray} {p : Nat} {a : UInt8} {r : List UInt8} (h : bts s p = a :: r) : s.get! p = a ∧ bts s (p + 1) = r := by
  rw [zba (bts_lt h)] at h; injection h with h1 h2; exact ⟨h1, h2⟩
/-- what is decoded: the bytes of a rune, or a byte that is none -/
theorem dec_cases (s : ByteArray) (p : Nat) (h : p < s.size) :
    (bts s p = encR (decR s p) ++ bts s (p + decW s p)) ∨ (decR s p = 65533 ∧ decW s p = 1 ∧ hasP (s.extract p s.size) wide = false) := by
  by_cases hw : hasP (s.extract p s.size) wide = true
  · left
    obtain ⟨r, hr⟩ := hasP_bts hw
    obtain ⟨g0, b1⟩ := bts_head hr
    obtain ⟨g1, b2⟩ := bts_head b1
    obtain ⟨g2, b3⟩ := bts_head b2
    have l2 := bts_lt b2
    have hd : Utf8.decode s p = (65533, 3) := by
      unfold Utf8.decode
      simp only [Nat.add_zero, g0, g1, show p + 2 = p + 1 + 1 from rfl, g2, show p + 1 < s.size by omega, l2, decide_true, Bool.true_and]
      simp [Utf8.valid]
    have e1 : decR s p = 65533 := by unfold decR; rw [hd]
    have e2 : decW s p = 3 := by unfold decW; rw [hd]
    rw [e1, e2, hr, show p + 3 = p + 1 + 1 + 1 from rfl, b3]
    rfl
  · have hw : hasP (s.extract p s.size) wide = false := by simpa using hw
    have l0 : (s.get! p).toNat < 256 := UInt8.toNat_lt _
    have l1 : (s.get! (p + 1)).toNat < 256 := UInt8.toNat_lt _
    have l2 : (s.get! (p + 2)).toNat < 256 := UInt8.toNat_lt _
    have l3 : (s.get! (p + 3)).toNat < 256 := UInt8.toNat_lt _
    have c0 := zba h
    unfold decR decW
    unfold Utf8.decode
    simp only [Nat.add_zero, Utf8.runeError, Bool.and_eq_true, decide_eq_true_eq, beq_iff_eq]
    by_cases h1 : (s.get! p).toNat < 128
    · left
      rw [if_pos h1]
      show _ = encR (s.get! p).toNat ++ _
      unfold encR
      rw [if_pos (show (s.get! p).toNat ≤ 127 by omega), c0]
      congr 1; exact zdf (by omega)
    · rw [if_neg h1]
      by_cases h2 : (s.get! p).toNat / 32 = 6 ∧ p + 1 < s.size ∧ (s.get! (p + 1)).toNat / 64 = 2
      · rw [if_pos h2]
        have c1 := zba h2.2.1
        by_cases h3 : (s.get! p).toNat % 32 * 64 + (s.get! (p + 1)).toNat % 64 ≥ 128
        · left
          rw [if_pos h3]
          show _ = encR ((s.get! p).toNat % 32 * 64 + (s.get! (p + 1)).toNat % 64) ++ _
          unfold encR
          rw [if_neg (by omega), if_pos (by omega), c0, c1]
          show _ = _ :: _ :: _
          congr 1
          · exact zdf (by omega)
          · congr 1; exact zdf (by omega)
        · right; rw [if_neg h3]; exact ⟨rfl, rfl, hw⟩
      · rw [if_neg h2]
        by_cases h4 : ((s.get! p).toNat / 16 = 14 ∧ p + 1 < s.size ∧ (s.get! (p + 1)).toNat / 64 = 2) ∧ p + 2 < s.size ∧ (s.get! (p + 2)).toNat / 64 = 2
        · rw [if_pos h4]
          have c1 := zba h4.1.2.1
          have c2 := zba h4.2.1
          by_cases h3 : (s.get! p).toNat % 16 * 4096 + (s.get! (p + 1)).toNat % 64 * 64 + (s.get! (p + 2)).toNat % 64 ≥ 2048 ∧ Utf8.valid (((s.get! p).toNat % 16 * 4096 + (s.get! (p + 1)).toNat % 64 * 64 + (s.get! (p + 2)).toNat % 64 : Nat) : Int) = true
          · left
            rw [if_pos h3]
            show _ = encR ((s.get! p).toNat % 16 * 4096 + (s.get! (p + 1)).toNat % 64 * 64 + (s.get! (p + 2)).toNat % 64) ++ _
            have hv := h3.2
            unfold Utf8.valid at hv
            simp only [Bool.or_eq_true, Bool.and_eq_true, decide_eq_true_eq] at hv
            unfold encR
            rw [if_neg (by omega), if_neg (by omega), if_pos (by omega), c0, c1, c2]
            show _ = _ :: _ :: _ :: _
            congr 1
            · exact zdf (by omega)
            · congr 1
              · exact zdf (by omega)
              · congr 1; exact zdf (by omega)
          · right; rw [if_neg h3]; exact ⟨rfl, rfl, hw⟩
        · rw [if_neg h4]
          by_cases h5 : (((s.get! p).toNat / 8 = 30 ∧ p + 1 < s.size ∧ (s.get! (p + 1)).toNat / 64 = 2) ∧ p + 2 < s.size ∧ (s.get! (p + 2)).toNat / 64 = 2) ∧ p + 3 < s.size ∧ (s.get! (p + 3)).toNat / 64 = 2
          · rw [if_pos h5]
            have c1 := zba h5.1.1.2.1
            have c2 := zba h5.1.2.1
            have c3 := zba h5.2.1
            by_cases h3 : (s.get! p).toNat % 8 * 262144 + (s.get! (p + 1)).toNat % 64 * 4096 + (s.get! (p + 2)).toNat % 64 * 64 + (s.get! (p + 3)).toNat % 64 ≥ 65536 ∧ Utf8.valid (((s.get! p).toNat % 8 * 262144 + (s.get! (p + 1)).toNat % 64 * 4096 + (s.get! (p + 2)).toNat % 64 * 64 + (s.get! (p + 3)).toNat % 64 : Nat) : Int) = true
            · left
              rw [if_pos h3]
              show _ = encR ((s.get! p).toNat % 8 * 262144 + (s.get! (p + 1)).toNat % 64 * 4096 + (s.get! (p + 2)).toNat % 64 * 64 + (s.get! (p + 3)).toNat % 64) ++ _
              have hv := h3.2
              unfold Utf8.valid at hv
              simp only [Bool.or_eq_true, Bool.and_eq_true, decide_eq_true_eq] at hv
              unfold encR
              rw [if_neg (by omega), if_neg (by omega), if_neg (by omega), if_pos (by omega), c0, c1, c2, c3]
              show _ = _ :: _ :: _ :: _ :: _
              congr 1
              · exact zdf (by omega)
              · congr 1
                · exact zdf (by omega)
                · congr 1
                  · exact zdf (by omega)
                  · congr 1; exact zdf (by omega)
            · right; rw [if_neg h3]; exact ⟨rfl, rfl, hw⟩
          · right; rw [if_neg h5]; exact ⟨rfl, rfl, hw⟩

/-! ### names have no sign of equality -/
theorem encR_no {c : Nat} {x : UInt8} (hx : x.toNat < 128) (h : x ∈ encR c) : c = x.toNat := by
  unfold encR at h
  split at h
  · simp at h; rw [h]; simp; omega
  · exfalso
    have key : ∀ n : Nat, 128 ≤ n % 256 → x ≠ UInt8.ofNat n := fun n hn e => by rw [e] at hx; simp at hx; omega
    split at h
    · simp only [List.mem_cons, List.not_mem_nil, or_false] at h
      rcases h with h | h <;> exact key _ (by omega) h
    · split at h
      · simp only [List.mem_cons, List.not_mem_nil, or_false] at h
        rcases h with h | h | h <;> exact key _ (by omega) h
      · split at h
        · simp only [List.mem_cons, List.not_mem_nil, or_false] at h
          rcases h with h | h | h | h <;> exact key _ (by omega) h
        · simp only [List.mem_cons, List.not_mem_nil, or_false] at h
          rcases h with h | h | h <;> (rw [h] at hx; revert hx; decide)
theorem word_no (s : ByteArray) : ∀ (n p : Nat), s.size - p = n → zcw (zb0 s p) = true → (61 : UInt8) ∉ bts s p := by
  intro n
  induction n using Nat.strongRecOn with
  | _ n ih =>
    intro p hp hw hm
    rcases Nat.lt_or_ge p s.size with h | h
    · rw [zck h, wordR_cons, Bool.and_eq_true, decide_eq_true_eq] at hw
      rcases dec_cases s p h with e | ⟨e, _, _⟩
      · rw [e] at hm
        rcases List.mem_append.1 hm with hm | hm
        · have := encR_no (x := 61) (by decide) hm
          rw [this] at hw; have hw := hw.1; revert hw; decide
        · have := zat s p
          exact ih _ (by omega) (p + decW s p) rfl hw.2 hm
      · rw [e] at hw; have hw := hw.1; revert hw; decide
    · rw [not_lt_bts h] at hm; cases hm
theorem name_no {s : ByteArray} (h : zbw s = true) : (61 : UInt8) ∉ s.data.toList := by
  unfold zbw at h
  rw [zbK] at h
  simp only [Bool.and_eq_true] at h
  have := word_no s _ 0 rfl h.2
  simpa [bts] using this

/-! ### between quotation marks -/
inductive Tok : List UInt8 → List UInt8 → Prop where
  | esc {c : UInt8} : c = 34 ∨ c = 92 → Tok [92, c] [c]
  | nl : Tok [92, 110] [10]
  | hex {b : UInt8} : Tok [92, 120, hexB (b.toNat / 16), hexB (b.toNat % 16)] [b]
  | raw {c : Nat} : c < 1114112 → c ≠ 34 → c ≠ 92 → c ≠ 10 → Tok (encR c) (encR c)
theorem byteAt_get {s : ByteArray} {p : Nat} (h : p < s.size) : zca s p = (s.get! p).toNat := by
  unfold zca; congr 1; simp [ByteArray.get!, h]; rfl
theorem piece_tok {s : ByteArray} {p : Nat} (h : p < s.size) : ∃ src, Tok (zbM s p) src ∧ bts s p = src ++ bts s (p + decW s p) := by
  have hl := decR_lt s p
  rcases dec_cases s p h with e | ⟨e1, e2, e3⟩
  · by_cases h1 : decR s p = 34 ∨ decR s p = 92
    · refine ⟨encR (decR s p), ?_, e⟩
      rw [piece_1 h1]
      rcases h1 with h1 | h1 <;> rw [h1]
      · exact .esc (.inl rfl)
      · exact .esc (.inr rfl)
    · by_cases h2 : decR s p = 10
      · refine ⟨encR (decR s p), ?_, e⟩
        rw [piece_2 h1 h2, h2]; exact .nl
      · by_cases h3 : decR s p = 65533 ∧ hasP (s.extract p s.size) wide = false
        · exfalso
          have hr : bts s p = 239 :: 191 :: 189 :: bts s (p + decW s p) := by rw [e, h3.1]; rfl
          have : hasP (s.extract p s.size) wide = true := by
            unfold hasP
            have e4 := extract_bts (s := s) (p := p)
            rw [hr] at e4
            have hsz : 3 ≤ (s.extract p s.size).size := by
              have := congrArg List.length e4
              simp only [Array.length_toList, List.length_cons] at this
              show 3 ≤ (s.extract p s.size).data.size
              omega
            have hx : (s.extract p s.size).extract 0 wide.size = wide := by
              apply ByteArray.ext
              apply Array.toList_inj.1
              rw [ByteArray.data_extract, Array.toList_extract, List.extract, e4]
              rfl
            rw [hx, show wide.size = 3 from rfl, decide_eq_true hsz]; simp
          rw [h3.2] at this; cases this
        · refine ⟨encR (decR s p), ?_, e⟩
          rw [piece_4 h1 h2 h3]
          exact .raw hl (fun e => h1 (.inl e)) (fun e => h1 (.inr e)) h2
  · refine ⟨[s.get! p], ?_, ?_⟩
    · rw [piece_3 (by rw [e1]; decide) (by rw [e1]; decide) ⟨e1, e3⟩, byteAt_get h]; exact .hex
    · rw [e2]; exact zba h
def elen (b : UInt8) : Nat := if b.toNat < 192 then 1 else if b.toNat < 224 then 2 else if b.toNat < 240 then 3 else 4
def olen : List UInt8 → Nat
  | [] => 0
  | b :: r => if b = 92 then (if r.head? = some 120 then 4 else 2) else elen b
theorem encR_head {c : Nat} (hc : c < 1114112) : ∃ b r, encR c = b :: r ∧ (encR c).length = elen b ∧ (b = 92 → c = 92) ∧ (b = 34 → c = 34) := by
  have ne : ∀ n m : Nat, m < 128 → 128 ≤ n % 256 → UInt8.ofNat n ≠ UInt8.ofNat m := fun n m hm hn e => by have := ofNat_eq e; omega
  unfold encR elen
  split
  · refine ⟨_, _, rfl, ?_, ?_, ?_⟩
    · have : (UInt8.ofNat (c % 256)).toNat < 192 := by simp; omega
      rw [if_pos this]; rfl
    · intro e; have := ofNat_eq (b := 92) e; omega
    · intro e; have := ofNat_eq (b := 34) e; omega
  · split
    · refine ⟨_, _, rfl, ?_, ?_, ?_⟩
      · have h1 : ¬ (UInt8.ofNat (192 + c / 64 % 256)).toNat < 192 := by simp; omega
        have h2 : (UInt8.ofNat (192 + c / 64 % 256)).toNat < 224 := by simp; omega
        rw [if_neg h1, if_pos h2]; rfl
      · intro e; exact absurd e (ne _ 92 (by decide) (by omega))
      · intro e; exact absurd e (ne _ 34 (by decide) (by omega))
    · split
      · refine ⟨_, _, rfl, ?_, ?_, ?_⟩
        · have h1 : ¬ (UInt8.ofNat (224 + c / 4096 % 256)).toNat < 192 := by simp; omega
          have h2 : ¬ (UInt8.ofNat (224 + c / 4096 % 256)).toNat < 224 := by simp; omega
          have h3 : (UInt8.ofNat (224 + c / 4096 % 256)).toNat < 240 := by simp; omega
          rw [if_neg h1, if_neg h2, if_pos h3]; rfl
        · intro e; exact absurd e (ne _ 92 (by decide) (by omega))
        · intro e; exact absurd e (ne _ 34 (by decide) (by omega))
      · split
        · refine ⟨_, _, rfl, ?_, ?_, ?_⟩
          · have h1 : ¬ (UInt8.ofNat (240 + c / 262144 % 256)).toNat < 192 := by simp; omega
            have h2 : ¬ (UInt8.ofNat (240 + c / 262144 % 256)).toNat < 224 := by simp; omega
            have h3 : ¬ (UInt8.ofNat (240 + c / 262144 % 256)).toNat < 240 := by simp; omega
            rw [if_neg h1, if_neg h2, if_neg h3]; rfl
          · intro e; exact absurd e (ne _ 92 (by decide) (by omega))
          · intro e; exact absurd e (ne _ 34 (by decide) (by omega))
        · refine ⟨_, _, rfl, by decide, fun e => absurd e (by decide), fun e => absurd e (by decide)⟩
theorem tok_len {o s : List UInt8} (h : Tok o s) (r : List UInt8) : olen (o ++ r) = o.length := by
  cases h with
  | esc h => rcases h with h | h <;> rw [h] <;> rfl
  | nl => rfl
  | hex => rfl
  | raw hc _ h92 _ =>
    obtain ⟨b, t, e, el, hb, _⟩ := encR_head hc
    rw [el, e]
    show (if b = 92 then _ else elen b) = _
    rw [if_neg (fun e => h92 (hb e))]
theorem hexB_inj : ∀ a : Nat, a < 16 → ∀ b : Nat, b < 16 → hexB a = hexB b → a = b := by decide
theorem tok_src {o s t : List UInt8} (h : Tok o s) (h' : Tok o t) : s = t := by
  have hh : ∀ {c : Nat} {x : UInt8} {l : List UInt8}, c < 1114112 → c ≠ 92 → encR c = 92 :: l → False := fun {c _ l} hc hn e => by
    obtain ⟨b, t, e', _, hb, _⟩ := encR_head hc
    rw [e'] at e; injection e with e _; exact hn (hb e)
  generalize ho : o = o' at h'
  cases h with
  | esc h =>
    cases h' with
    | esc _ => cases ho; rfl
    | nl => injection ho with _ ho; injection ho with ho; rw [ho] at h; exact absurd h (by decide)
    | hex => cases ho
    | raw hc _ h92 _ => exact (hh (x := 0) hc h92 ho.symm).elim
  | nl =>
    cases h' with
    | esc h => injection ho with _ ho; injection ho with ho; rw [← ho] at h; exact absurd h (by decide)
    | nl => rfl
    | hex => cases ho
    | raw hc _ h92 _ => exact (hh (x := 0) hc h92 ho.symm).elim
  | @hex a =>
    cases h' with
    | esc h => cases ho
    | nl => cases ho
    | @hex b =>
      injection ho with _ ho; injection ho with _ ho; injection ho with h1 ho; injection ho with h2 _
      have la := UInt8.toNat_lt a
      have lb := UInt8.toNat_lt b
      have e1 := hexB_inj _ (by omega) _ (by omega) h1
      have e2 := hexB_inj _ (by omega) _ (by omega) h2
      have : a = b := UInt8.toNat_inj.1 (by omega)
      rw [this]
    | raw hc _ h92 _ => exact (hh (x := 0) hc h92 ho.symm).elim
  | raw hc _ h92 _ =>
    cases h' with
    | esc h => exact (hh (x := 0) hc h92 ho).elim
    | nl => exact (hh (x := 0) hc h92 ho).elim
    | hex => exact (hh (x := 0) hc h92 ho).elim
    | raw _ _ _ _ => exact ho
theorem tok_no {o s r t : List UInt8} (h : Tok o s) : o ++ r ≠ 34 :: t := by
  cases h with
  | esc _ => intro e; injection e with e _; revert e; decide
  | nl => intro e; injection e with e _; revert e; decide
  | hex => intro e; injection e with e _; revert e; decide
  | raw hc h34 _ _ =>
    obtain ⟨b, u, e, _, _, hb⟩ := encR_head hc
    rw [e]; intro e'; injection e' with e' _; exact h34 (hb e')
theorem tok_inj {o s o' s' r r' : List UInt8} (h : Tok o s) (h' : Tok o' s') (e : o ++ r = o' ++ r') : s = s' ∧ r = r' := by
  have hl : o.length = o'.length := by rw [← tok_len h r, ← tok_len h' r', e]
  obtain ⟨e1, e2⟩ := List.append_inj e hl
  subst e1; exact ⟨tok_src h h', e2⟩
theorem quote_inj : ∀ (n : Nat) (s t : ByteArray) (p q : Nat) (r r' : List UInt8), s.size - p = n → zaz s p ++ 34 :: r = zaz t q ++ 34 :: r' → bts s p = bts t q ∧ r = r' := by
  intro n
  induction n using Nat.strongRecOn with
  | _ n ih =>
    intro s t p q r r' hn e
    rcases Nat.lt_or_ge p s.size with h | h <;> rcases Nat.lt_or_ge q t.size with h' | h'
    · obtain ⟨s1, k1, b1⟩ := piece_tok h
      obtain ⟨s2, k2, b2⟩ := piece_tok h'
      rw [zbU h, zbU h', List.append_assoc, List.append_assoc] at e
      obtain ⟨e1, e2⟩ := tok_inj k1 k2 e
      have hp := zat s p
      obtain ⟨e3, e4⟩ := ih _ (by omega) s t _ _ r r' rfl e2
      rw [b1, b2, e1, e3]; exact ⟨rfl, e4⟩
    · obtain ⟨s1, k1, _⟩ := piece_tok h
      rw [zbU h, zbV h', List.append_assoc] at e
      exact (tok_no k1 e).elim
    · obtain ⟨s2, k2, _⟩ := piece_tok h'
      rw [zbV h, zbU h', List.append_assoc] at e
      exact (tok_no k2 e.symm).elim
    · rw [zbV h, zbV h'] at e
      injection e with _ e
      rw [not_lt_bts h, not_lt_bts h']; exact ⟨rfl, e⟩
theorem bts_inj {s t : ByteArray} (h : bts s 0 = bts t 0) : s = t := by
  unfold bts at h; simp only [List.drop_zero] at h
  exact ByteArray.ext (Array.toList_inj.1 h)
/-! ### texts of labels -/
theorem split_at {x : UInt8} : ∀ {a b r s : List UInt8}, x ∉ a → x ∉ b → a ++ x :: r = b ++ x :: s → a = b ∧ r = s
  | [], [], r, s, _, _, e => by injection e with _ e; exact ⟨rfl, e⟩
  | [], y :: b, r, s, _, hb, e => by injection e with e _; exact absurd (e ▸ List.mem_cons_self) hb
  | y :: a, [], r, s, ha, _, e => by injection e with e _; exact absurd (e ▸ List.mem_cons_self) ha
  | y :: a, z :: b, r, s, ha, hb, e => by
    injection e with e1 e2
    obtain ⟨e3, e4⟩ := split_at (fun h => ha (List.mem_cons_of_mem _ h)) (fun h => hb (List.mem_cons_of_mem _ h)) e2
    rw [e1, e3]; exact ⟨rfl, e4⟩
/-- what stands behind the first bracket -/
def txtL : List Lbl → List UInt8
  | [] => [125]
  | [x] => x.n.data.toList ++ 61 :: 34 :: (zaz x.v 0 ++ 34 :: [125])
  | x :: y :: r => x.n.data.toList ++ 61 :: 34 :: (zaz x.v 0 ++ 34 :: 44 :: txtL (y :: r))
theorem partB_list (x : Lbl) : (zbl x).data.toList = x.n.data.toList ++ 61 :: 34 :: (zaz x.v 0 ++ [34]) := by
  unfold zbl zcR zdv
  simp [ByteArray.data_append]
theorem txtL_join : ∀ l : List Lbl, zb7 ⟨#[44]⟩ (l.map zbl) ++ [125] = txtL l
  | [] => rfl
  | [x] => by
    show (zbl x).data.toList ++ [125] = _
    rw [partB_list]; simp [txtL]
  | x :: y :: r => by
    have := txtL_join (y :: r)
    show (zbl x).data.toList ++ [44] ++ zb7 ⟨#[44]⟩ ((y :: r).map zbl) ++ [125] = _
    rw [List.append_assoc, this, partB_list]; simp [txtL]
theorem textB_list (l : List Lbl) : (zau l).data.toList = 123 :: txtL l := by
  rw [← txtL_join]
  unfold zau zc5
  simp [ByteArray.data_append]
theorem txtL_mem (x : Lbl) (r : List Lbl) : (61 : UInt8) ∈ txtL (x :: r) := by
  cases r <;> simp [txtL]
theorem txtL_inj : ∀ {l m : List Lbl}, (∀ x ∈ l, (61 : UInt8) ∉ x.n.data.toList) → (∀ x ∈ m, (61 : UInt8) ∉ x.n.data.toList) → txtL l = txtL m → l = m
  | [], [], _, _, _ => rfl
  | [], y :: m, _, _, e => by
    have := txtL_mem y m; rw [← e] at this; exact absurd this (by decide)
  | x :: l, [], _, _, e => by
    have := txtL_mem x l; rw [e] at this; exact absurd this (by decide)
  | x :: l, y :: m, hl, hm, e => by
    have key : ∀ {R R' : List UInt8}, x.n.data.toList ++ 61 :: 34 :: (zaz x.v 0 ++ 34 :: R) = y.n.data.toList ++ 61 :: 34 :: (zaz y.v 0 ++ 34 :: R') → x = y ∧ R = R' := by
      intro R R' e
      obtain ⟨e1, e2⟩ := split_at (hl x List.mem_cons_self) (hm y List.mem_cons_self) e
      injection e2 with _ e2
      obtain ⟨e3, e4⟩ := quote_inj _ x.v y.v 0 0 R R' rfl e2
      obtain ⟨xn, xv⟩ := x; obtain ⟨yn, yv⟩ := y
      simp only at e1 e3 e4 ⊢
      rw [ByteArray.ext (Array.toList_inj.1 e1), bts_inj e3]; exact ⟨rfl, e4⟩
    cases l with
    | nil => cases m with
      | nil => obtain ⟨e1, _⟩ := key e; rw [e1]
      | cons z m => obtain ⟨_, e2⟩ := key e; injection e2 with e2 _; exact absurd e2 (by decide)
    | cons z l => cases m with
      | nil => obtain ⟨_, e2⟩ := key e; injection e2 with e2 _; exact absurd e2 (by decide)
      | cons z' m =>
        obtain ⟨e1, e2⟩ := key e
        injection e2 with _ e2
        rw [e1, txtL_inj (fun x h => hl x (List.mem_cons_of_mem _ h)) (fun x h => hm x (List.mem_cons_of_mem _ h)) e2]
theorem okL_name {x : Lbl} (h : okL x = true) : zbw x.n = true := by unfold okL at h; simp only [Bool.and_eq_true] at h; exact h.1
/-- tidy labels have the same text just if they are the same -/
theorem textB_inj {l m : List Lbl} (hl : zaH l = 0) (hm : zaH m = 0) (h : zau (zJ l) = zau (zJ m)) : zJ l = zJ m := by
  have e := congrArg (fun b : ByteArray => b.data.toList) h
  simp only [textB_list] at e
  injection e with _ e
  exact txtL_inj (fun x hx => name_no (okL_name ((zdE hl).2 x hx))) (fun x hx => name_no (okL_name ((zdE hm).2 x hx))) e
theorem tidyL_mem {l : List Lbl} {x : Lbl} (h : x ∈ zJ l) : x ∈ l := by
  rcases tidyE_cases l with ⟨_, _, h3⟩ | ⟨_, h3⟩ <;> rw [h3] at h
  · exact ((zaj zbX _ l rfl).mem zbX x).1 h
  · cases h
theorem light_sizes {l : List Lbl} (h : zax l = true) : ∀ x ∈ l, x.n.size ≤ 200 ∧ x.v.size ≤ 200 := by
  intro x hx
  have hl := lightL_len h
  unfold zax at h
  rw [Bool.and_eq_true, List.take_of_length_le (by omega), List.all_eq_true] at h
  have := h.1 x hx
  simpa using this
end Lp
/-
  The document's own tidying of labels and rows, as plain data.
-/
set_option linter.unusedVariables false
namespace Lp
open Go
section
variable {α : Type} {c : α → α → Int}
/-- strictly in order -/
def zaB (c : α → α → Int) (l : List α) : Prop := l.Pairwise (fun a b => c a b < 0)
theorem zaB.srt {l : List α} (h : zaB c l) : Srt c l := List.Pairwise.imp (fun h => Int.le_of_lt h) h
/-- a list with one more at a place -/
def zdP (out : List α) (k : Nat) (x : α) : List α := (((out.take k).drop 0) ++ [x]) ++ ((out.take out.length).drop k)
theorem insAt_eq (out : List α) (k : Nat) (x : α) : zdP out k x = out.take k ++ x :: out.drop k := by unfold zdP; rw [List.take_length, List.drop_zero]; simp
theorem insAt_perm (out : List α) (k : Nat) (x : α) : (zdP out k x).Perm (out ++ [x]) := by
  rw [insAt_eq]
  refine (List.perm_middle).trans ?_
  rw [List.take_append_drop]
  exact (List.perm_append_comm (l₁ := [x]) (l₂ := out))
theorem insAt_strict {out : List α} {k : Nat} {x : α} (h : zaB c out) (h1 : ∀ y ∈ out.take k, c y x < 0) (h2 : ∀ y ∈ out.drop k, c x y < 0) : zaB c (zdP out k x) := by
  rw [insAt_eq]
  have e : out.take k ++ out.drop k = out := List.take_append_drop ..
  unfold zaB at h ⊢
  rw [← e] at h
  obtain ⟨a1, a2, a3⟩ := List.pairwise_append.1 h
  refine List.pairwise_append.2 ⟨a1, List.pairwise_cons.2 ⟨h2, a2⟩, fun y hy z hz => ?_⟩
  rcases List.mem_cons.1 hz with e | e
  · rw [e]; exact h1 y hy
  · exact a3 y hy z e
theorem ins_perm (x : α) (l : List α) : (ins c x l).Perm (x :: l) := by
  have key : ∀ l : List α, (insB c x l).Perm (x :: l) := by
    intro l
    induction l with
    | nil => exact List.Perm.refl _
    | cons y r ih =>
      unfold insB
      split
      · exact (List.Perm.cons y ih).trans (List.Perm.swap x y r)
      · exact List.Perm.refl _
  unfold ins
  exact (List.reverse_perm _).trans ((key l.reverse).trans (List.Perm.cons x (List.reverse_perm l)))
theorem zaW (l : List α) : (zt c l).Perm l := by
  have key : ∀ (m r : List α), (m.foldl (fun r x => ins c x r) r).Perm (r ++ m) := by
    intro m
    induction m with
    | nil => intro r; simp
    | cons x m ih =>
      intro r
      refine (ih (ins c x r)).trans ?_
      refine (List.Perm.append_right m (ins_perm x r)).trans ?_
      show (x :: (r ++ m)).Perm (r ++ x :: m)
      exact List.perm_middle.symm
  have := key l []
  rw [List.nil_append] at this
  exact this
/-- in order, and of the same: the same, if alike is the same -/
theorem srt_perm (h : Cmp c) {a b : List α} (ha : Srt c a) (hb : Srt c b) (hp : a.Perm b) (anti : ∀ x ∈ a, ∀ y ∈ a, c x y = 0 → x = y) : a = b := by
  refine Srt.unique h _ _ ha hb (fun k => ?_)
  have hrep : ∀ m : List α, (∀ x ∈ m, ∀ y ∈ m, c x y = 0 → x = y) → ∀ z ∈ m.filter (eqv c k), m.filter (eqv c k) = List.replicate (m.filter (eqv c k)).length z := by
    intro m hm z hz
    rw [List.eq_replicate_iff]
    refine ⟨rfl, fun w hw => ?_⟩
    have h1 := List.mem_filter.1 hz
    have h2 := List.mem_filter.1 hw
    have e1 : c k z = 0 := by simpa [eqv] using h1.2
    have e2 : c k w = 0 := by simpa [eqv] using h2.2
    have e3 := h.neg k w
    have e4 := (h.tr w k z).e1 (by omega)
    exact hm w h2.1 z h1.1 (by omega)
  have hpf := hp.filter (eqv c k)
  have hl := hpf.length_eq
  rcases hz : a.filter (eqv c k) with _ | ⟨z, r⟩
  · rw [hz] at hl
    rw [List.eq_nil_of_length_eq_zero (l := b.filter (eqv c k)) (by rw [← hl]; rfl)]
  · rw [← hz]
    have hm : z ∈ a.filter (eqv c k) := by rw [hz]; exact List.mem_cons_self
    have hm2 : z ∈ b.filter (eqv c k) := hpf.mem_iff.1 hm
    rw [hrep a anti z hm, hrep b (fun x hx y hy => anti x (hp.mem_iff.2 hx) y (hp.mem_iff.2 hy)) z hm2, hl]
theorem zaB.anti (h : Cmp c) {l : List α} (hs : zaB c l) : ∀ x ∈ l, ∀ y ∈ l, c x y = 0 → x = y := by
  induction l with
  | nil => intro x hx; cases hx
  | cons a r ih =>
    have hs' := List.pairwise_cons.1 hs
    intro x hx y hy e
    rcases List.mem_cons.1 hx with ex | ex <;> rcases List.mem_cons.1 hy with ey | ey
    · rw [ex, ey]
    · have := hs'.1 y ey; rw [ex] at e; omega
    · have := hs'.1 x ex; have := h.neg a x; rw [ey] at e; omega
    · exact ih hs'.2 x ex y ey e
theorem strict_isort (h : Cmp c) {l m : List α} (hs : zaB c l) (hp : l.Perm m) : zt c m = l := by
  have h1 := zaW (c := c) m
  exact (srt_perm h hs.srt (zaj h _ m rfl).srt (hp.trans h1.symm) (hs.anti h)).symm
end

/-! ### labels -/
theorem NSrt.strict {l : List Lbl} (h : NSrt l) : zaB zD l := List.Pairwise.imp (fun {a b} h => by unfold zD or2; rw [if_pos (by omega)]; exact h) h
/-- how far tidying has come -/
structure RT (l : List Lbl) (i : Nat) (out : List Lbl) : Prop where
  ns : NSrt out
  pm : out.Perm (l.take i)
  ok : ∀ x ∈ out, okL x = true
theorem RT.zero (l : List Lbl) : RT l 0 [] := ⟨List.Pairwise.nil, by simp, fun _ h => by cases h⟩
theorem RT.len {l out : List Lbl} {i : Nat} (h : RT l i out) (hi : i ≤ l.length) : out.length = i := by rw [h.pm.length_eq, List.length_take]; omega
theorem RT.next {l out : List Lbl} {i k : Nat} {x : Lbl} (h : RT l i out) (hx : l[i]? = some x) (hok : okL x = true) (h1 : ∀ j y, j < k → out[j]? = some y → cmpS y.n x.n < 0) (h2 : k = out.length ∨ ∃ y, out[k]? = some y ∧ ¬ cmpS y.n x.n < 0 ∧ ¬ y.n = x.n) : RT l (i + 1) (zdP out k x) := by
  have hn : ∀ y z : Lbl, cmpS y.n z.n < 0 ↔ cmpS y.n z.n < 0 := fun _ _ => Iff.rfl
  refine ⟨?_, ?_, ?_⟩
  · have := insAt_strict (c := fun a b : Lbl => cmpS a.n b.n) (out := out) (k := k) (x := x) h.ns (fun y hy => ?_) (fun y hy => ?_)
    · exact this
    · obtain ⟨j, hj⟩ := List.mem_iff_getElem?.1 hy
      rw [List.getElem?_take] at hj
      split at hj
      · exact h1 j y (by assumption) hj
      · cases hj
    · rcases h2 with e | ⟨z, hz, h3, h4⟩
      · rw [e, List.drop_length] at hy; cases hy
      · have hzx : cmpS x.n z.n < 0 := by
          have e1 := zc8 z.n x.n
          have e2 : cmpS z.n x.n ≠ 0 := fun e => h4 ((zbS _ _).1 e)
          omega
        rw [zaK hz] at hy
        rcases List.mem_cons.1 hy with e | e
        · rw [e]; exact hzx
        · have hs : NSrt (out.take k ++ out.drop k) := by rw [List.take_append_drop]; exact h.ns
          have h5 := (List.pairwise_append.1 hs).2.1
          rw [zaK hz] at h5
          have h6 := (List.pairwise_cons.1 h5).1 y e
          exact (cmpS_tr x.n z.n y.n).lt1 hzx (by omega)
  · refine (insAt_perm out k x).trans ?_
    rw [zab hx]
    exact List.Perm.append_right [x] h.pm
  · intro y hy
    rcases List.mem_append.1 ((insAt_perm out k x).mem_iff.1 hy) with e | e
    · exact h.ok y e
    · rw [List.mem_singleton.1 e]; exact hok
/-- tidy: few, each may be, and names all different -/
theorem tidyOk_of {l m : List Lbl} (hl : l.length ≤ 8) (hs : NSrt m) (hp : m.Perm l) (hok : ∀ x ∈ m, okL x = true) : z1 l = true ∧ zt zD l = m := by
  have e := strict_isort zbX hs.strict hp
  refine ⟨?_, e⟩
  have key : ∀ (r : List Lbl) (p : Option ByteArray), NSrt r → (∀ x ∈ r, okL x = true) → (∀ n, p = some n → ∀ x ∈ r, cmpS n x.n < 0) → zb3 p r = true := by
    intro r
    induction r with
    | nil => intro _ _ _ _; rfl
    | cons x r ih =>
      intro p h1 h2 h3
      have h1' := List.pairwise_cons.1 h1
      unfold zb3
      rw [h2 x List.mem_cons_self, ih (some x.n) h1'.2 (fun y hy => h2 y (List.mem_cons_of_mem _ hy)) (fun n hn y hy => by injection hn with hn; rw [← hn]; exact h1'.1 y hy)]
      have : ¬ p = some x.n := fun hp => by have := h3 x.n hp x List.mem_cons_self; have e0 := (zbS x.n x.n).2 rfl; omega
      simp [this]
  unfold z1 zcW zbD
  rw [e]
  simp only [zdh, List.drop_zero, Bool.and_eq_true, decide_eq_true_eq]
  exact ⟨hl, key m none hs hok (fun _ h => by cases h)⟩
theorem RT.done {l out : List Lbl} {i : Nat} (h : RT l i out) (hi : l.length ≤ i) (hl : l.length ≤ 8) : out = zJ l ∧ true = z1 l := by
  have hp := h.pm
  rw [List.take_of_length_le hi] at hp
  obtain ⟨e1, e2⟩ := tidyOk_of hl h.ns hp h.ok
  unfold zJ; rw [e1, e2]; exact ⟨rfl, rfl⟩
theorem tidyL_no {l : List Lbl} (h : z1 l = false) : [] = zJ l ∧ false = z1 l := by unfold zJ; rw [h]; exact ⟨rfl, rfl⟩
theorem tidyOk_mem {l : List Lbl} (h : z1 l = true) {x : Lbl} (hx : x ∈ l) : okL x = true := by
  have e : zaH l = 0 := by unfold zaH; rw [h]; rfl
  have hm : x ∈ zJ l := by unfold zJ; rw [h]; exact ((zaj zbX _ l rfl).mem zbX x).2 hx
  exact (zdE e).2 x hm
theorem RT.bad1 {l : List Lbl} {i : Nat} {x : Lbl} (hx : l[i]? = some x) (h : okL x = false) : [] = zJ l ∧ false = z1 l := tidyL_no (by
  rcases e : z1 l with _ | _
  · rfl
  · have := tidyOk_mem e (zae hx); rw [h] at this; cases this)
theorem RT.long {l : List Lbl} (h : (8 : Int) < ((l.length : Nat) : Int)) : [] = zJ l ∧ false = z1 l := tidyL_no (by
  have : ¬ l.length ≤ 8 := by omega
  simp [z1, this])
theorem RT.bad2 {l out : List Lbl} {i k : Nat} {x y : Lbl} (h : RT l i out) (hx : l[i]? = some x) (hy : out[k]? = some y) (e : y.n = x.n) : [] = zJ l ∧ false = z1 l := tidyL_no (by
  rcases ek : z1 l with _ | _
  · rfl
  · exfalso
    have e0 : zaH l = 0 := by unfold zaH; rw [ek]; rfl
    have eT : zJ l = zt zD l := by unfold zJ; rw [ek]; rfl
    have hn := (zdE e0).1
    rw [eT] at hn
    have hp := zaW (c := zD) l
    -- the two stand at different places of l
    have hl : l = l.take i ++ (x :: l.drop (i + 1)) := by rw [← zaK hx, List.take_append_drop]
    have hyt : y ∈ l.take i := h.pm.mem_iff.1 (zae hy)
    have hnd : (l.map (·.n)).Nodup := by
      have h1 : ((zt zD l).map (·.n)).Nodup := by
        rw [List.Nodup, List.pairwise_map]
        exact List.Pairwise.imp (fun {a b} hab e => by have := (zbS a.n b.n).2 e; omega) hn
      exact (hp.map (·.n)).nodup_iff.1 h1
    rw [hl, List.map_append, List.nodup_append] at hnd
    exact hnd.2.2 y.n (List.mem_map.2 ⟨y, hyt, rfl⟩) x.n (by simp) e)

/-! ### rows -/
def cL (a b : RowD) : Int := zM a.ls b.ls
theorem zdm : Cmp cL := ⟨fun a b => zcM _ _, fun a b d => zcL _ _ _⟩
def ordB (l : List RowD) : Bool := decide ((zt cL l).Pairwise (fun a b => cL a b < 0))
def ordL (l : List RowD) : List RowD := bif ordB l then zt cL l else []
def ordE (l : List RowD) : Int := bif ordB l then 0 else 6
structure RO (l : List RowD) (i : Nat) (out : List RowD) : Prop where
  st : zaB cL out
  pm : out.Perm (l.take i)
theorem RO.zero (l : List RowD) : RO l 0 [] := ⟨List.Pairwise.nil, by simp⟩
theorem RO.len {l out : List RowD} {i : Nat} (h : RO l i out) (hi : i ≤ l.length) : out.length = i := by rw [h.pm.length_eq, List.length_take]; omega
theorem RO.next {l out : List RowD} {i k : Nat} {x : RowD} (h : RO l i out) (hx : l[i]? = some x) (h1 : ∀ j y, k ≤ j → out[j]? = some y → 0 < zM y.ls x.ls) (h2 : k = 0 ∨ ∃ y, out[k - 1]? = some y ∧ ¬ 0 < zM y.ls x.ls ∧ ¬ zM y.ls x.ls = 0) (hk : k ≤ out.length) : RO l (i + 1) (zdP out k x) := by
  refine ⟨insAt_strict h.st (fun y hy => ?_) (fun y hy => ?_), ?_⟩
  · rcases h2 with e | ⟨z, hz, h3, h4⟩
    · rw [e] at hy; cases hy
    · have hzx : cL z x < 0 := by unfold cL; omega
      have hk0 : 0 < k := by
        rcases Nat.eq_zero_or_pos k with e | e
        · subst e; simp at hy
        · exact e
      have e1 : out.take k = out.take (k - 1) ++ [z] := by rw [← zab hz]; congr 1; omega
      rw [e1] at hy
      rcases List.mem_append.1 hy with e | e
      · have hs : zaB cL (out.take (k - 1) ++ out.drop (k - 1)) := by rw [List.take_append_drop]; exact h.st
        have h5 := (List.pairwise_append.1 hs).2.2 y e z (by rw [zaK hz]; exact List.mem_cons_self)
        exact (zdm.tr y z x).lt1 h5 (by omega)
      · rw [List.mem_singleton.1 e]; exact hzx
  · obtain ⟨j, hj⟩ := List.mem_iff_getElem?.1 hy
    rw [List.getElem?_drop] at hj
    have := h1 (k + j) y (by omega) hj
    have e := zdm.neg y x
    unfold cL at *; omega
  · refine (insAt_perm out k x).trans ?_
    rw [zab hx]
    exact List.Perm.append_right [x] h.pm
theorem RO.done {l out : List RowD} {i : Nat} (h : RO l i out) (hi : l.length ≤ i) : out = ordL l ∧ 0 = ordE l := by
  have hp := h.pm
  rw [List.take_of_length_le hi] at hp
  have e := strict_isort zdm h.st hp
  have hb : ordB l = true := by unfold ordB; rw [e]; exact decide_eq_true h.st
  unfold ordL ordE; rw [hb, e]; exact ⟨rfl, rfl⟩
theorem ord_no {l : List RowD} (h : ordB l = false) : [] = ordL l ∧ 6 = ordE l := by unfold ordL ordE; rw [h]; exact ⟨rfl, rfl⟩
theorem RO.bad {l out : List RowD} {i k : Nat} {x y : RowD} (h : RO l i out) (hx : l[i]? = some x) (hy : out[k]? = some y) (e : zM y.ls x.ls = 0) : [] = ordL l ∧ 6 = ordE l := ord_no (by
  rcases ek : ordB l with _ | _
  · rfl
  · exfalso
    have hst : zaB cL (zt cL l) := by unfold zaB; unfold ordB at ek; exact of_decide_eq_true ek
    have hp := zaW (c := cL) l
    have hl : l = l.take i ++ (x :: l.drop (i + 1)) := by rw [← zaK hx, List.take_append_drop]
    have hyt : y ∈ l.take i := h.pm.mem_iff.1 (zae hy)
    have hnd : (l.map (·.ls)).Nodup := by
      have h1 : ((zt cL l).map (·.ls)).Nodup := by
        rw [List.Nodup, List.pairwise_map]
        exact List.Pairwise.imp (fun {a b} hab e => by unfold cL at hab; rw [e, zbE] at hab; omega) hst
      exact (hp.map (·.ls)).nodup_iff.1 h1
    rw [hl, List.map_append, List.nodup_append] at hnd
    exact hnd.2.2 y.ls (List.mem_map.2 ⟨y, hyt, rfl⟩) x.ls (by simp) (zcN.1 e))
def valB (v : Int) : Bool := decide (-1000000000000 ≤ v) && decide (v ≤ 1000000000000)
def zaL (l : List Lbl) : Bool := z1 l && decide (zM (zJ l) l = 0)
def zbm (l : List RowD) : Bool := l.all (fun r => zaL r.ls && valB r.v)
def rtL (l : List RowD) : List RowD := bif decide (l.length ≤ 2000) && zbm l then ordL l else []
def rtE (l : List RowD) : Int := bif decide (l.length ≤ 2000) && zbm l then ordE l else 1
theorem zcr {l : List RowD} (h : (2000 : Int) < ((l.length : Nat) : Int)) : [] = rtL l ∧ 1 = rtE l := by
  have : ¬ l.length ≤ 2000 := by omega
  unfold rtL rtE; rw [decide_eq_false this]; exact ⟨rfl, rfl⟩
theorem zcQ {l : List RowD} {i : Nat} {x : RowD} (hx : l[i]? = some x) (h : (zaL x.ls && valB x.v) = false) : [] = rtL l ∧ 1 = rtE l := by
  have : zbm l = false := by unfold zbm; rw [List.all_eq_false]; exact ⟨x, zae hx, by rw [h]; simp⟩
  unfold rtL rtE; rw [this, Bool.and_false]; exact ⟨rfl, rfl⟩
theorem zdF {l : List RowD} (h1 : ¬ (2000 : Int) < ((l.length : Nat) : Int)) (h2 : zbm l = true) : ordL l = rtL l ∧ ordE l = rtE l := by
  have : l.length ≤ 2000 := by omega
  unfold rtL rtE; rw [decide_eq_true this, h2]; exact ⟨rfl, rfl⟩
theorem rt_strict {l : List RowD} (h : rtE l = 0) : zaB cL (rtL l) ∧ (rtL l).Perm l := by
  unfold rtE rtL at *
  cases hb : decide (l.length ≤ 2000) && zbm l
  · rw [hb] at h; cases h
  · rw [hb] at h
    unfold ordE at h
    simp only [cond_true] at h ⊢
    cases ho : ordB l
    · rw [ho] at h; cases h
    · unfold ordL; rw [ho]
      have hst : zaB cL (zt cL l) := by unfold zaB; unfold ordB at ho; exact of_decide_eq_true ho
      exact ⟨hst, zaW l⟩
/-- one more row, if it may be -/
def zbg (out : List RowD) (r : RowD) : List RowD :=
  if z1 r.ls = true ∧ valB r.v = true ∧ rtE (out ++ [⟨zJ r.ls, r.v⟩]) = 0 then rtL (out ++ [⟨zJ r.ls, r.v⟩]) else out
def zC (l : List RowD) : List RowD := l.foldl zbg []
theorem tidyRs_snoc {l : List RowD} {k : Nat} {x : RowD} (h : l[k]? = some x) : zC (l.take (k + 1)) = zbg (zC (l.take k)) x := by
  rw [zab h]; unfold zC; rw [List.foldl_append]; rfl
structure TRs (l out : List RowD) : Prop where
  st : zaB cL out
  li : ∀ r ∈ out, zax r.ls = true
  len : out.length ≤ l.length
theorem tidyL_light {l : List Lbl} (h : zax l = true) : zax (zJ l) = true := by
  have h1 := tidyL_len l
  have h2 := lightL_len h
  have hm : ∀ x ∈ zJ l, x.n.size ≤ 200 ∧ x.v.size ≤ 200 := fun x hx => light_sizes h x (tidyL_mem hx)
  unfold zax
  rw [Bool.and_eq_true, List.all_eq_true]
  exact ⟨fun x hx => by have := hm x (List.mem_of_mem_take hx); simp [this], by rw [decide_eq_true_eq]; omega⟩
theorem tidyRs_trs : ∀ {l : List RowD}, (∀ r ∈ l, zax r.ls = true) → TRs l (zC l) := by
  intro l hl
  have key : ∀ (m out : List RowD) (n : Nat), (∀ r ∈ m, zax r.ls = true) → zaB cL out → (∀ r ∈ out, zax r.ls = true) → out.length ≤ n → zaB cL (m.foldl zbg out) ∧ (∀ r ∈ m.foldl zbg out, zax r.ls = true) ∧ (m.foldl zbg out).length ≤ n + m.length := by
    intro m
    induction m with
    | nil => intro out n _ h1 h2 h3; exact ⟨h1, h2, by simpa using h3⟩
    | cons x m ih =>
      intro out n hm h1 h2 h3
      have hx := hm x List.mem_cons_self
      have hm' : ∀ r ∈ m, zax r.ls = true := fun r hr => hm r (List.mem_cons_of_mem _ hr)
      have step : zaB cL (zbg out x) ∧ (∀ r ∈ zbg out x, zax r.ls = true) ∧ (zbg out x).length ≤ n + 1 := by
        unfold zbg
        split
        · rename_i hc
          obtain ⟨s1, s2⟩ := rt_strict hc.2.2
          refine ⟨s1, fun r hr => ?_, by rw [s2.length_eq]; simp; omega⟩
          rcases List.mem_append.1 (s2.mem_iff.1 hr) with e | e
          · exact h2 r e
          · rw [List.mem_singleton.1 e]; exact tidyL_light hx
        · exact ⟨h1, h2, by omega⟩
      have := ih (zbg out x) (n + 1) hm' step.1 step.2.1 step.2.2
      refine ⟨this.1, this.2.1, ?_⟩
      have := this.2.2; simp only [List.foldl_cons, List.length_cons]; omega
  have := key l [] 0 hl List.Pairwise.nil (fun _ h => by cases h) (Nat.le_refl _)
  exact ⟨this.1, this.2.1, by have := this.2.2; unfold zC; omega⟩
theorem rowsB_snoc {l : List RowD} {k : Nat} {x : RowD} (hx : l[k]? = some x) (h : zbm (l.take k) = true) (hr : zaL x.ls = true) (hv : valB x.v = true) : zbm (l.take (k + 1)) = true := by
  unfold zbm at *; exact zbA hx h (by simp [hr, hv])
theorem light_nz {l : List Lbl} (h : zax l = true) : ∀ x ∈ l, x.n.size ≤ 1000000 := fun x hx => by have := light_sizes h x hx; omega
theorem trStep_no {out : List RowD} {r : RowD} (h : z1 r.ls = false ∨ valB r.v = false) : zbg out r = out := by
  unfold zbg; rw [if_neg]; rintro ⟨h1, h2, _⟩; rcases h with h | h
  · rw [h] at h1; cases h1
  · rw [h] at h2; cases h2
theorem trStep_t {out : List RowD} {r : RowD} (h1 : z1 r.ls = true) (h2 : valB r.v = true) (h3 : rtE (out ++ [⟨zJ r.ls, r.v⟩]) = 0) : zbg out r = rtL (out ++ [⟨zJ r.ls, r.v⟩]) := by unfold zbg; rw [if_pos ⟨h1, h2, h3⟩]
theorem trStep_f {out : List RowD} {r : RowD} (h3 : ¬ rtE (out ++ [⟨zJ r.ls, r.v⟩]) = 0) : zbg out r = out := by unfold zbg; rw [if_neg (fun h => h3 h.2.2)]
theorem trs_take {l : List RowD} (h : ∀ r ∈ l, zax r.ls = true) (k : Nat) : TRs (l.take k) (zC (l.take k)) := tidyRs_trs (fun r hr => h r (List.mem_of_mem_take hr))
end Lp
/-
  Vectors (chapter 10): rows under labels, and what is reckoned with them, as plain data.
-/
set_option linter.unusedVariables false
namespace Lp
open Go
theorem tidyOk_E (l : List Lbl) : decide (zaH l = 0) = z1 l := by
  unfold zaH; cases z1 l <;> rfl
theorem rightB_eq (l : List Lbl) : (decide (zaH l = 0) && decide (zM (zJ l) l = 0)) = zaL l := by
  unfold zaL; rw [tidyOk_E]
def za6 (r : RowD) : Bool := zaL r.ls && zaD r.v
theorem rowsB_ok (l : List RowD) : zbm l = l.all za6 := rfl
theorem okRow_len {r : RowD} (h : za6 r = true) : r.ls.length ≤ 8 := by
  unfold za6 zaL at h
  simp only [Bool.and_eq_true] at h
  exact tidy_ok_len h.1.1
def zdg (l : List RowD) : Nat → Option RowD
  | 0 => none
  | k + 1 => l[k]?
def ltP (p : Option RowD) (x : RowD) : Bool := match p with
  | none => true
  | some q => decide (cL q x < 0)
def ascB : Option RowD → List RowD → Bool
  | _, [] => true
  | p, r :: l => za6 r && (ltP p r && ascB (some r) l)
def zbu (l : List RowD) (k : Nat) : Bool := ascB (zdg l k) (l.drop k)
def zT (l : List RowD) : Bool := decide (l.length ≤ 2000) && zbu l 0
theorem ascAt_next {l : List RowD} {k : Nat} {x : RowD} (h : l[k]? = some x) : zbu l k = (za6 x && (ltP (zdg l k) x && zbu l (k + 1))) := by
  unfold zbu
  rw [drop_at h]
  show (za6 x && (ltP (zdg l k) x && ascB (some x) (l.drop (k + 1)))) = _
  rw [show zdg l (k + 1) = some x from h]
theorem ascAt_end {l : List RowD} {k : Nat} (h : l.length ≤ k) : zbu l k = true := by
  unfold zbu; rw [List.drop_eq_nil_iff.2 h]; rfl
theorem prevR_pos {l : List RowD} {k : Nat} {y : RowD} (h : (0 : Int) < ((k : Nat) : Int)) (hy : l[k - 1]? = some y) : zdg l k = some y := by
  cases k with
  | zero => simp at h
  | succ k => simpa [zdg] using hy
theorem prevR_zero {l : List RowD} {k : Nat} (h : ¬ (0 : Int) < ((k : Nat) : Int)) : zdg l k = none := by
  have : k = 0 := by omega
  subst this; rfl
section
variable {l : List RowD} {k : Nat} {x : RowD}
theorem vr_long (h : (2000 : Int) < ((l.length : Nat) : Int)) : false = zT l := by
  have : ¬ l.length ≤ 2000 := by omega
  simp [zT, this]
theorem vr_bad1 (hk : zbu l 0 = zbu l k) (hx : l[k]? = some x) (h : za6 x = false) : false = zT l := by simp [zT, hk, ascAt_next hx, h]
theorem vr_bad2 (hk : zbu l 0 = zbu l k) (hx : l[k]? = some x) {y : RowD} (h : zdg l k = some y) (hn : 0 ≤ zM y.ls x.ls) : false = zT l := by
  have : ¬ cL y x < 0 := by unfold cL; omega
  simp [zT, hk, ascAt_next hx, h, ltP, this]
theorem vr_good (hk : zbu l 0 = zbu l k) (hx : l.length ≤ k) (h : ¬ (2000 : Int) < ((l.length : Nat) : Int)) : true = zT l := by
  have : l.length ≤ 2000 := by omega
  simp [zT, hk, ascAt_end hx, this]
theorem vr_step0 (hk : zbu l 0 = zbu l k) (hx : l[k]? = some x) (h : za6 x = true) (hp : zdg l k = none) : zbu l 0 = zbu l (k + 1) := by rw [hk, ascAt_next hx, h, hp]; rfl
theorem vr_step (hk : zbu l 0 = zbu l k) (hx : l[k]? = some x) (h : za6 x = true) {y : RowD} (hp : zdg l k = some y) (hn : ¬ 0 ≤ zM y.ls x.ls) : zbu l 0 = zbu l (k + 1) := by
  have : cL y x < 0 := by unfold cL; omega
  rw [hk, ascAt_next hx, h, hp]; simp [ltP, this]
end
theorem ascB_iff : ∀ (l : List RowD) (p : Option RowD), ascB p l = true ↔ (∀ r ∈ l, za6 r = true) ∧ zaB cL l ∧ (∀ q, p = some q → ∀ r ∈ l, cL q r < 0)
  | [], p => by
    constructor
    · intro _; exact ⟨fun _ h => (by cases h), List.Pairwise.nil, fun _ _ _ h => (by cases h)⟩
    · intro _; rfl
  | r :: l, p => by
    show (za6 r && (ltP p r && ascB (some r) l)) = true ↔ _
    rw [Bool.and_eq_true, Bool.and_eq_true, ascB_iff l (some r)]
    constructor
    · rintro ⟨h1, h2, h3, h4, h5⟩
      refine ⟨fun y hy => ?_, List.pairwise_cons.2 ⟨fun y hy => h5 r rfl y hy, h4⟩, fun q hq y hy => ?_⟩
      · rcases List.mem_cons.1 hy with e | e
        · rw [e]; exact h1
        · exact h3 y e
      · subst hq
        have hqr : cL q r < 0 := of_decide_eq_true h2
        rcases List.mem_cons.1 hy with e | e
        · rw [e]; exact hqr
        · exact (zdm.tr q r y).lt1 hqr (by have := h5 r rfl y e; omega)
    · rintro ⟨h1, h2, h3⟩
      have h2' := List.pairwise_cons.1 h2
      refine ⟨h1 r List.mem_cons_self, ?_, fun y hy => h1 y (List.mem_cons_of_mem _ hy), h2'.2, fun q hq y hy => by injection hq with hq; subst hq; exact h2'.1 y hy⟩
      cases p with
      | none => rfl
      | some q => exact decide_eq_true (h3 q rfl r List.mem_cons_self)
theorem zay {l : List RowD} : zT l = true ↔ l.length ≤ 2000 ∧ zbm l = true ∧ zaB cL l := by
  unfold zT
  rw [Bool.and_eq_true, decide_eq_true_eq, rowsB_ok, List.all_eq_true]
  show _ ∧ ascB none l = true ↔ _
  rw [ascB_iff]
  constructor
  · rintro ⟨h1, h2, h3, _⟩; exact ⟨h1, h2, h3⟩
  · rintro ⟨h1, h2, h3⟩; exact ⟨h1, h2, h3, fun _ h => (by cases h)⟩

/-! ### tidy -/
theorem cmpRow0 : zI 0 = cL := by funext a b; rfl
/-- how far the look for twins has come -/
def zcT (s : List RowD) (i : Nat) : Prop := ∀ j x y, j + 1 < i → s[j]? = some x → s[j + 1]? = some y → cL x y ≠ 0
theorem zcT.one (s : List RowD) : zcT s 1 := fun j x y h => by omega
theorem zcT.next {s : List RowD} {i : Nat} {x y : RowD} (h : zcT s i) (hi : 1 ≤ i) (hx : s[i - 1]? = some x) (hy : s[i]? = some y) (hn : ¬ zM x.ls y.ls = 0) : zcT s (i + 1) := fun j a b hj ha hb => by
  rcases Nat.lt_or_ge (j + 1) i with e | e
  · exact h j a b e ha hb
  · have : j + 1 = i := by omega
    subst this
    simp only [Nat.add_sub_cancel] at hx
    rw [ha] at hx; rw [hb] at hy; injection hx with hx; injection hy with hy; subst hx; subst hy; exact hn
theorem strict_of {s : List RowD} (h : Srt cL s) (hn : zcT s s.length) : zaB cL s := by
  induction s with
  | nil => exact List.Pairwise.nil
  | cons x r ih =>
    have h' := List.pairwise_cons.1 h
    have hr : zaB cL r := ih h'.2 (fun j a b hj ha hb => hn (j + 1) a b (by simp; omega) (by simpa using ha) (by simpa using hb))
    refine List.pairwise_cons.2 ⟨fun y hy => ?_, hr⟩
    cases r with
    | nil => cases hy
    | cons z r =>
      have e1 : cL x z ≤ 0 := h'.1 z List.mem_cons_self
      have e2 : cL x z ≠ 0 := hn 0 x z (by simp) rfl rfl
      rcases List.mem_cons.1 hy with e | e
      · rw [e]; omega
      · exact (zdm.tr x z y).lt1 (by omega) (by have := (List.pairwise_cons.1 hr).1 y e; omega)
section
variable {l : List RowD} {i : Nat} {x y : RowD}
theorem td_rows {n : Nat} (h : zbm (l.take n) = true) (hn : l.length ≤ n) : zbm l = true := by rwa [List.take_of_length_le hn] at h
theorem td_twin (h1 : ¬ (2000 : Int) < ((l.length : Nat) : Int)) (h2 : zbm l = true) (hi : 1 ≤ i) (hx : (zt (zI 0) l)[i - 1]? = some x) (hy : (zt (zI 0) l)[i]? = some y) (e : zM x.ls y.ls = 0) : [] = rtL l ∧ 6 = rtE l := by
  have hb : ordB l = false := by
    rcases ek : ordB l with _ | _
    · rfl
    · exfalso
      have hst : (zt cL l).Pairwise (fun a b => cL a b < 0) := by unfold ordB at ek; exact of_decide_eq_true ek
      rw [← cmpRow0] at hst
      obtain ⟨p1, q1⟩ := List.getElem?_eq_some_iff.1 hx
      obtain ⟨p2, q2⟩ := List.getElem?_eq_some_iff.1 hy
      have := List.pairwise_iff_getElem.1 hst (i - 1) i p1 p2 (by omega)
      rw [q1, q2] at this
      have e' : zI 0 x y = zM x.ls y.ls := rfl
      omega
  obtain ⟨a, b⟩ := zdF h1 h2
  obtain ⟨c, d⟩ := ord_no hb
  exact ⟨c.trans a, d.trans b⟩
theorem td_good (h1 : ¬ (2000 : Int) < ((l.length : Nat) : Int)) (h2 : zbm l = true) (hn : zcT (zt (zI 0) l) i) (hi : (zt (zI 0) l).length ≤ i) : zt (zI 0) l = rtL l ∧ 0 = rtE l := by
  have hst : zaB cL (zt cL l) := by
    rw [cmpRow0] at hn hi
    exact strict_of (zaj zdm _ l rfl).srt (fun j a b hj ha hb => hn j a b (by omega) ha hb)
  have hb : ordB l = true := by unfold ordB; exact decide_eq_true hst
  obtain ⟨a, b⟩ := zdF h1 h2
  rw [← a, ← b]
  unfold ordL ordE; rw [hb, cmpRow0]; exact ⟨rfl, rfl⟩
end
theorem rowsB_snoc' {l : List RowD} {k : Nat} {x : RowD} (hx : l[k]? = some x) (h : zbm (l.take k) = true) (hr : za6 x = true) : zbm (l.take (k + 1)) = true := by
  rw [rowsB_ok] at *; exact zbA hx h hr
theorem rt_bad' {l : List RowD} {i : Nat} {x : RowD} (hx : l[i]? = some x) (h : za6 x = false) : [] = rtL l ∧ 1 = rtE l := zcQ hx h

/-! ### keys, ops -/
def metB : ByteArray := ⟨#[109, 101, 116, 114, 105, 99]⟩
def keyL (mode : Int) (ns : List ByteArray) (l : List Lbl) : List Lbl :=
  if mode = 1 then zbb l ns true else if mode = 2 then zbb (zbb l ns false) [metB] false else zbb l [metB] false
theorem keyL_len (mode : Int) (ns : List ByteArray) (l : List Lbl) : (keyL mode ns l).length ≤ l.length := by
  unfold keyL
  split
  · exact zbG _ _ _
  · split
    · exact Nat.le_trans (zbG _ _ _) (zbG _ _ _)
    · exact zbG _ _ _
theorem zcE {l : List Lbl} {ns : List ByteArray} {w : Bool} {x : Lbl} (h : x ∈ zbb l ns w) : x ∈ l := (List.mem_filter.1 h).1
theorem keyL_mem {mode : Int} {ns : List ByteArray} {l : List Lbl} {x : Lbl} (h : x ∈ keyL mode ns l) : x ∈ l := by
  unfold keyL at h
  split at h
  · exact zcE h
  · split at h
    · exact zcE (zcE h)
    · exact zcE h
/-- rows whose labels are few and short enough to be put in words -/
def LZ (l : List RowD) : Prop := ∀ r ∈ l, r.ls.length ≤ 1000 ∧ ∀ x ∈ r.ls, x.n.size ≤ 100000 ∧ x.v.size ≤ 100000
theorem LZ.key {l : List RowD} (h : LZ l) {r : RowD} (hr : r ∈ l) (mode : Int) (ns : List ByteArray) : (keyL mode ns r.ls).length ≤ 1000 ∧ ∀ x ∈ keyL mode ns r.ls, x.n.size ≤ 100000 ∧ x.v.size ≤ 100000 :=
  ⟨Nat.le_trans (keyL_len _ _ _) (h r hr).1, fun x hx => (h r hr).2 x (keyL_mem hx)⟩
theorem light_LZ {l : List RowD} (h : ∀ r ∈ l, zax r.ls = true) : LZ l := fun r hr =>
  ⟨by have := lightL_len (h r hr); omega, fun x hx => by have := light_sizes (h r hr) x hx; omega⟩
section
variable {f : RowD → Int × Int} {l : List RowD} {k : Nat} {x : RowD}
end
section
variable {op : ByteArray} {v : Int} {left : Bool} {l : List RowD} {k : Nat} {x : RowD}
end
/-! ### rows that have the same key -/
def keyT (mode : Int) (ns : List ByteArray) (r : RowD) : ByteArray := zau (keyL mode ns r.ls)
def keyTs (mode : Int) (ns : List ByteArray) (l : List RowD) : List ByteArray := l.map (keyT mode ns)
def ndT (mode : Int) (ns : List ByteArray) (l : List RowD) : Prop := (keyTs mode ns l).Nodup
instance (mode : Int) (ns : List ByteArray) (l : List RowD) : Decidable (ndT mode ns l) := inferInstanceAs (Decidable (List.Nodup _))
section
variable {op : ByteArray} {mode : Int} {ns : List ByteArray} {a b : List RowD} {k : Nat} {x : RowD}
end
end Lp
