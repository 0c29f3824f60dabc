/-
  Texts of labels tell labels apart; names in tidy labels are all different.
-/
import Derived.Lib.QuietBelow
import Derived.Lib.SmallJoins
import Derived.Test.YtoanlikkhjohpaaDoorRows
import Derived.ProofKit
import Derived.LaidMore
import Derived.OpenShut
import Derived.Stop.Joined
import Derived.Test.YtoanlikkhjohpaaDoorProg
import Derived.Test.YtoanlikkhjohpaaDoorPText
set_option linter.unusedVariables false
namespace Lp
open Go

/-! ### what a text of zaj is made of -/
def bts (s : ByteArray) (p : Nat) : List UInt8 := s.data.toList.drop p
theorem zaT {s : ByteArray} {p : Nat} (h : p < s.size) : bts s p = s.get! p :: bts s (p + 1) := by
  unfold bts
  have h' : p < s.data.toList.length := by simpa using h
  rw [List.drop_eq_getElem_cons h']
  congr 1
  simp [ByteArray.get!, h]
theorem ofNat_eq {a b : Nat} (h : UInt8.ofNat a = UInt8.ofNat b) : a % 256 = b % 256 := by
  have := congrArg UInt8.toNat h; simpa using this
theorem zcw {b : UInt8} {n : Nat} (h : b.toNat = n % 256) : b = UInt8.ofNat n := by
  apply UInt8.toNat_inj.1; simpa using h
theorem zaN {s : ByteArray} {p : Nat} : (s.extract p s.size).data.toList = bts s p := by
  unfold bts
  simp only [ByteArray.data_extract, Array.toList_extract, List.extract]
  rw [List.take_of_length_le]
  simp
theorem hasP_bts {s : ByteArray} {p : Nat} (h : hasP (s.extract p s.size) wide = true) : ∃ r, bts s p = 239 :: 191 :: 189 :: r := by
  unfold hasP at h
  simp only [Bool.and_eq_true, decide_eq_true_eq] at h
  have e := congrArg (fun b : ByteArray => b.data.toList) h.2
  simp only [ByteArray.data_extract, Array.toList_extract, List.extract] at e
  have e2 : (s.extract p s.size).data.toList.take 3 = [239, 191, 189] := by
    have e3 : List.take wide.size (List.take (s.size - p) (List.drop p s.data.toList)) = [239, 191, 189] := by simpa [wide] using e
    rw [show wide.size = 3 from rfl] at e3
    simpa using e3
  rw [zaN] at e2
  refine ⟨(bts s p).drop 3, ?_⟩
  have := (List.take_append_drop 3 (bts s p)).symm
  rw [e2] at this; simpa using this
theorem not_lt_bts {s : ByteArray} {p : Nat} (h : s.size ≤ p) : bts s p = [] := by unfold bts; rw [List.drop_eq_nil_iff]; simpa using h
theorem bts_lt {s : ByteArray} {p : Nat} {a : UInt8} {r : List UInt8} (h : bts s p = a :: r) : p < s.size := by
  rcases Nat.lt_or_ge p s.size with h' | h'
  · exact h'
  · rw [not_lt_bts h'] at h; cases h
theorem bts_head {s : ByteArray} {p : Nat} {a : UInt8} {r : List UInt8} (h : bts s p = a :: r) : s.get! p = a ∧ bts s (p + 1) = r := by
  rw [zaT (bts_lt h)] at h; injection h with h1 h2; exact ⟨h1, h2⟩
/-- what is decoded: the bytes of a rune, or a byte that is none -/
theorem dec_cases (s : ByteArray) (p : Nat) (h : p < s.size) :
    (bts s p = encR (decR s p) ++ bts s (p + decW s p)) ∨ (decR s p = 65533 ∧ decW s p = 1 ∧ hasP (s.extract p s.size) wide = false) := by
  by_cases hw : hasP (s.extract p s.size) wide = true
  · left
    obtain ⟨r, hr⟩ := hasP_bts hw
    obtain ⟨g0, b1⟩ := bts_head hr
    obtain ⟨g1, b2⟩ := bts_head b1
    obtain ⟨g2, b3⟩ := bts_head b2
    have l2 := bts_lt b2
    have hd : Utf8.decode s p = (65533, 3) := by
      unfold Utf8.decode
      simp only [Nat.add_zero, g0, g1, show p + 2 = p + 1 + 1 from rfl, g2, show p + 1 < s.size by omega, l2, decide_true, Bool.true_and]
      simp [Utf8.valid]
    have e1 : decR s p = 65533 := by unfold decR; rw [hd]
    have e2 : decW s p = 3 := by unfold decW; rw [hd]
    rw [e1, e2, hr, show p + 3 = p + 1 + 1 + 1 from rfl, b3]
    rfl
  · have hw : hasP (s.extract p s.size) wide = false := by simpa using hw
    have l0 : (s.get! p).toNat < 256 := UInt8.toNat_lt _
    have l1 : (s.get! (p + 1)).toNat < 256 := UInt8.toNat_lt _
    have l2 : (s.get! (p + 2)).toNat < 256 := UInt8.toNat_lt _
    have l3 : (s.get! (p + 3)).toNat < 256 := UInt8.toNat_lt _
    have c0 := zaT h
    unfold decR decW
    unfold Utf8.decode
    simp only [Nat.add_zero, Utf8.runeError, Bool.and_eq_true, decide_eq_true_eq, beq_iff_eq]
    by_cases h1 : (s.get! p).toNat < 128
    · left
      rw [if_pos h1]
      show _ = encR (s.get! p).toNat ++ _
      unfold encR
      rw [if_pos (show (s.get! p).toNat ≤ 127 by omega), c0]
      congr 1; exact zcw (by omega)
    · rw [if_neg h1]
      by_cases h2 : (s.get! p).toNat / 32 = 6 ∧ p + 1 < s.size ∧ (s.get! (p + 1)).toNat / 64 = 2
      · rw [if_pos h2]
        have c1 := zaT h2.2.1
        by_cases h3 : (s.get! p).toNat % 32 * 64 + (s.get! (p + 1)).toNat % 64 ≥ 128
        · left
          rw [if_pos h3]
          show _ = encR ((s.get! p).toNat % 32 * 64 + (s.get! (p + 1)).toNat % 64) ++ _
          unfold encR
          rw [if_neg (by omega), if_pos (by omega), c0, c1]
          show _ = _ :: _ :: _
          congr 1
          · exact zcw (by omega)
          · congr 1; exact zcw (by omega)
        · right; rw [if_neg h3]; exact ⟨rfl, rfl, hw⟩
      · rw [if_neg h2]
        by_cases h4 : ((s.get! p).toNat / 16 = 14 ∧ p + 1 < s.size ∧ (s.get! (p + 1)).toNat / 64 = 2) ∧ p + 2 < s.size ∧ (s.get! (p + 2)).toNat / 64 = 2
        · rw [if_pos h4]
          have c1 := zaT h4.1.2.1
          have c2 := zaT h4.2.1
          by_cases h3 : (s.get! p).toNat % 16 * 4096 + (s.get! (p + 1)).toNat % 64 * 64 + (s.get! (p + 2)).toNat % 64 ≥ 2048 ∧ Utf8.valid (((s.get! p).toNat % 16 * 4096 + (s.get! (p + 1)).toNat % 64 * 64 + (s.get! (p + 2)).toNat % 64 : Nat) : Int) = true
          · left
            rw [if_pos h3]
            show _ = encR ((s.get! p).toNat % 16 * 4096 + (s.get! (p + 1)).toNat % 64 * 64 + (s.get! (p + 2)).toNat % 64) ++ _
            have hv := h3.2
            unfold Utf8.valid at hv
            simp only [Bool.or_eq_true, Bool.and_eq_true, decide_eq_true_eq] at hv
            unfold encR
            rw [if_neg (by omega), if_neg (by omega), if_pos (by omega), c0, c1, c2]
            show _ = _ :: _ :: _ :: _
            congr 1
            · exact zcw (by omega)
            · congr 1
              · exact zcw (by omega)
              · congr 1; exact zcw (by omega)
          · right; rw [if_neg h3]; exact ⟨rfl, rfl, hw⟩
        · rw [if_neg h4]
          by_cases h5 : (((s.get! p).toNat / 8 = 30 ∧ p + 1 < s.size ∧ (s.get! (p + 1)).toNat / 64 = 2) ∧ p + 2 < s.size ∧ (s.get! (p + 2)).toNat / 64 = 2) ∧ p + 3 < s.size ∧ (s.get! (p + 3)).toNat / 64 = 2
          · rw [if_pos h5]
            have c1 := zaT h5.1.1.2.1
            have c2 := zaT h5.1.2.1
            have c3 := zaT h5.2.1
            by_cases h3 : (s.get! p).toNat % 8 * 262144 + (s.get! (p + 1)).toNat % 64 * 4096 + (s.get! (p + 2)).toNat % 64 * 64 + (s.get! (p + 3)).toNat % 64 ≥ 65536 ∧ Utf8.valid (((s.get! p).toNat % 8 * 262144 + (s.get! (p + 1)).toNat % 64 * 4096 + (s.get! (p + 2)).toNat % 64 * 64 + (s.get! (p + 3)).toNat % 64 : Nat) : Int) = true
            · left
              rw [if_pos h3]
              show _ = encR ((s.get! p).toNat % 8 * 262144 + (s.get! (p + 1)).toNat % 64 * 4096 + (s.get! (p + 2)).toNat % 64 * 64 + (s.get! (p + 3)).toNat % 64) ++ _
              have hv := h3.2
              unfold Utf8.valid at hv
              simp only [Bool.or_eq_true, Bool.and_eq_true, decide_eq_true_eq] at hv
              unfold encR
              rw [if_neg (by omega), if_neg (by omega), if_neg (by omega), if_pos (by omega), c0, c1, c2, c3]
              show _ = _ :: _ :: _ :: _ :: _
              congr 1
              · exact zcw (by omega)
              · congr 1
                · exact zcw (by omega)
                · congr 1
                  · exact zcw (by omega)
                  · congr 1; exact zcw (by omega)
            · right; rw [if_neg h3]; exact ⟨rfl, rfl, hw⟩
          · right; rw [if_neg h5]; exact ⟨rfl, rfl, hw⟩

/-! ### names have no sign of equality -/
theorem encR_no {c : Nat} {x : UInt8} (hx : x.toNat < 128) (h : x ∈ encR c) : c = x.toNat := by
  unfold encR at h
  split at h
  · simp at h; rw [h]; simp; omega
  · exfalso
    have key : ∀ n : Nat, 128 ≤ n % 256 → x ≠ UInt8.ofNat n := fun n hn e => by rw [e] at hx; simp at hx; omega
    split at h
    · simp only [List.mem_cons, List.not_mem_nil, or_false] at h
      rcases h with h | h <;> exact key _ (by omega) h
    · split at h
      · simp only [List.mem_cons, List.not_mem_nil, or_false] at h
        rcases h with h | h | h <;> exact key _ (by omega) h
      · split at h
        · simp only [List.mem_cons, List.not_mem_nil, or_false] at h
          rcases h with h | h | h | h <;> exact key _ (by omega) h
        · simp only [List.mem_cons, List.not_mem_nil, or_false] at h
          rcases h with h | h | h <;> (rw [h] at hx; revert hx; decide)
/-! ### between quotation marks -/
inductive Tok : List UInt8 → List UInt8 → Prop where
  | esc {c : UInt8} : c = 34 ∨ c = 92 → Tok [92, c] [c]
  | nl : Tok [92, 110] [10]
  | hex {b : UInt8} : Tok [92, 120, hexB (b.toNat / 16), hexB (b.toNat % 16)] [b]
  | raw {c : Nat} : c < 1114112 → c ≠ 34 → c ≠ 92 → c ≠ 10 → Tok (encR c) (encR c)
theorem byteAt_get {s : ByteArray} {p : Nat} (h : p < s.size) : zF s p = (s.get! p).toNat := by
  unfold zF; congr 1; simp [ByteArray.get!, h]; rfl
theorem zbs {s : ByteArray} {p : Nat} (h : p < s.size) : ∃ src, Tok (zb0 s p) src ∧ bts s p = src ++ bts s (p + decW s p) := by
  have hl := zca s p
  rcases dec_cases s p h with e | ⟨e1, e2, e3⟩
  · by_cases h1 : decR s p = 34 ∨ decR s p = 92
    · refine ⟨encR (decR s p), ?_, e⟩
      rw [piece_1 h1]
      rcases h1 with h1 | h1 <;> rw [h1]
      · exact .esc (.inl rfl)
      · exact .esc (.inr rfl)
    · by_cases h2 : decR s p = 10
      · refine ⟨encR (decR s p), ?_, e⟩
        rw [piece_2 h1 h2, h2]; exact .nl
      · by_cases h3 : decR s p = 65533 ∧ hasP (s.extract p s.size) wide = false
        · exfalso
          have hr : bts s p = 239 :: 191 :: 189 :: bts s (p + decW s p) := by rw [e, h3.1]; rfl
          have : hasP (s.extract p s.size) wide = true := by
            unfold hasP
            have e4 := zaN (s := s) (p := p)
            rw [hr] at e4
            have hsz : 3 ≤ (s.extract p s.size).size := by
              have := congrArg List.length e4
              simp only [Array.length_toList, List.length_cons] at this
              show 3 ≤ (s.extract p s.size).data.size
              omega
            have hx : (s.extract p s.size).extract 0 wide.size = wide := by
              apply ByteArray.ext
              apply Array.toList_inj.1
              rw [ByteArray.data_extract, Array.toList_extract, List.extract, e4]
              rfl
            rw [hx, show wide.size = 3 from rfl, decide_eq_true hsz]; simp
          rw [h3.2] at this; cases this
        · refine ⟨encR (decR s p), ?_, e⟩
          rw [piece_4 h1 h2 h3]
          exact .raw hl (fun e => h1 (.inl e)) (fun e => h1 (.inr e)) h2
  · refine ⟨[s.get! p], ?_, ?_⟩
    · rw [piece_3 (by rw [e1]; decide) (by rw [e1]; decide) ⟨e1, e3⟩, byteAt_get h]; exact .hex
    · rw [e2]; exact zaT h
def elen (b : UInt8) : Nat := if b.toNat < 192 then 1 else if b.toNat < 224 then 2 else if b.toNat < 240 then 3 else 4
def olen : List UInt8 → Nat
  | [] => 0
  | b :: r => if b = 92 then (if r.head? = some 120 then 4 else 2) else elen b
theorem encR_head {c : Nat} (hc : c < 1114112) : ∃ b r, encR c = b :: r ∧ (encR c).length = elen b ∧ (b = 92 → c = 92) ∧ (b = 34 → c = 34) := by
  have ne : ∀ n m : Nat, m < 128 → 128 ≤ n % 256 → UInt8.ofNat n ≠ UInt8.ofNat m := fun n m hm hn e => by have := ofNat_eq e; omega
  unfold encR elen
  split
  · refine ⟨_, _, rfl, ?_, ?_, ?_⟩
    · have : (UInt8.ofNat (c % 256)).toNat < 192 := by simp; omega
      rw [if_pos this]; rfl
    · intro e; have := ofNat_eq (b := 92) e; omega
    · intro e; have := ofNat_eq (b := 34) e; omega
  · split
    · refine ⟨_, _, rfl, ?_, ?_, ?_⟩
      · have h1 : ¬ (UInt8.ofNat (192 + c / 64 % 256)).toNat < 192 := by simp; omega
        have h2 : (UInt8.ofNat (192 + c / 64 % 256)).toNat < 224 := by simp; omega
        rw [if_neg h1, if_pos h2]; rfl
      · intro e; exact absurd e (ne _ 92 (by decide) (by omega))
      · intro e; exact absurd e (ne _ 34 (by decide) (by omega))
    · split
      · refine ⟨_, _, rfl, ?_, ?_, ?_⟩
        · have h1 : ¬ (UInt8.ofNat (224 + c / 4096 % 256)).toNat < 192 := by simp; omega
          have h2 : ¬ (UInt8.ofNat (224 + c / 4096 % 256)).toNat < 224 := by simp; omega
          have h3 : (UInt8.ofNat (224 + c / 4096 % 256)).toNat < 240 := by simp; omega
          rw [if_neg h1, if_neg h2, if_pos h3]; rfl
        · intro e; exact absurd e (ne _ 92 (by decide) (by omega))
        · intro e; exact absurd e (ne _ 34 (by decide) (by omega))
      · split
        · refine ⟨_, _, rfl, ?_, ?_, ?_⟩
          · have h1 : ¬ (UInt8.ofNat (240 + c / 262144 % 256)).toNat < 192 := by simp; omega
            have h2 : ¬ (UInt8.ofNat (240 + c / 262144 % 256)).toNat < 224 := by simp; omega
            have h3 : ¬ (UInt8.ofNat (240 + c / 262144 % 256)).toNat < 240 := by simp; omega
            rw [if_neg h1, if_neg h2, if_neg h3]; rfl
          · intro e; exact absurd e (ne _ 92 (by decide) (by omega))
          · intro e; exact absurd e (ne _ 34 (by decide) (by omega))
        · refine ⟨_, _, rfl, by decide, fun e => absurd e (by decide), fun e => absurd e (by decide)⟩
theorem tok_len {o s : List UInt8} (h : Tok o s) (r : List UInt8) : olen (o ++ r) = o.length := by
  cases h with
  | esc h => rcases h with h | h <;> rw [h] <;> rfl
  | nl => rfl
  | hex => rfl
  | raw hc _ h92 _ =>
    obtain ⟨b, t, e, el, hb, _⟩ := encR_head hc
    rw [el, e]
    show (if b = 92 then _ else elen b) = _
    rw [if_neg (fun e => h92 (hb e))]
theorem hexB_inj : ∀ a : Nat, a < 16 → ∀ b : Nat, b < 16 → hexB a = hexB b → a = b := by decide
theorem tok_src {o s t : List UInt8} (h : Tok o s) (h' : Tok o t) : s = t := by
  have hh : ∀ {c : Nat} {x : UInt8} {l : List UInt8}, c < 1114112 → c ≠ 92 → encR c = 92 :: l → False := fun {c _ l} hc hn e => by
    obtain ⟨b, t, e', _, hb, _⟩ := encR_head hc
    rw [e'] at e; injection e with e _; exact hn (hb e)
  generalize ho : o = o' at h'
  cases h with
  | esc h =>
    cases h' with
    | esc _ => cases ho; rfl
    | nl => injection ho with _ ho; injection ho with ho; rw [ho] at h; exact absurd h (by decide)
    | hex => cases ho
    | raw hc _ h92 _ => exact (hh (x := 0) hc h92 ho.symm).elim
  | nl =>
    cases h' with
    | esc h => injection ho with _ ho; injection ho with ho; rw [← ho] at h; exact absurd h (by decide)
    | nl => rfl
    | hex => cases ho
    | raw hc _ h92 _ => exact (hh (x := 0) hc h92 ho.symm).elim
  | @hex a =>
    cases h' with
    | esc h => cases ho
    | nl => cases ho
    | @hex b =>
      injection ho with _ ho; injection ho with _ ho; injection ho with h1 ho; injection ho with h2 _
      have la := UInt8.toNat_lt a
      have lb := UInt8.toNat_lt b
      have e1 := hexB_inj _ (by omega) _ (by omega) h1
      have e2 := hexB_inj _ (by omega) _ (by omega) h2
      have : a = b := UInt8.toNat_inj.1 (by omega)
      rw [this]
    | raw hc _ h92 _ => exact (hh (x := 0) hc h92 ho.symm).elim
  | raw hc _ h92 _ =>
    cases h' with
    | esc h => exact (hh (x := 0) hc h92 ho).elim
    | nl => exact (hh (x := 0) hc h92 ho).elim
    | hex => exact (hh (x := 0) hc h92 ho).elim
    | raw _ _ _ _ => exact ho
theorem tok_no {o s r t : List UInt8} (h : Tok o s) : o ++ r ≠ 34 :: t := by
  cases h with
  | esc _ => intro e; injection e with e _; revert e; decide
  | nl => intro e; injection e with e _; revert e; decide
  | hex => intro e; injection e with e _; revert e; decide
  | raw hc h34 _ _ =>
    obtain ⟨b, u, e, _, _, hb⟩ := encR_head hc
    rw [e]; intro e'; injection e' with e' _; exact h34 (hb e')
theorem tok_inj {o s o' s' r r' : List UInt8} (h : Tok o s) (h' : Tok o' s') (e : o ++ r = o' ++ r') : s = s' ∧ r = r' := by
  have hl : o.length = o'.length := by rw [← tok_len h r, ← tok_len h' r', e]
  obtain ⟨e1, e2⟩ := List.append_inj e hl
  subst e1; exact ⟨tok_src h h', e2⟩
theorem quote_inj : ∀ (n : Nat) (s t : ByteArray) (p q : Nat) (r r' : List UInt8), s.size - p = n → zW s p ++ 34 :: r = zW t q ++ 34 :: r' → bts s p = bts t q ∧ r = r' := by
  intro n
  induction n using Nat.strongRecOn with
  | _ n ih =>
    intro s t p q r r' hn e
    rcases Nat.lt_or_ge p s.size with h | h <;> rcases Nat.lt_or_ge q t.size with h' | h'
    · obtain ⟨s1, k1, b1⟩ := zbs h
      obtain ⟨s2, k2, b2⟩ := zbs h'
      rw [zav h, zav h', List.append_assoc, List.append_assoc] at e
      obtain ⟨e1, e2⟩ := tok_inj k1 k2 e
      have hp := zV s p
      obtain ⟨e3, e4⟩ := ih _ (by omega) s t _ _ r r' rfl e2
      rw [b1, b2, e1, e3]; exact ⟨rfl, e4⟩
    · obtain ⟨s1, k1, _⟩ := zbs h
      rw [zav h, za0 h', List.append_assoc] at e
      exact (tok_no k1 e).elim
    · obtain ⟨s2, k2, _⟩ := zbs h'
      rw [za0 h, zav h', List.append_assoc] at e
      exact (tok_no k2 e.symm).elim
    · rw [za0 h, za0 h'] at e
      injection e with _ e
      rw [not_lt_bts h, not_lt_bts h']; exact ⟨rfl, e⟩
theorem bts_inj {s t : ByteArray} (h : bts s 0 = bts t 0) : s = t := by
  unfold bts at h; simp only [List.drop_zero] at h
  exact ByteArray.ext (Array.toList_inj.1 h)
theorem quoteB_inj {s t : ByteArray} (h : zah s = zah t) : s = t := by
  have e := congrArg (fun b : ByteArray => b.data.toList) h
  simp only [zah, zay] at e
  injection e with _ e
  exact bts_inj (quote_inj _ s t 0 0 [] [] rfl e).1

end Lp
/-
  The document's own quotation marks and texts of labels, as plain data.
-/
set_option linter.unusedVariables false
namespace Lp
open Go
theorem zcG (s : ByteArray) (p : Nat) : (bts s p).length = s.size - p := by unfold bts; simp
end Lp
/-
  Words of a query, as plain data.
-/
set_option linter.unusedVariables false
namespace Lp
open Go
/-! ### the first rune of bytes -/
def gb (l : List UInt8) (k : Nat) : Nat := (l.getD k 0).toNat
def zar (l : List UInt8) (k : Nat) : Bool := decide (k < l.length) && gb l k / 64 == 2
def decL (l : List UInt8) : Nat × Nat :=
  if gb l 0 < 128 then (gb l 0, 1)
  else if (gb l 0 / 32 == 6 && zar l 1) = true then
    if gb l 0 % 32 * 64 + gb l 1 % 64 ≥ 128 then (gb l 0 % 32 * 64 + gb l 1 % 64, 2) else (65533, 1)
  else if (gb l 0 / 16 == 14 && zar l 1 && zar l 2) = true then
    if (decide (gb l 0 % 16 * 4096 + gb l 1 % 64 * 64 + gb l 2 % 64 ≥ 2048) && Utf8.valid ((gb l 0 % 16 * 4096 + gb l 1 % 64 * 64 + gb l 2 % 64 : Nat) : Int)) = true then (gb l 0 % 16 * 4096 + gb l 1 % 64 * 64 + gb l 2 % 64, 3) else (65533, 1)
  else if (gb l 0 / 8 == 30 && zar l 1 && zar l 2 && zar l 3) = true then
    if (decide (gb l 0 % 8 * 262144 + gb l 1 % 64 * 4096 + gb l 2 % 64 * 64 + gb l 3 % 64 ≥ 65536) && Utf8.valid ((gb l 0 % 8 * 262144 + gb l 1 % 64 * 4096 + gb l 2 % 64 * 64 + gb l 3 % 64 : Nat) : Int)) = true then (gb l 0 % 8 * 262144 + gb l 1 % 64 * 4096 + gb l 2 % 64 * 64 + gb l 3 % 64, 4) else (65533, 1)
  else (65533, 1)
theorem gb_bts {s : ByteArray} {p k : Nat} : gb (bts s p) k = (s.get! (p + k)).toNat := by
  unfold gb bts
  rw [List.getD_eq_getElem?_getD, List.getElem?_drop]
  rcases Nat.lt_or_ge (p + k) s.size with h | h
  · have h' : p + k < s.data.toList.length := by simpa using h
    rw [List.getElem?_eq_getElem h']
    congr 1
    simp [ByteArray.get!, h]
  · rw [List.getElem?_eq_none (by simpa using h)]
    have e2 : s.get! (p + k) = default := by
      show s.data[p + k]! = _
      exact getElem!_neg _ _ (by simpa using h)
    rw [e2]; rfl
theorem cont_bts {s : ByteArray} {p k : Nat} : zar (bts s p) k = (decide (p + k < s.size) && (s.get! (p + k)).toNat / 64 == 2) := by
  unfold zar
  rw [gb_bts, zcG]
  congr 1; rw [decide_eq_decide]; omega
theorem decode_bts {s : ByteArray} {p : Nat} : Utf8.decode s p = decL (bts s p) := by
  unfold Utf8.decode decL
  simp only [gb_bts, cont_bts, Nat.add_zero, Utf8.runeError]
theorem zbT {s : ByteArray} {p : Nat} : decR s p = (decL (bts s p)).1 := by unfold decR; rw [decode_bts]
theorem zbS {s : ByteArray} {p : Nat} : decW s p = (decL (bts s p)).2 := by unfold decW; rw [decode_bts]
theorem bts_mk (l : List UInt8) : bts ⟨l.toArray⟩ 0 = l := by unfold bts; simp
theorem zbz {s : ByteArray} {p k : Nat} : (bts s p).drop k = bts s (p + k) := by unfold bts; rw [List.drop_drop]
theorem zbp (l : List UInt8) : 1 ≤ (decL l).2 := by have := zV ⟨l.toArray⟩ 0; rw [zbS, bts_mk] at this; exact this
theorem zcE {l : List UInt8} (h : l ≠ []) : (decL l).2 ≤ l.length := by
  have := zax ⟨l.toArray⟩ 0 (by
    have := List.length_pos_iff.2 h
    show 0 < l.toArray.size; simpa using this)
  rw [zbS, bts_mk] at this
  have e : ByteArray.size ⟨l.toArray⟩ = l.length := by show l.toArray.size = _; simp
  omega
theorem zcr {s : ByteArray} {p : Nat} (h : p < s.size) : bts s p ≠ [] := by rw [zaT h]; simp
theorem zcF {s : ByteArray} {p : Nat} (h : s.size ≤ p) : bts s p = [] := not_lt_bts h

/-! ### how far zaj of some kinds go -/
def runL (f : Int → Bool) (l : List UInt8) : Nat := if h : l ≠ [] ∧ f ((decL l).1 : Int) = true then (decL l).2 + runL f (l.drop (decL l).2) else 0
termination_by l.length
decreasing_by
  have h1 := zbp l
  have h2 := List.length_pos_iff.2 h.1
  rw [List.length_drop]; omega
theorem zaV {f : Int → Bool} {l : List UInt8} (h : l ≠ []) (hf : f ((decL l).1 : Int) = true) : runL f l = (decL l).2 + runL f (l.drop (decL l).2) := by
  conv => lhs; unfold runL
  rw [dif_pos ⟨h, hf⟩]
theorem zbk {f : Int → Bool} {l : List UInt8} (hf : f ((decL l).1 : Int) = false) : runL f l = 0 := by
  unfold runL; rw [dif_neg (by rw [hf]; simp)]
theorem za5 {f : Int → Bool} : runL f [] = 0 := by unfold runL; rw [dif_neg (by simp)]
theorem runL_le (f : Int → Bool) : ∀ (n : Nat) (l : List UInt8), l.length = n → runL f l ≤ l.length := by
  intro n
  induction n using Nat.strongRecOn with
  | _ n ih =>
    intro l hl
    by_cases h : l ≠ [] ∧ f ((decL l).1 : Int) = true
    · have h1 := zbp l
      have h2 := zcE h.1
      have h3 := ih (l.length - (decL l).2) (by omega) (l.drop (decL l).2) List.length_drop
      rw [List.length_drop] at h3
      rw [zaV h.1 h.2]; omega
    · unfold runL; rw [dif_neg h]; omega
theorem zaK (f : Int → Bool) (l : List UInt8) : runL f l ≤ l.length := runL_le f _ l rfl
/-- is a rune of one of some kinds -/
def inK (ks : List Int) (r : Int) : Bool := ks.any (fun k => decide (k = zE r))
def idxI (n : Int) : Nat → List Int → Int
  | _, [] => -1
  | k, m :: r => if n = m then (k : Int) else idxI n (k + 1) r
def hasI (ns : List Int) (n : Int) : Bool := ns.any (fun m => decide (m = n))
theorem idxI_has (n : Int) : ∀ (ns : List Int) (k : Nat), decide (0 ≤ idxI n k ns) = hasI ns n
  | [], k => rfl
  | m :: r, k => by
    unfold idxI hasI
    by_cases h : n = m
    · have h0 : (0 : Int) ≤ (k : Nat) := by omega
      simp [h, h0]
    · have h' : ¬ m = n := fun e => h e.symm
      have := idxI_has n r (k + 1)
      unfold hasI at this
      rw [if_neg h, this]; simp [h']
theorem idxI_at {n m : Int} {ns : List Int} {k : Nat} (hm : ns[k]? = some m) (h : idxI n 0 ns = idxI n k (ns.drop k)) (e : n = m) : ((k : Nat) : Int) = idxI n 0 ns := by
  rw [h, zb9 hm]; unfold idxI; rw [if_pos e]
theorem idxI_next {n m : Int} {ns : List Int} {k : Nat} (hm : ns[k]? = some m) (h : idxI n 0 ns = idxI n k (ns.drop k)) (e : ¬ n = m) : idxI n 0 ns = idxI n (k + 1) (ns.drop (k + 1)) := by
  rw [h, zb9 hm]; conv => lhs; unfold idxI
  rw [if_neg e]
theorem idxI_end {n : Int} {ns : List Int} {k : Nat} (hk : ns.length ≤ k) (h : idxI n 0 ns = idxI n k (ns.drop k)) : -1 = idxI n 0 ns := by
  rw [h, List.drop_eq_nil_iff.2 hk]; rfl
abbrev isLD : Int → Bool := inK [1, 2]
abbrev isD : Int → Bool := inK [2]
abbrev isB : Int → Bool := inK [3]
/-- bytes of a text -/
abbrev bl8 (s : ByteArray) : List UInt8 := s.data.toList
def mkB (l : List UInt8) : ByteArray := ⟨l.toArray⟩
theorem zbv (l : List UInt8) : bl8 (mkB l) = l := by simp [bl8, mkB]
theorem zcK (s : ByteArray) : mkB (bl8 s) = s := ByteArray.ext (Array.toList_inj.1 (by simp [bl8, mkB]))
theorem zbu {s : ByteArray} {a b : Nat} (h : b ≤ s.size) : s.extract a b = mkB (((bl8 s).take b).drop a) := by
  apply ByteArray.ext; apply Array.toList_inj.1
  simp only [mkB, ByteArray.data_extract, Array.toList_extract, List.extract, bl8]
  rw [List.drop_take]
theorem zaq (l : List UInt8) : (mkB l).size = l.length := by show l.toArray.size = _; simp
theorem zZ (s : ByteArray) : (bl8 s).length = s.size := by simp [bl8]

/-! ### tokens -/
structure TokD where
  k : Int
  a : Int
  t : ByteArray
deriving DecidableEq
def TokD.d (x : TokD) : D := .agg [.v (.int .i64 x.k), .v (.int .i64 x.a), .s x.t]
def zby : TokD := ⟨0, 0, ByteArray.empty⟩
def zaS (l : List UInt8) : TokD × Nat := if zcc (mkB (l.take (runL isLD l))) = true then (⟨1, 0, mkB (l.take (runL isLD l))⟩, runL isLD l) else (zby, 0)
/-- a number's value -/
def digV (l : List UInt8) : Nat := l.foldl (fun n b => 10 * n + (b.toNat - 48)) 0
/-- a number's digits -/
def digL (n : Nat) : List UInt8 := if h : n < 10 then [UInt8.ofNat (48 + n)] else digL (n / 10) ++ [UInt8.ofNat (48 + n % 10)]
termination_by n
decreasing_by omega
def digB (n : Nat) : ByteArray := mkB (digL n)
/-- seconds of a unit -/
def secB (s : ByteArray) : Nat := if s = ⟨#[115]⟩ then 1 else if s = ⟨#[109]⟩ then 60 else if s = ⟨#[104]⟩ then 3600 else 0
def numT (l : List UInt8) : TokD × Nat :=
  if 13 < runL isD l ∨ 1000000000000 < digV (l.take (runL isD l)) then (zby, 0)
  else if runL isLD l = runL isD l then (⟨2, 0, digB (digV (l.take (runL isD l)))⟩, runL isD l)
  else if secB (mkB ((l.take (runL isLD l)).drop (runL isD l))) = 0 ∨ 1000000000 / secB (mkB ((l.take (runL isLD l)).drop (runL isD l))) < digV (l.take (runL isD l)) then (zby, 0)
  else (⟨4, 0, digB (digV (l.take (runL isD l)) * secB (mkB ((l.take (runL isLD l)).drop (runL isD l))))⟩, runL isLD l)
/-- where the text between quotation marks ends -/
def zT (b : Bool) (l : List UInt8) : Option Nat :=
  if h : l = [] then none
  else if b = true then (zT false (l.drop (decL l).2)).map (· + (decL l).2)
  else if (decL l).1 = 92 then (zT true (l.drop (decL l).2)).map (· + (decL l).2)
  else if (decL l).1 = 34 then some 0
  else (zT false (l.drop (decL l).2)).map (· + (decL l).2)
termination_by l.length
decreasing_by all_goals (have h1 := zbp l; have h2 := List.length_pos_iff.2 h; rw [List.length_drop]; omega)
/-- the text of which something is the text between quotation marks -/
noncomputable def unqB (s : ByteArray) : Option ByteArray := open Classical in if h : ∃ t, zah t = s then some h.choose else none
theorem unqB_some {s t : ByteArray} (h : zah t = s) : unqB s = some t := by
  unfold unqB
  have hx : ∃ t, zah t = s := ⟨t, h⟩
  rw [dif_pos hx]
  congr 1
  exact quoteB_inj (hx.choose_spec.trans h.symm)
theorem unqB_none {s : ByteArray} (h : ∀ t, zah t ≠ s) : unqB s = none := by
  unfold unqB; rw [dif_neg]; rintro ⟨t, ht⟩; exact h t ht
noncomputable def unqT (s : ByteArray) : ByteArray := (unqB s).getD ByteArray.empty
noncomputable def zce (s : ByteArray) : Bool := (unqB s).isSome
noncomputable def strT (l : List UInt8) : TokD × Nat :=
  match zT true l with
  | none => (zby, 0)
  | some i => match unqB (mkB (l.take (i + 1))) with
    | none => (zby, 0)
    | some t => (⟨3, 0, t⟩, i + 1)
def z8 : List ByteArray := [⟨#[61, 61]⟩, ⟨#[33, 61]⟩, ⟨#[60, 61]⟩, ⟨#[62, 61]⟩, ⟨#[61, 126]⟩, ⟨#[33, 126]⟩, ⟨#[43]⟩, ⟨#[45]⟩, ⟨#[42]⟩, ⟨#[47]⟩, ⟨#[37]⟩, ⟨#[40]⟩, ⟨#[41]⟩, ⟨#[123]⟩, ⟨#[125]⟩, ⟨#[91]⟩, ⟨#[93]⟩, ⟨#[44]⟩, ⟨#[61]⟩, ⟨#[60]⟩, ⟨#[62]⟩]
def zan : List ByteArray → List UInt8 → TokD × Nat
  | [], _ => (zby, 0)
  | x :: r, l => if (bl8 x).isPrefixOf l = true then (⟨5, 0, x⟩, x.size) else zan r l
def za4 (l : List UInt8) : TokD × Nat := zan z8 l
noncomputable def zk (l : List UInt8) : TokD × Nat :=
  if zE ((decL l).1 : Int) = 1 then zaS l else if zE ((decL l).1 : Int) = 2 then numT l else if (decL l).1 = 34 then strT l else za4 l
def TokD.put (x : TokD) (a : Nat) : TokD := ⟨x.k, (a : Int), x.t⟩
/-- words, from bytes on that begin with no blank -/
noncomputable def zau : Nat → List UInt8 → Nat → Option (List TokD)
  | 0, l, _ => if l = [] then some [] else none
  | n + 1, l, a => if l = [] then some [] else
    if (zk l).2 = 0 then none
    else (zau n ((l.drop (zk l).2).drop (runL isB (l.drop (zk l).2))) (a + (zk l).2 + runL isB (l.drop (zk l).2))).map (((zk l).1.put a) :: ·)
noncomputable def zK (l : List UInt8) (a : Nat) : Option (List TokD) := zau l.length (l.drop (runL isB l)) (a + runL isB l)
theorem zak {n a : Nat} : zau n [] a = some [] := by cases n <;> simp [zau]
theorem zaY {n a : Nat} {l : List UInt8} (h : l ≠ []) (h0 : (zk l).2 = 0) : zau n l a = none := by cases n <;> simp [zau, h, h0]
theorem wordsF_next {n a : Nat} {l : List UInt8} (h : l ≠ []) (h0 : (zk l).2 ≠ 0) : zau (n + 1) l a = (zau n ((l.drop (zk l).2).drop (runL isB (l.drop (zk l).2))) (a + (zk l).2 + runL isB (l.drop (zk l).2))).map (((zk l).1.put a) :: ·) := by
  conv => lhs; unfold zau
  rw [if_neg h, if_neg h0]
/-- enough steps are enough -/
theorem wordsF_more : ∀ (n m : Nat) (l : List UInt8) (a : Nat), l.length ≤ n → l.length ≤ m → zau n l a = zau m l a := by
  intro n
  induction n with
  | zero =>
    intro m l a h1 _
    have : l = [] := List.eq_nil_of_length_eq_zero (by omega)
    subst this; rw [zak, zak]
  | succ n ih =>
    intro m l a h1 h2
    by_cases h : l = []
    · subst h; rw [zak, zak]
    · have hp := List.length_pos_iff.2 h
      obtain ⟨m, rfl⟩ : ∃ k, m = k + 1 := ⟨m - 1, by omega⟩
      by_cases h0 : (zk l).2 = 0
      · rw [zaY h h0, zaY h h0]
      · rw [wordsF_next h h0, wordsF_next h h0, ih m _ _ (by simp only [List.length_drop]; omega) (by simp only [List.length_drop]; omega)]
theorem zbc {n a : Nat} {l : List UInt8} (h : l.length ≤ n) : zK l a = zau n (l.drop (runL isB l)) (a + runL isB l) := wordsF_more _ _ _ _ (by simp only [List.length_drop]; omega) (by simp only [List.length_drop]; omega)
theorem zam {n a : Nat} {l : List UInt8} (h : l ≠ []) (h0 : (zk l).2 ≠ 0) (hn : l.length ≤ n) : zau n l a = (zK (l.drop (zk l).2) (a + (zk l).2)).map (((zk l).1.put a) :: ·) := by
  have hp := List.length_pos_iff.2 h
  obtain ⟨n, rfl⟩ : ∃ k, n = k + 1 := ⟨n - 1, by omega⟩
  rw [wordsF_next h h0, zbc (n := n) (by simp only [List.length_drop]; omega)]
noncomputable def lexL (s : ByteArray) : List TokD := if 600 < s.size then [] else (zK (bl8 s) 0).getD []
noncomputable def lexE (s : ByteArray) : Int := if 600 < s.size then 1 else if (zK (bl8 s) 0).isSome then 0 else 2
end Lp
/-
  Tables that the program reads; numbers to texts and back, by the library's own contracts.
-/
set_option linter.unusedVariables false
namespace Lp
open Go Go.RowKit Go.Proofs
/-- a call that only makes new blocks -/
theorem cd_ext {P : Program} {f : FuncId} {H : List Hp} {ds : List D} {R : D → List Hp → Prop} (h : ∀ w F vs, D.repA w F ds vs → (∀ x ∈ H, x.ok w F) → Calls P f vs.toArray w (Ret fun res w' => Ext w w' ∧ ∃ r, R r H ∧ D.rep w' F r res)) : CD P f H ds R :=
  ⟨fun w F vs hvs hF hH => (h w F vs hvs hH.ok).mono fun e w' he => by
    obtain ⟨v, rfl, E, r, hR, hr⟩ := he
    have k : Keep w F w' F := ⟨fun _ h => h, fun b hb hlt => E.block b hlt (.inr (Nat.zero_le _))⟩
    refine ⟨v, rfl, F, r, H, hR, hr, ⟨E.size, E.os, E.tape, E.output, fun b hb _ => E.block b hb (.inr (Nat.zero_le _)), fun _ h => h, fun _ h => .inl h, fun b hb => Nat.lt_of_lt_of_le (hF b hb) E.size, ⟨hH.apart, fun x hx => ?_, fun g hg => ⟨.inr hg, (hH.mine g hg).2⟩⟩⟩⟩
    have ok := hH.ok x hx
    exact Hp.keep ok k (fun g hg => E.block g (Hp.lt ok hg) (.inr (Nat.zero_le _)))⟩
theorem tab_of {P : Program} {w : World} {name : String} {g : Nat} {k : IntKind} {zs : List Int} {T : TypeId} {fr : Nat × Nat} (hg : P.globalNamed name = some g) (h : w.heap[g]? = some (.cells (zs.map fun z => Value.int k z).toArray T fr)) : Lib.TabIs P w name k zs := by
  unfold Lib.TabIs World.var?
  rw [hg]
  show (match w.heap[g]? with | some (.cells cs _ _) => some cs | _ => none) = _
  rw [h]
theorem ext_below {w w' : World} (h : Below w.heap.size w w') : Ext w w' := ⟨h.os, h.tape, h.output, h.size, fun k hk _ => h.block k hk⟩
def zcj : Array Value := (Lib.pow10Tab.map fun z => Value.int .u64 z).toArray
abbrev HPow : Hp := .tab 3 zcj
abbrev HErr (ev : Value) : Hp := .tab 2 #[ev]
def EvOk (ev : Value) : Prop := ev = .nilIface ∨ ∃ te pe, ev = .iface te pe
theorem digL_dec : ∀ n : Nat, digL n = Lib.decDigits n := by
  intro n
  induction n using Nat.strongRecOn with
  | _ n ih =>
    unfold digL Lib.decDigits
    split
    · rfl
    · rw [ih (n / 10) (by omega)]
theorem digL_len : ∀ n : Nat, (digL n).length ≤ n + 1 := by
  intro n
  induction n using Nat.strongRecOn with
  | _ n ih =>
    unfold digL
    split
    · simp
    · rw [List.length_append]; have := ih (n / 10) (by omega); simp only [List.length_cons, List.length_nil]; omega
theorem digB_size (n : Nat) : (digB n).size ≤ n + 1 := by unfold digB; rw [zaq]; exact digL_len n
theorem itoa_c (n : Nat) (hn : n ≤ 1000000000000) : CD Tryd.prog 36 [HPow] [dN n] (fun r H' => r = .s (digB n) ∧ H' = [HPow]) :=
  cd_ext fun w F vs hvs hok => by
    obtain ⟨u, us, rfl, hu, hus⟩ := hvs
    have hu : u = _ := hu
    have hus : us = [] := hus
    subst hu; subst hus
    obtain ⟨hF, T, fr, hh⟩ := hok _ List.mem_cons_self
    refine (Any.strconv_Itoa Tryd.laysM171 (n : Int) (by omega) (by omega) w (tab_of (by kernel_rfl) hh)).mono fun e w' he => ?_
    obtain ⟨rfl, k, os, rfl⟩ := he
    refine ⟨_, rfl, ext_below (below_regrown w (w.drawn + k) os), .s (digB n), ⟨rfl, rfl⟩, ?_, ?_⟩
    · show Value.string _ = Value.string _
      congr 1
      show _ = mkB (digL n)
      unfold mkB Lib.itoa
      rw [if_neg (by omega), digL_dec]; rfl
    · have := digB_size n; unfold maxLen; omega
/-! ### digits -/
def Digs (l : List UInt8) : Prop := ∀ b ∈ l, 48 ≤ b.toNat ∧ b.toNat ≤ 57
theorem parse_no : ∀ (l : List UInt8) (acc : Nat), Digs l → (∃ u, Lib.parseUint10 acc l = .ok u) ∨ Lib.parseUint10 acc l = .range
  | [], acc, _ => .inl ⟨_, rfl⟩
  | c :: r, acc, h => by
    have hc := h c List.mem_cons_self
    unfold Lib.parseUint10
    rw [if_pos hc]
    split
    · exact .inr rfl
    · split
      · exact .inr rfl
      · exact parse_no r _ (fun b hb => h b (List.mem_cons_of_mem _ hb))
theorem parse_ok : ∀ (l : List UInt8) (acc k : Nat), Digs l → acc < 10 ^ k → l.length + k ≤ 13 → Lib.parseUint10 acc l = .ok (l.foldl (fun n b => 10 * n + (b.toNat - 48)) acc) ∧ l.foldl (fun n b => 10 * n + (b.toNat - 48)) acc < 10 ^ 13
  | [], acc, k, _, ha, hl => ⟨rfl, Nat.lt_of_lt_of_le ha (Nat.pow_le_pow_right (by omega) (by simpa using hl))⟩
  | c :: r, acc, k, h, ha, hl => by
    have hc := h c List.mem_cons_self
    have hk : 10 ^ k ≤ 10 ^ 13 := Nat.pow_le_pow_right (by omega) (by omega)
    have h13 : (10 : Nat) ^ 13 = 10000000000000 := by decide
    have ih := parse_ok r (10 * acc + (c.toNat - 48)) (k + 1) (fun b hb => h b (List.mem_cons_of_mem _ hb)) (by rw [Nat.pow_succ]; omega) (by simp only [List.length_cons] at hl; omega)
    unfold Lib.parseUint10
    rw [if_pos hc, if_neg (by omega), if_neg (by omega), Nat.mul_comm acc 10]
    exact ih
theorem atoi_ok {l : List UInt8} (h : Digs l) (hne : l ≠ []) (hl : l.length ≤ 13) : Lib.atoiAll l = .ok (digV l : Int) := by
  cases l with
  | nil => exact absurd rfl hne
  | cons c r =>
    have hc := h c List.mem_cons_self
    obtain ⟨h1, h2⟩ := parse_ok (c :: r) 0 0 h (by decide) (by omega)
    have h13 : (10 : Nat) ^ 13 = 10000000000000 := by decide
    rw [Lib.atoiAll_plain c r (by omega) (by omega)]
    unfold Lib.parseMag
    rw [if_neg (by simp), h1]
    unfold Lib.signless
    simp only []
    rw [if_neg (by omega)]; rfl
theorem atoi_no {l : List UInt8} (h : Digs l) (hne : l ≠ []) : (∃ v, Lib.atoiAll l = .ok v) ∨ Lib.atoiAll l = .range := by
  cases l with
  | nil => exact absurd rfl hne
  | cons c r =>
    have hc := h c List.mem_cons_self
    have hp := parse_no (c :: r) 0 h
    rw [Lib.atoiAll_plain c r (by omega) (by omega)]
    unfold Lib.parseMag
    rw [if_neg (by simp)]
    unfold Lib.signless
    rcases hp with ⟨u, e⟩ | e
    · rw [e]
      simp only []
      split
      · first | exact .inr rfl | exact .inl ⟨_, rfl⟩
      · first | exact .inl ⟨_, rfl⟩ | exact .inr rfl
    · rw [e]; exact .inr rfl
theorem atoi_c (s : ByteArray) (ev : Value) (hev : EvOk ev) (hd : Digs (bl8 s)) (hne : bl8 s ≠ []) (hs : s.size ≤ 1000000) : CD Tryd.prog 35 [HErr ev] [.s s] (fun r H' => ∃ v x, r = .tup [dI v, x] ∧ H' = [HErr ev] ∧ (s.size ≤ 13 → v = (digV (bl8 s) : Int) ∧ x = .v .nilIface) ∧ -9223372036854775808 ≤ v ∧ v ≤ 9223372036854775807) :=
  cd_ext fun w F vs hvs hok => by
    obtain ⟨u, us, rfl, hu, hus⟩ := hvs
    obtain ⟨hu, hm⟩ := hu
    have hus : us = [] := hus
    subst hu; subst hus
    rcases atoi_no hd hne with ⟨v, ha⟩ | ha
    · skip
      have hb := Lib.atoiAll_bounds ha
      refine (Any.strconv_Atoi_ok Tryd.laysC172 s (by omega) v ha w).mono fun e w' he => ?_
      obtain ⟨rfl, hw⟩ := he
      refine ⟨_, rfl, ?_, .tup [dI v, .v .nilIface], ⟨v, _, rfl, rfl, fun h13 => ⟨?_, rfl⟩, hb.1, hb.2⟩, ⟨_, rfl, _, _, rfl, rfl, _, _, rfl, rfl, rfl⟩⟩
      · rcases hw with rfl | ⟨t, rfl⟩
        · exact Ext.rfl'
        · exact ext_below (Joins.below_bytesWorld _ w _ t (Nat.le_refl _))
      · have := atoi_ok hd hne (by rw [zZ]; exact h13)
        rw [this] at ha; injection ha with ha; exact ha.symm
    · skip
      have hb := Lib.atoiSat_bounds (bl8 s)
      obtain ⟨hF, T, fr, hh⟩ := hok _ List.mem_cons_self
      have hcell : w.cell? ⟨2, 0, none⟩ = some ev := by
        unfold World.cell?
        rw [hh]; rfl
      refine (Any.strconv_Atoi_range Tryd.laysC172 s (by omega) ha ev w hcell hev).mono fun e w' he => ?_
      obtain ⟨N, rfl, _, _, hbel⟩ := he
      refine ⟨_, rfl, ext_below hbel, .tup [dI (Lib.atoiSat (bl8 s)), .any], ⟨_, _, rfl, rfl, fun h13 => ?_, hb.1, hb.2⟩, ⟨_, rfl, _, _, rfl, rfl, _, _, rfl, rfl, rfl⟩⟩
      have := atoi_ok hd hne (by rw [zZ]; exact h13)
      rw [this] at ha; cases ha
end Lp
/-
  What the tables hold when a tied law begins.
-/
set_option linter.unusedVariables false
namespace Lp
open Go Go.RowKit Go.Proofs
theorem laid_ints {H : Type} {enc : TypeId × Value → H} {P : Program} {w : World} {base : Nat} {spare : Nat → Bool} {held : Bool} {fuel n : Nat} {t e : TypeId} {k : IntKind} {cs : List Value} {zs : List Int} {q : List MemPlace}
    (hu : P.underlying t = some (.array n e)) (he : P.underlying e = some (.int k)) (hc : P.cellsOf e = 1) (hct : P.cellsOf t = n) (h : DataW.trod enc P w base spare held fuel t cs = some (.agg (zs.map fun z => .lit (.int k z)), q)) : cs = zs.map (Value.int k) := by
  obtain ⟨xs, m, rfl, hx, hlen, hn, hel⟩ := DataW.trod_array hu h
  have hx1 : zs.map (fun z => (DataW.lit (.int k z) : DataW H)) = xs.map (fun x => x.1) := by
    have := congrArg Prod.fst hx
    injection this
  have hl := congrArg List.length hx1
  rw [List.length_map, List.length_map] at hl
  apply List.ext_getElem?
  intro i
  rcases Nat.lt_or_ge i n with hi | hi
  · have h1 := hel i hi
    rw [hc, Nat.mul_one, List.getElem?_eq_getElem (by omega)] at h1
    obtain ⟨z, e1, e2, _⟩ := DataW.trod_int he h1
    have a1 : cs[i]? = some (.int k z) := by
      have := congrArg (fun l => l[0]?) e1
      simp only [List.getElem?_take, List.getElem?_drop] at this
      simpa using this
    have a2 : zs[i]? = some z := by
      have := congrArg (fun l => l[i]?) hx1
      simp only [List.getElem?_map] at this
      rw [List.getElem?_eq_getElem (show i < xs.length by omega), e2] at this
      cases e3 : zs[i]? with
      | none => rw [e3] at this; cases this
      | some y => rw [e3] at this; injection this with this; injection this with this; injection this with _ this; rw [this]
    rw [a1, List.getElem?_map, a2]; rfl
  · rw [List.getElem?_eq_none (by omega), List.getElem?_eq_none (by rw [List.length_map]; omega)]
theorem laid_iface {H : Type} {enc : TypeId × Value → H} {P : Program} {w : World} {base : Nat} {spare : Nat → Bool} {held : Bool} {fuel : Nat} {t : TypeId} {cs : List Value} {x : DataW H × List MemPlace} {ms : TypeDesc}
    (hu : P.underlying t = some ms) (hm : ∃ mm, ms = .interface mm) (h : DataW.trod enc P w base spare held fuel t cs = some x) : ∃ ev, cs = [ev] ∧ EvOk ev := by
  obtain ⟨mm, rfl⟩ := hm
  cases fuel with
  | zero => exact absurd h (by show ¬ (none = some x); simp)
  | succ fuel =>
    rw [DataW.trod_step] at h
    unfold DataW.trodStep at h
    rw [hu] at h
    split at h <;> simp_all [EvOk]
theorem var_heap {P : Program} {w : World} {name : String} {g : Nat} {cs : Array Value} (hg : P.globalNamed name = some g) (h : World.var? P w name = some cs) : ∃ T fr, w.heap[g]? = some (.cells cs T fr) := by
  unfold World.var? at h
  rw [hg] at h
  have h : (match w.heap[g]? with | some (.cells cs _ _) => some cs | _ => none) = some cs := h
  split at h
  · rename_i a b c e; injection h with h; subst h; exact ⟨_, _, e⟩
  · cases h
theorem of_laid {W : World} (h : laidMetH Tryd.prog Go.Proofs.YtoanlikkhjohpaaDoor.Rows.lexBlanksRow.laid W) : ∃ ev, EvOk ev ∧ (∃ T fr, W.heap[3]? = some (.cells zcj T fr)) ∧ (∃ T fr, W.heap[2]? = some (.cells #[ev] T fr)) := by
  rw [MakeChecks.laidMetH_plain _ _ _ (by kernel_rfl)] at h
  obtain ⟨ps, ⟨g0, t0, cs0, f0, p0, q0, hg0, ht0, hv0, hd0, ⟨g1, t1, cs1, f1, p1, q1, hg1, ht1, hv1, hd1, ⟨g2, t2, cs2, f2, p2, q2, hg2, ht2, hv2, hd2, ⟨g3, t3, cs3, f3, p3, q3, hg3, ht3, hv3, hd3, _⟩, _⟩, _⟩, _⟩, _, _⟩ := h
  obtain rfl : 3 = g2 := Option.some.inj ((show Tryd.prog.globalNamed _ = some 3 by kernel_rfl).symm.trans hg2)
  obtain rfl : 2 = g3 := Option.some.inj ((show Tryd.prog.globalNamed _ = some 2 by kernel_rfl).symm.trans hg3)
  have a2 : Tryd.prog.globals[3]?.map (·.type) = some t2 := ht2
  have a3 : Tryd.prog.globals[2]?.map (·.type) = some t3 := ht3
  obtain rfl := Option.some.inj ((show Tryd.prog.globals[3]?.map (·.type) = some 101 by kernel_rfl).symm.trans a2)
  obtain rfl := Option.some.inj ((show Tryd.prog.globals[2]?.map (·.type) = some 53 by kernel_rfl).symm.trans a3)
  obtain ⟨ev, e3, hev⟩ := laid_iface Tryd.underlying53 ⟨_, rfl⟩ hd3
  have e2 := laid_ints (n := 20) (e := 84) (zs := Lib.pow10Tab) (by kernel_rfl) (by kernel_rfl) (by kernel_rfl) (by kernel_rfl) hd2
  refine ⟨ev, hev, ?_, ?_⟩
  · have := var_heap hg2 hv2
    rwa [show cs2 = zcj from Array.toList_inj.1 (by rw [e2]; simp [zcj])] at this
  · have := var_heap hg3 hv3
    rwa [show cs3 = #[ev] from Array.toList_inj.1 (by rw [e3])] at this
/-- a law beside the tables -/
theorem CD.lawT {f : FuncId} {ds : List D} {ev : Value} (h : CD Tryd.prog f [HPow, HErr ev] ds (fun r H' => r = .v (.bool true) ∧ H' = [HPow, HErr ev])) {W : World} {vs : List Value} (hr : D.repA W (FA W) ds vs)
    (h1 : ∃ T fr, W.heap[3]? = some (.cells zcj T fr)) (h2 : ∃ T fr, W.heap[2]? = some (.cells #[ev] T fr)) :
    Calls Tryd.prog f vs.toArray W (Ret fun u w' => Ext W w' ∧ u = .bool true) := by
  have hno : ∀ b, ¬ blks [HPow, HErr ev] b := fun b ⟨x, hx, hb⟩ => by
    rcases List.mem_cons.1 hx with rfl | hx
    · exact hb
    · rw [List.mem_singleton.1 hx] at hb; exact hb
  have hlt : ∀ {g : Nat} {o : Obj}, W.heap[g]? = some o → g < W.heap.size := fun h => by
    rcases Nat.lt_or_ge _ W.heap.size with h' | h'
    · exact h'
    · rw [Array.getElem?_eq_none h'] at h; cases h
  obtain ⟨T1, f1, e1⟩ := h1
  obtain ⟨T2, f2, e2⟩ := h2
  have hk : HOk W (FA W) (fun _ => True) [HPow, HErr ev] := ⟨by
      refine List.Pairwise.cons (fun y _ g hg => ?_) (List.Pairwise.cons (fun y hy => absurd hy (by simp)) .nil)
      exact absurd hg (fun e => e), fun x hx => by
      rcases List.mem_cons.1 hx with rfl | hx
      · exact ⟨hlt e1, T1, f1, e1⟩
      · rw [List.mem_singleton.1 hx]; exact ⟨hlt e2, T2, f2, e2⟩, fun g hg => absurd hg (hno g)⟩
  refine (h.out W (FA W) vs hr (fun _ h => h) hk).mono ?_
  rintro e w' ⟨u, rfl, F', d', H', ⟨rfl, rfl⟩, hrep, g⟩
  have hrep : u = .bool true := hrep
  exact ⟨u, rfl, ⟨g.os, g.tape, g.output, g.size, fun b hb _ => g.frame b hb (hno b)⟩, hrep⟩
section
variable {H : Type} {enc : TypeId × Value → H} {w : World} {held : Bool} {sp : Nat → Bool} {n : Nat}
theorem in_str {cs : List Value} {y : DataW H × List MemPlace} (h : DataW.trod enc Tryd.prog w 0 sp held n 9 cs = some y) : ∃ d : ByteArray, InD w 1 (.s d) cs := by
  obtain ⟨s0, e0, _, k0⟩ := DataW.trod_string (by kernel_rfl) h
  exact ⟨s0, by rw [e0]; exact InD.one ⟨rfl, k0⟩ rfl⟩
end
end Lp
/-
  The program draws the order of what Go leaves open.
-/
namespace Lp
open Go Go.RowKit Go.Proofs
theorem mixed : Tryd.prog.follows .mixedOrders = true := by kernel_rfl
/-- short words for ways through code -/
abbrev T' : Bool := true
abbrev F' : Bool := false
abbrev dZ : D := .v (.slice none 0 0)
abbrev dP (g o : Nat) : D := .v (.pointer (some ⟨g, o, none⟩))
abbrev vS (g n c : Nat) : Value := .slice (some ⟨g, 0, none⟩) n c
theorem la {α : Type} {a b : List α} : (a ++ b).length = a.length + b.length := List.length_append
theorem lc {α : Type} {a : α} {b : List α} : (a :: b).length = b.length + 1 := List.length_cons
theorem ln {α : Type} : ([] : List α).length = 0 := List.length_nil
theorem lm {α β : Type} {a : List α} {f : α → β} : (a.map f).length = a.length := List.length_map f
theorem lt' {α : Type} {n : Nat} {a : List α} : (a.take n).length = min n a.length := List.length_take
theorem ld {α : Type} {n : Nat} {a : List α} : (a.drop n).length = a.length - n := List.length_drop
theorem ls {α : Type} {n : Nat} {a : List α} {x : α} : (a.set n x).length = a.length := List.length_set
theorem lr {α : Type} {n : Nat} {x : α} : (List.replicate n x).length = n := List.length_replicate
end Lp
