/-
  Texts out of quotation marks, as plain data.
-/
import Derived.Laws.Externs
import Derived.Laws.BytesArg
import Derived.Test.YtoanlikkhjohpaaGreatDoorV36
set_option linter.unusedVariables false
namespace Lp
open Go
def hexI (u : Nat) : Int := firstIdx hexd u.toUInt8
theorem hexI_bd : ∀ u : Nat, u < 256 → -1 ≤ hexI u ∧ hexI u ≤ 15 := by decide +kernel
theorem hexI_hexB : ∀ a : Nat, a < 16 → hexI (hexB a).toNat = (a : Int) := by decide +kernel
def escN (s : ByteArray) : Nat :=
  if s.size = 0 then 0 else if zT s 0 = 34 ∨ zT s 0 = 92 then 1 else if zT s 0 = 110 then 1
  else if zT s 0 = 120 ∧ 3 ≤ s.size ∧ 0 ≤ hexI (zT s 1) ∧ 0 ≤ hexI (zT s 2) then 3 else 0
def escT (s : ByteArray) : ByteArray :=
  if s.size = 0 then ByteArray.empty else if zT s 0 = 34 ∨ zT s 0 = 92 then s.extract 0 1 else if zT s 0 = 110 then ⟨#[10]⟩
  else if zT s 0 = 120 ∧ 3 ≤ s.size ∧ 0 ≤ hexI (zT s 1) ∧ 0 ≤ hexI (zT s 2) then mkB [UInt8.ofNat ((hexI (zT s 1)).toNat * 16 + (hexI (zT s 2)).toNat)] else ByteArray.empty
theorem escT_size (s : ByteArray) : (escT s).size ≤ 1 ∧ (escN s ≠ 0 → (escT s).size = 1) ∧ escN s ≤ s.size := by
  unfold escT escN
  by_cases h0 : s.size = 0
  · rw [if_pos h0, if_pos h0]; exact ⟨by decide, fun h => absurd rfl h, Nat.zero_le _⟩
  · rw [if_neg h0, if_neg h0]
    by_cases h1 : zT s 0 = 34 ∨ zT s 0 = 92
    · rw [if_pos h1, if_pos h1]
      have : (s.extract 0 1).size = 1 := by rw [ByteArray.size_extract]; omega
      exact ⟨by omega, fun _ => this, by omega⟩
    · rw [if_neg h1, if_neg h1]
      by_cases h2 : zT s 0 = 110
      · rw [if_pos h2, if_pos h2]; exact ⟨by decide, fun _ => by decide, by omega⟩
      · rw [if_neg h2, if_neg h2]
        by_cases h3 : zT s 0 = 120 ∧ 3 ≤ s.size ∧ 0 ≤ hexI (zT s 1) ∧ 0 ≤ hexI (zT s 2)
        · rw [if_pos h3, if_pos h3]; exact ⟨by rw [zaH]; simp, fun _ => by rw [zaH]; rfl, h3.2.1⟩
        · rw [if_neg h3, if_neg h3]; exact ⟨by decide, fun h => absurd rfl h, Nat.zero_le _⟩
/-- what stands behind the first quotation mark, taken out of its marks -/
def unL : Nat → List UInt8 → Option (List UInt8)
  | _, [] => some []
  | 0, _ :: _ => none
  | n + 1, b :: r => if b ≠ 92 then (unL n r).map (b :: ·) else if escN (mkB r) = 0 then none else (unL n (r.drop (escN (mkB r)))).map (bl8 (escT (mkB r)) ++ ·)
theorem zck {n : Nat} {b : UInt8} {r : List UInt8} : unL (n + 1) (b :: r) = if b ≠ 92 then (unL n r).map (b :: ·) else if escN (mkB r) = 0 then none else (unL n (r.drop (escN (mkB r)))).map (bl8 (escT (mkB r)) ++ ·) := by
  conv => lhs; unfold unL
theorem unL_more : ∀ (n m : Nat) (l : List UInt8), l.length ≤ n → l.length ≤ m → unL n l = unL m l := by
  intro n
  induction n with
  | zero =>
    intro m l h1 _
    have : l = [] := List.eq_nil_of_length_eq_zero (by omega)
    subst this; cases m <;> rfl
  | succ n ih =>
    intro m l h1 h2
    cases l with
    | nil => cases m <;> rfl
    | cons b r =>
      simp only [List.length_cons] at h1 h2
      obtain ⟨m, rfl⟩ : ∃ k, m = k + 1 := ⟨m - 1, by omega⟩
      unfold unL
      rw [ih m r (by omega) (by omega), ih m (r.drop (escN (mkB r))) (by rw [List.length_drop]; omega) (by rw [List.length_drop]; omega)]
def unB (s : ByteArray) : Option (List UInt8) := unL s.size (bl8 s)
theorem unB_eq {s : ByteArray} {n : Nat} (h : s.size ≤ n) : unB s = unL n (bl8 s) := unL_more _ _ _ (by rw [zag]; omega) (by rw [zag]; exact h)
theorem unB_nil {s : ByteArray} (h : s.size = 0) : unB s = some [] := by
  unfold unB
  have : bl8 s = [] := List.eq_nil_of_length_eq_zero (by rw [zag]; exact h)
  rw [this]; cases s.size <;> rfl
theorem bl8_cons {s : ByteArray} {u : UInt8} (h : s[0]? = some u) : bl8 s = u :: bl8 (s.extract 1 s.size) := by
  have h0 : 0 < s.size := by
    rcases Nat.eq_zero_or_pos s.size with e | e
    · have : s[0]? = none := by simp [e]
      rw [this] at h; cases h
    · exact e
  have h1 := zaw h0
  have e : s.get! 0 = u := by
    have : s[0]? = some (s.get! 0) := by simp [ByteArray.get!, h0]; rfl
    rw [this] at h; injection h
  rw [e] at h1
  show bl8 s = u :: bl8 (s.extract 1 s.size)
  have e2 : bl8 (s.extract 1 s.size) = bts s 1 := zaJ
  rw [e2]; exact h1
theorem unB_raw {s : ByteArray} {u : UInt8} (h : s[0]? = some u) (h2 : ¬ u = 92) : unB s = (unB (s.extract 1 s.size)).map ([u] ++ ·) := by
  have hc := bl8_cons h
  have hz : (s.extract 1 s.size).size + 1 = s.size := by have := congrArg List.length hc; simp only [List.length_cons, zag] at this; omega
  rw [unB_eq (s := s) (n := (s.extract 1 s.size).size + 1) (by omega), hc]
  rw [zck, if_pos h2]; rfl
theorem unB_esc {s : ByteArray} (h : s[0]? = some 92) (h2 : ¬ escN (s.extract 1 s.size) = 0) : unB s = (unB (s.extract (1 + escN (s.extract 1 s.size)) s.size)).map (bl8 (escT (s.extract 1 s.size)) ++ ·) := by
  have hc := bl8_cons h
  have hz : (s.extract 1 s.size).size + 1 = s.size := by have := congrArg List.length hc; simp only [List.length_cons, zag] at this; omega
  rw [unB_eq (s := s) (n := (s.extract 1 s.size).size + 1) (by omega), hc]
  rw [zck, if_neg (by simp), zcU, if_neg h2]
  have e : (bl8 (s.extract 1 s.size)).drop (escN (s.extract 1 s.size)) = bl8 (s.extract (1 + escN (s.extract 1 s.size)) s.size) := by
    rw [show bl8 (s.extract 1 s.size) = bts s 1 from zaJ, za8]; exact zaJ.symm
  rw [e, unB_eq (s := s.extract (1 + escN (s.extract 1 s.size)) s.size) (n := (s.extract 1 s.size).size) (by simp only [ByteArray.size_extract]; omega)]
theorem unB_none {s : ByteArray} (h : s[0]? = some 92) (h2 : escN (s.extract 1 s.size) = 0) : unB s = none := by
  have hc := bl8_cons h
  have hz : (s.extract 1 s.size).size + 1 = s.size := by have := congrArg List.length hc; simp only [List.length_cons, zag] at this; omega
  rw [unB_eq (s := s) (n := (s.extract 1 s.size).size + 1) (by omega), hc]
  rw [zck, if_neg (by simp), zcU, if_pos h2]
/-! ### what is quoted comes out -/
theorem unL_raws {n : Nat} {r : List UInt8} : ∀ (l : List UInt8), (∀ b ∈ l, b ≠ 92) → unL (l.length + n) (l ++ r) = (unL n r).map (l ++ ·)
  | [], _ => by simp
  | b :: l, h => by
    have ih := unL_raws (n := n) (r := r) l (fun c hc => h c (List.mem_cons_of_mem _ hc))
    rw [show (b :: l).length + n = (l.length + n) + 1 by simp only [List.length_cons]; omega, List.cons_append, zck, if_pos (h b List.mem_cons_self), ih]
    cases unL n r <;> simp
theorem byteAt_mk {l : List UInt8} {k : Nat} {b : UInt8} (h : l[k]? = some b) : zT (mkB l) k = b.toNat := by
  have hz : k < (mkB l).size := by rw [zaH]; exact zdv h
  rw [zbM hz]
  have h1 := zaw hz
  have e : bts (mkB l) k = l.drop k := by unfold bts; rw [show (mkB l).data.toList = l from zbd l]
  rw [e, zcC h] at h1
  injection h1 with h1 _
  rw [← h1]
theorem tok_un {o src : List UInt8} (h : Tok o src) (n : Nat) (r : List UInt8) (hn : r.length ≤ n) : unL (o.length + n) (o ++ r) = (unL n r).map (src ++ ·) := by
  have esc1 : ∀ (c : UInt8) (s1 : List UInt8) (m : Nat), escN (mkB (c :: r)) = 1 → bl8 (escT (mkB (c :: r))) = s1 → unL (2 + n) (92 :: c :: r) = (unL n r).map (s1 ++ ·) := by
    intro c s1 m h1 h2
    rw [show 2 + n = (1 + n) + 1 by omega, zck, if_neg (by simp), if_neg (by rw [h1]; decide), h1, h2]
    show (unL (1 + n) r).map _ = _
    rw [unL_more (1 + n) n r (by omega) hn]
  have b0 : ∀ c : UInt8, zT (mkB (c :: r)) 0 = c.toNat := fun c => byteAt_mk rfl
  have sz : ∀ c : UInt8, ¬ (mkB (c :: r)).size = 0 := fun c => by rw [zaH]; simp
  cases h with
  | esc hc =>
    rename_i c
    have e1 : zT (mkB (c :: r)) 0 = 34 ∨ zT (mkB (c :: r)) 0 = 92 := by rw [b0]; rcases hc with rfl | rfl <;> decide
    refine esc1 c [c] 0 (by unfold escN; rw [if_neg (sz c), if_pos e1]) ?_
    unfold escT
    rw [if_neg (sz c), if_pos e1, zbm (by rw [zaH]; simp), zbd, zbd]; rfl
  | nl =>
    have e1 : zT (mkB (110 :: r)) 0 = 110 := by rw [b0]; decide
    refine esc1 110 [10] 0 ?_ ?_
    · unfold escN; rw [if_neg (sz 110), if_neg (by rw [e1]; decide), if_pos e1]
    · unfold escT; rw [if_neg (sz 110), if_neg (by rw [e1]; decide), if_pos e1]
  | hex =>
    rename_i b
    have hb : b.toNat < 256 := UInt8.toNat_lt _
    have e1 : zT (mkB (120 :: hexB (b.toNat / 16) :: hexB (b.toNat % 16) :: r)) 0 = 120 := by rw [byteAt_mk (b := 120) rfl]; decide
    have e2 : zT (mkB (120 :: hexB (b.toNat / 16) :: hexB (b.toNat % 16) :: r)) 1 = (hexB (b.toNat / 16)).toNat := byteAt_mk rfl
    have e3 : zT (mkB (120 :: hexB (b.toNat / 16) :: hexB (b.toNat % 16) :: r)) 2 = (hexB (b.toNat % 16)).toNat := byteAt_mk rfl
    have h1 := hexI_hexB (b.toNat / 16) (by omega)
    have h2 := hexI_hexB (b.toNat % 16) (by omega)
    have hz : ¬ (mkB (120 :: hexB (b.toNat / 16) :: hexB (b.toNat % 16) :: r)).size = 0 := by rw [zaH]; simp
    have hh : zT (mkB (120 :: hexB (b.toNat / 16) :: hexB (b.toNat % 16) :: r)) 0 = 120 ∧ 3 ≤ (mkB (120 :: hexB (b.toNat / 16) :: hexB (b.toNat % 16) :: r)).size ∧ 0 ≤ hexI (zT (mkB (120 :: hexB (b.toNat / 16) :: hexB (b.toNat % 16) :: r)) 1) ∧ 0 ≤ hexI (zT (mkB (120 :: hexB (b.toNat / 16) :: hexB (b.toNat % 16) :: r)) 2) := by
      refine ⟨e1, by rw [zaH]; simp only [List.length_cons]; omega, ?_, ?_⟩
      · rw [e2, h1]; exact Int.natCast_nonneg _
      · rw [e3, h2]; exact Int.natCast_nonneg _
    have hN : escN (mkB (120 :: hexB (b.toNat / 16) :: hexB (b.toNat % 16) :: r)) = 3 := by
      unfold escN; rw [if_neg hz, if_neg (by rw [e1]; decide), if_neg (by rw [e1]; decide), if_pos hh]
    have hT : bl8 (escT (mkB (120 :: hexB (b.toNat / 16) :: hexB (b.toNat % 16) :: r))) = [b] := by
      unfold escT; rw [if_neg hz, if_neg (by rw [e1]; decide), if_neg (by rw [e1]; decide), if_pos hh, zbd, e2, e3, h1, h2]
      congr 1
      have : ((b.toNat / 16 : Nat) : Int).toNat * 16 + ((b.toNat % 16 : Nat) : Int).toNat = b.toNat := by omega
      rw [this]; simp
    show unL (4 + n) (92 :: 120 :: hexB (b.toNat / 16) :: hexB (b.toNat % 16) :: r) = _
    rw [show 4 + n = (3 + n) + 1 by omega, zck, if_neg (by simp), if_neg (by rw [hN]; decide), hN, hT]
    show (unL (3 + n) r).map _ = _
    rw [unL_more (3 + n) n r (by omega) hn]
  | raw hc h1 h2 h3 =>
    rename_i c
    refine unL_raws _ (fun b hb e => ?_)
    subst e
    exact h2 (encR_no (by decide) hb)
theorem quote_un (t : ByteArray) : ∀ (n p : Nat), t.size - p = n → ∀ (m : Nat) (r : List UInt8), r.length ≤ m → unL ((zae t p).length + m) (zae t p ++ r) = (unL m r).map (bts t p ++ ·) := by
  intro n
  induction n using Nat.strongRecOn with
  | _ n ih =>
    intro p hp m r hr
    rcases Nat.lt_or_ge p t.size with h | h
    · obtain ⟨src, htok, hb⟩ := zb2 h
      have hw := zY t p
      have i := ih (t.size - (p + decW t p)) (by omega) (p + decW t p) rfl m r hr
      rw [zaR h, List.length_append, List.append_assoc, Nat.add_assoc, tok_un htok _ _ (by rw [List.length_append]; omega), i, hb]
      cases unL m r <;> simp
    · rw [zbk h, zb0 h]; simp
/-- the text without the mark ahead of it -/
def zbA (s : ByteArray) : ByteArray := if hasP s ⟨#[34]⟩ = true then s.extract 1 s.size else s
def zb6 (s : ByteArray) : ByteArray := if 1 ≤ s.size ∧ s.extract (s.size - 1) s.size = ⟨#[34]⟩ then s.extract 0 (s.size - 1) else s
theorem quoteB_trim (t : ByteArray) : bl8 (zbA (zax t)) = zae t 0 ++ [34] := by
  have hl : bl8 (zax t) = 34 :: (zae t 0 ++ [34]) := by show (zcg t).toArray.toList = _; unfold zcg; simp
  have hp : hasP (zax t) ⟨#[34]⟩ = true := by rw [hasP_pre, hl]; rfl
  unfold zbA
  rw [if_pos hp, zbs, zbd, hl]; rfl
theorem quote_out {t : ByteArray} : unB (zbA (zax t)) = some (bl8 t ++ [34]) := by
  have h := quoteB_trim t
  have hz : (zbA (zax t)).size = (zae t 0).length + 1 := by rw [← zag, h, List.length_append]; rfl
  unfold unB
  rw [hz, h, quote_un t _ 0 rfl 1 [34] (by simp)]
  show (unL 1 [34]).map _ = _
  rfl
theorem trimS_out (t : ByteArray) : zb6 ⟨(bl8 t ++ [34]).toArray⟩ = t := by
  have hz : (mkB (bl8 t ++ [34])).size = t.size + 1 := by rw [zaH, List.length_append, zag]; rfl
  show zb6 (mkB (bl8 t ++ [34])) = t
  unfold zb6
  rw [hz, zbm (by rw [hz]; omega), zbm (by rw [hz]; omega), zbd]
  have e1 : ((bl8 t ++ [34]).take (t.size + 1)).drop (t.size + 1 - 1) = [34] := by
    rw [List.take_of_length_le (by rw [List.length_append, zag]; simp)]
    exact List.drop_left' (by rw [zag]; omega)
  have e2 : ((bl8 t ++ [34]).take (t.size + 1 - 1)).drop 0 = bl8 t := by
    rw [List.drop_zero]; exact List.take_left' (by rw [zag]; omega)
  rw [e1, e2, if_pos ⟨by omega, rfl⟩, zcU]
theorem ne_size {s : ByteArray} (h : ¬ s = ByteArray.empty) : 0 < s.size := by
  rcases Nat.eq_zero_or_pos s.size with e | e
  · exact absurd (ByteArray.ext (Array.toList_inj.1 (List.eq_nil_of_length_eq_zero (by simpa using e)))) h
  · exact e
theorem esc_0 {s : ByteArray} (h : s = ByteArray.empty) : ByteArray.empty = escT s ∧ 0 = escN s := by subst h; exact ⟨rfl, rfl⟩
theorem esc_1 {s : ByteArray} (hz : 0 < s.size) (h : zT s 0 = 34 ∨ zT s 0 = 92) : s.extract 0 1 = escT s ∧ 1 = escN s := by
  unfold escT escN; rw [if_neg (by omega), if_pos h, if_neg (by omega), if_pos h]; exact ⟨rfl, rfl⟩
theorem esc_2 {s : ByteArray} (hz : 0 < s.size) (h1 : ¬ (zT s 0 = 34 ∨ zT s 0 = 92)) (h : zT s 0 = 110) : (⟨#[10]⟩ : ByteArray) = escT s ∧ 1 = escN s := by
  unfold escT escN; rw [if_neg (by omega), if_neg h1, if_pos h, if_neg (by omega), if_neg h1, if_pos h]; exact ⟨rfl, rfl⟩
theorem esc_3 {s : ByteArray} {a b : Nat} (hz : 0 < s.size) (h1 : ¬ (zT s 0 = 34 ∨ zT s 0 = 92)) (h2 : ¬ zT s 0 = 110) (h : zT s 0 = 120 ∧ 3 ≤ s.size) (ha : hexI (zT s 1) = (a : Int)) (hb : hexI (zT s 2) = (b : Int)) : mkB [UInt8.ofNat (a * 16 + b)] = escT s ∧ 3 = escN s := by
  have hh : zT s 0 = 120 ∧ 3 ≤ s.size ∧ 0 ≤ hexI (zT s 1) ∧ 0 ≤ hexI (zT s 2) := ⟨h.1, h.2, by omega, by omega⟩
  unfold escT escN; rw [if_neg (by omega), if_neg h1, if_neg h2, if_pos hh, if_neg (by omega), if_neg h1, if_neg h2, if_pos hh, ha, hb]; exact ⟨rfl, rfl⟩
theorem zdI {s : ByteArray} (hz : 0 < s.size) (h1 : ¬ (zT s 0 = 34 ∨ zT s 0 = 92)) (h2 : ¬ zT s 0 = 110) (h : ¬ (zT s 0 = 120 ∧ 3 ≤ s.size ∧ 0 ≤ hexI (zT s 1) ∧ 0 ≤ hexI (zT s 2))) : ByteArray.empty = escT s ∧ 0 = escN s := by
  unfold escT escN; rw [if_neg (by omega), if_neg h1, if_neg h2, if_neg h, if_neg (by omega), if_neg h1, if_neg h2, if_neg h]; exact ⟨rfl, rfl⟩
theorem nums_one {n : Nat} (h : n < 256) : strOfNums [((n : Nat) : Int)] = mkB [UInt8.ofNat n] := by rfl
/-- the loop of Unquote -/
def UInv (s r : ByteArray) (o : List UInt8) : Prop := unB s = (unB r).map (o ++ ·)
theorem UInv.zero (s : ByteArray) : UInv s s [] := by unfold UInv; cases unB s <;> rfl
theorem UInv.raw {s r : ByteArray} {o : List UInt8} {u : UInt8} (h : UInv s r o) (hu : r[0]? = some u) (h2 : ¬ u = 92) : UInv s (r.extract 1 r.size) (o ++ [u]) := by
  unfold UInv at *
  rw [h, unB_raw hu h2]
  cases unB (r.extract 1 r.size) <;> simp
theorem UInv.esc {s r : ByteArray} {o : List UInt8} (h : UInv s r o) (hu : r[0]? = some 92) (h2 : ¬ escN (r.extract 1 r.size) = 0) : UInv s (r.extract (1 + escN (r.extract 1 r.size)) r.size) (o ++ (escT (r.extract 1 r.size)).data.toList) := by
  unfold UInv at *
  rw [h, unB_esc hu h2]
  cases unB (r.extract (1 + escN (r.extract 1 r.size)) r.size) <;> simp
theorem UInv.none {s r : ByteArray} {o : List UInt8} (h : UInv s r o) (hu : r[0]? = some 92) (h2 : escN (r.extract 1 r.size) = 0) : unB s = none := by
  unfold UInv at *
  rw [h, unB_none hu h2]; rfl
theorem UInv.done {s r : ByteArray} {o : List UInt8} (h : UInv s r o) (hr : r = ByteArray.empty) : unB s = some o := by
  unfold UInv at *
  rw [h, hr, unB_nil rfl]; simp
theorem u8_92 {u : UInt8} (h : ((u.toNat : Nat) : Int) = 92) : u = 92 := UInt8.toNat_inj.1 (by show u.toNat = 92; omega)
theorem u8_ne92 {u : UInt8} (h : ¬ ((u.toNat : Nat) : Int) = 92) : ¬ u = 92 := by rintro rfl; exact h rfl
theorem trimP_size (s : ByteArray) : s.size ≤ (zbA s).size + 1 ∧ (zbA s).size ≤ s.size := by
  unfold zbA; split
  · rw [ByteArray.size_extract]; omega
  · omega
theorem trimS_size (s : ByteArray) : (zb6 s).size ≤ s.size := by
  unfold zb6; split
  · rw [ByteArray.size_extract]; omega
  · omega
/-- how it comes out -/
theorem unq_t {s : ByteArray} {o : List UInt8} (h : zax (zb6 ⟨o.toArray⟩) = s) : zb6 ⟨o.toArray⟩ = unqT s ∧ true = zbh s := by
  have := unqB_some h
  unfold unqT zbh; rw [this]; exact ⟨rfl, rfl⟩
theorem unq_f {s : ByteArray} {o : List UInt8} (hu : unB (zbA s) = some o) (h : ¬ zax (zb6 ⟨o.toArray⟩) = s) : ByteArray.empty = unqT s ∧ false = zbh s := by
  have : unqB s = none := unqB_none fun t ht => by
    rw [← ht, quote_out] at hu
    injection hu with hu
    rw [← hu, trimS_out] at h
    exact h ht
  unfold unqT zbh; rw [this]; exact ⟨rfl, rfl⟩
theorem unq_n {s : ByteArray} (hu : unB (zbA s) = none) : ByteArray.empty = unqT s ∧ false = zbh s := by
  have : unqB s = none := unqB_none fun t ht => by
    rw [← ht, quote_out] at hu; cases hu
  unfold unqT zbh; rw [this]; exact ⟨rfl, rfl⟩
end Lp
/-
  Bytes of the call's own as a string.
-/
set_option linter.unusedVariables false
namespace Lp
open Go Go.RowKit
variable {P : Program} {ty : TypeId} {K : Kd} {H : List Hp}
abbrev dB8 (n : Int) : D := .v (.int .u8 n)
theorem rep_bytes {w : World} {F : Nat → Prop} : ∀ {xs : List Int} {us : List Value}, RepE w F 1 (xs.map dB8) us → us = xs.map (Value.int .u8)
  | [], _, h => h
  | x :: r, _, ⟨u, t, e, h1, _, _, h4⟩ => by
    have h1' : u = .int .u8 x := h1
    rw [e, rep_bytes h4, h1']; rfl
theorem p_bytes {t1 t2 e : TypeId} {x : Operand} {j : Nat} {v : Value} {T : TypeId} {xs : List Int} (hx : opO K x = some v) (hm : nth H j = some (.sl v 1 T (xs.map dB8))) (hn : xs ≠ []) (hs : P.underlying t1 = some (.slice e)) (he : P.underlying e = some (.int .u8)) (hd : P.underlying t2 = some .string) :
    Pu P (.convert t1 t2 x) ty K H (.v (.string (strOfNums xs))) :=
  ⟨fun ρ w F hk _ hH => by
    obtain ⟨us, hr, ho⟩ := hH _ (zai hm)
    have hu := rep_bytes hr
    subst hu
    obtain ⟨A, c, hv, h2, h3, h4, h5⟩ := ho.sl
    obtain ⟨b, o, rfl, _, _, hat⟩ := h4 (by simpa using hn)
    have hev : ev ρ x = v := hk.opO hx
    have hl : ((xs.map (Value.int .u8)).map vcs).length = xs.length := by simp
    rw [hl] at hv
    have hcv := run_convert_bytes_arg (P := P) w t1 e hs he b o xs.length c xs rfl (fun i hi => by
      have := hat i [Value.int .u8 (xs.getD i 0)] (by
        rw [List.getElem?_map, List.getElem?_map, List.getElem?_eq_getElem hi]
        simp [vcs, List.getD, List.getElem?_eq_getElem hi, Value.cells])
      have h0 := this.2 0 _ rfl
      simpa using h0) t2 hd
    exact EOp.of_run (v := .string (strOfNums xs)) (w' := w) (by
      have h1 := zbL hcv
      simpa [execOp, zav, hev, hv] using h1) ⟨rfl, rfl⟩⟩
end Lp
/- Walks, printed by a program of mine. -/
set_option linter.unusedSimpArgs false
set_option linter.unusedVariables false
namespace Lp
open Go Go.RowKit Go.Proofs

namespace HdYtoanlikkhjohpaaGreatDoorV37
end HdYtoanlikkhjohpaaGreatDoorV37
open HdYtoanlikkhjohpaaGreatDoorV37

theorem ext_indexByte (u : Nat) (w : World) : (callFunc 142 #[.string (⟨#[48, 49, 50, 51, 52, 53, 54, 55, 56, 57, 97, 98, 99, 100, 101, 102]⟩ : ByteArray), .int .u8 (u : Int)]).run Tryz.prog w = .ok (.value (.int .i64 (hexI u))) w := by
  rw [run_callFunc_extern Tryz.func142 (by kernel_rfl) (by kernel_rfl) (by kernel_rfl) (e := Extern.BytealgIndexByte.indexByte) (by kernel_rfl), run_indexByte_string]
  rfl
theorem p_indexByte {ty : TypeId} {K : Kd} {H : List Hp} {x y : Operand} {ats : Array TypeId} {u : Nat} (hx : opS K x = some (⟨#[48, 49, 50, 51, 52, 53, 54, 55, 56, 57, 97, 98, 99, 100, 101, 102]⟩ : ByteArray)) (hy : opD K y = some (.v (.int .u8 (u : Int)))) : Pu Tryz.prog (.call { callee := .value (.func 142), args := #[x, y], argTypes := ats }) ty K H (dI (hexI u)) :=
  ⟨fun ρ w F hk _ _ => e_ext (vs := [.string (⟨#[48, 49, 50, 51, 52, 53, 54, 55, 56, 57, 97, 98, 99, 100, 101, 102]⟩ : ByteArray), .int .u8 (u : Int)]) (zQ ρ [x, y]) (by rw [show (#[x, y] : Array Operand).toList = [x, y] from rfl, zcq ρ [x, y] [x, y] (fun _ h => h)]; have e : ev ρ y = _ := hk.op hy; simp [hk.opS hx, e]) (ext_indexByte u) ⟨rfl, rfl⟩⟩
section
variable {P : Program} {ty : TypeId} {K : Kd} {H : List Hp} {t t' : TypeId} {x y : Operand}
theorem p_shl4 {k' : IntKind} {a : Nat} (hx : opD K x = some (dI (a : Int))) (hy : opD K y = some (.v (.int k' 4))) (ha : a < 16) : Pu P (.binOp .shl t x y t') ty K H (dN (a * 16)) :=
  zc6 hx hy (fun w => by
    rcases (show a = 0 ∨ a = 1 ∨ a = 2 ∨ a = 3 ∨ a = 4 ∨ a = 5 ∨ a = 6 ∨ a = 7 ∨ a = 8 ∨ a = 9 ∨ a = 10 ∨ a = 11 ∨ a = 12 ∨ a = 13 ∨ a = 14 ∨ a = 15 by omega) with rfl | rfl | rfl | rfl | rfl | rfl | rfl | rfl | rfl | rfl | rfl | rfl | rfl | rfl | rfl | rfl <;> rfl)
theorem bv64o (a b : Nat) (ha : a < 256) (hb : b < 256) : (BitVec.ofInt IntKind.i64.bits (a : Int) ||| BitVec.ofInt IntKind.i64.bits (b : Int)).toNat = a ||| b := by
  rw [BitVec.toNat_or, BitVec.toNat_ofInt, BitVec.toNat_ofInt]
  have e : (2 : Nat) ^ IntKind.i64.bits = 18446744073709551616 := rfl
  rw [e]
  congr 1 <;> omega
theorem or16 : ∀ a, a < 16 → ∀ b, b < 16 → a * 16 ||| b = a * 16 + b := by decide
theorem p_or64 {a b : Nat} (hx : opD K x = some (dN (a * 16))) (hy : opD K y = some (dI (b : Int))) (ha : a < 16) (hb : b < 16) : Pu P (.binOp .or t x y t') ty K H (dN (a * 16 + b)) :=
  zc6 hx hy (fun w => by
    have h := or16 a ha b hb
    simp only [eqGuard, binOp, Op.intBits, bv64o (a * 16) b (by omega) (by omega), h, w64 (show -9223372036854775808 ≤ ((a * 16 + b : Nat) : Int) ∧ ((a * 16 + b : Nat) : Int) ≤ 9223372036854775807 by omega)]
    rfl)
end

set_option maxHeartbeats 4000000 in
set_option maxRecDepth 100000 in
theorem indexByte0_c (c : Nat)  :
    CD Tryz.prog 132 [] [.v (.string (⟨#[48, 49, 50, 51, 52, 53, 54, 55, 56, 57, 97, 98, 99, 100, 101, 102]⟩ : ByteArray)), .v (.int .u8 ((c : Nat) : Int))] (isR (dI (hexI c))) := by
  refine zH Tryz.func132 rfl (N := 8) rfl rfl (fun C => ?_)
  refine JD.keep [0, 1] [(0, .v (.string (⟨#[48, 49, 50, 51, 52, 53, 54, 55, 56, 57, 97, 98, 99, 100, 101, 102]⟩ : ByteArray))), (1, .v (.int .u8 ((c : Nat) : Int)))] rfl (zf _ _ rfl rfl rfl (zb rfl (za rfl rfl (zd rfl) (zg rfl (ze (zf _ _ rfl rfl rfl (zb rfl (za rfl rfl (zc rfl) (za rfl rfl (zc rfl) (za rfl rfl (p_indexByte (u := c) rfl rfl) (za rfl rfl (zd rfl) (zg rfl (ze (zu rfl ?_))))))))))))))
  exact zk Tryz.results132 (.cons (zC (zo rfl) (Cv.eq (congrArg (fun n => D.v (.int .i64 n)) (by rfl)))) .nil) rfl HSub.none ⟨rfl, rfl⟩

set_option maxHeartbeats 4000000 in
set_option maxRecDepth 100000 in
theorem indexByte_c (c : Nat)  :
    CD Tryz.prog 121 [] [.v (.string (⟨#[48, 49, 50, 51, 52, 53, 54, 55, 56, 57, 97, 98, 99, 100, 101, 102]⟩ : ByteArray)), .v (.int .u8 ((c : Nat) : Int))] (isR (dI (hexI c))) := by
  refine zH Tryz.func121 rfl (N := 8) rfl rfl (fun C => ?_)
  refine JD.keep [0, 1] [(0, .v (.string (⟨#[48, 49, 50, 51, 52, 53, 54, 55, 56, 57, 97, 98, 99, 100, 101, 102]⟩ : ByteArray))), (1, .v (.int .u8 ((c : Nat) : Int)))] rfl (zf _ _ rfl rfl rfl (zb rfl (za rfl rfl (zd rfl) (zg rfl (ze (zf _ _ rfl rfl rfl (zb rfl (za rfl rfl (zc rfl) (za rfl rfl (zc rfl) (zj rfl rfl (zx [] _ [] rfl rfl (.cons ArgC.id (.cons ArgC.id .nil)) zp Tryz.call132 (indexByte0_c c) (.inl rfl)) ?_))))))))))
  rintro _ _ ⟨_, ⟨rfl, rfl⟩, rfl⟩
  refine OpsD.norm [] rfl (za rfl rfl (zd rfl) (zg rfl (ze (zu rfl ?_))))
  exact zk Tryz.results121 (.cons (zo rfl) .nil) rfl HSub.none ⟨rfl, rfl⟩

def hasS (s : ByteArray) : Bool := decide (1 ≤ s.size) && decide (s.extract (s.size - 1) s.size = (⟨#[34]⟩ : ByteArray))
theorem hasP_size {a b : ByteArray} (h : hasP a b = true) : b.size ≤ a.size := by unfold hasP at h; simp only [Bool.and_eq_true, decide_eq_true_eq] at h; exact h.1
theorem hasS_size {s : ByteArray} (h : hasS s = true) : 1 ≤ s.size := by unfold hasS at h; simp only [Bool.and_eq_true, decide_eq_true_eq] at h; exact h.1

set_option maxHeartbeats 4000000 in
set_option maxRecDepth 100000 in
theorem hasS_c (s : ByteArray)  :
    CD Tryz.prog 133 [] [.s s, .v (.string (⟨#[34]⟩ : ByteArray))] (isR (dB (hasS s))) := by
  refine zH Tryz.func133 rfl (N := 21) rfl rfl (fun C => ?_)
  refine JD.keep [0, 1] [(0, .s s), (1, .v (.string (⟨#[34]⟩ : ByteArray)))] rfl ?_
  refine JD.bd 0 rfl (fun bd0 => ?_)
  have sz0 : s.size ≤ 9223372036854775807 := bd0
  have h34 : (⟨#[34]⟩ : ByteArray).size = 1 := rfl
  refine zf _ _ rfl rfl rfl (zb rfl (za rfl rfl (zd rfl) (zg rfl (ze (zf _ _ rfl rfl rfl (JD.keep [0, 1] [(0, .s s), (1, .v (.string (⟨#[34]⟩ : ByteArray)))] rfl ?_))))))
  refine zak 4 ((decide ((((⟨#[34]⟩ : ByteArray).size : Nat) : Int) ≤ ((s.size : Nat) : Int)) && decide ((s.extract (s.size - ((⟨#[34]⟩ : ByteArray).size)) s.size) = (⟨#[34]⟩ : ByteArray)))) [] (fun _ hQ1 => ?_) ?_
  · skip
    by_cases hg2 : (((⟨#[34]⟩ : ByteArray).size : Nat) : Int) ≤ ((s.size : Nat) : Int)
    · skip
      refine zb rfl (za rfl rfl (zc rfl) (za rfl rfl (zP rfl Tryz.runUnderlying9) (za rfl rfl (zc rfl) (za rfl rfl (zP rfl Tryz.runUnderlying9) (za rfl rfl (z8 rfl rfl (decide_eq_true hg2)) (za rfl rfl (zc rfl) (zh rfl rfl rfl rfl rfl (zc rfl) (zh rfl rfl rfl rfl rfl (zc rfl) (zh rfl rfl rfl rfl rfl (zP rfl Tryz.runUnderlying9) (zh rfl rfl rfl rfl rfl (zc rfl) (zh rfl rfl rfl rfl rfl (zP rfl Tryz.runUnderlying9) (zh rfl rfl rfl rfl rfl (zcG (c := ((s.size - ((⟨#[34]⟩ : ByteArray).size) : Nat) : Int)) rfl rfl (zX (by omega) (by omega))) (zh rfl rfl rfl rfl rfl (zV (a := s.size - ((⟨#[34]⟩ : ByteArray).size)) (c := s.size) rfl rfl rfl (by first | rfl | (show _ = _; omega)) (by first | rfl | (show _ = _; omega)) Tryz.runUnderlying9 (by omega) (by omega)) (zh rfl rfl rfl rfl rfl (zc rfl) (zh rfl rfl rfl rfl rfl (zaD rfl rfl rfl) (za rfl rfl (zr rfl rfl) (za rfl rfl (zd rfl) (zg rfl ?_))))))))))))))))))
      exact PD.sub ((4, dB (decide ((((⟨#[34]⟩ : ByteArray).size : Nat) : Int) ≤ ((s.size : Nat) : Int)) && decide ((s.extract (s.size - ((⟨#[34]⟩ : ByteArray).size)) s.size) = (⟨#[34]⟩ : ByteArray)))) :: [(0, .s s), (1, .v (.string (⟨#[34]⟩ : ByteArray)))]) ⟨sc rfl (Cv.eq (congrArg (fun b => D.v (.bool b)) (by first | (simp [hg2]; done) | (simp_all; done)))), sk rfl, sk rfl, trivial⟩ hQ1
    · skip
      refine zb rfl (za rfl rfl (zc rfl) (za rfl rfl (zP rfl Tryz.runUnderlying9) (za rfl rfl (zc rfl) (za rfl rfl (zP rfl Tryz.runUnderlying9) (za rfl rfl (z8 rfl rfl (decide_eq_false hg2)) (za rfl rfl (zc rfl) (zi rfl rfl rfl rfl rfl (by decide) (zi rfl rfl rfl rfl rfl (by decide) (zi rfl rfl rfl rfl rfl (by decide) (zi rfl rfl rfl rfl rfl (by decide) (zi rfl rfl rfl rfl rfl (by decide) (zi rfl rfl rfl rfl rfl (by decide) (zi rfl rfl rfl rfl rfl (by decide) (zi rfl rfl rfl rfl rfl (by decide) (zi rfl rfl rfl rfl rfl (by decide) (za rfl rfl (zt rfl rfl) (za rfl rfl (zd rfl) (zg rfl ?_))))))))))))))))))
      exact PD.sub ((4, dB (decide ((((⟨#[34]⟩ : ByteArray).size : Nat) : Int) ≤ ((s.size : Nat) : Int)) && decide ((s.extract (s.size - ((⟨#[34]⟩ : ByteArray).size)) s.size) = (⟨#[34]⟩ : ByteArray)))) :: [(0, .s s), (1, .v (.string (⟨#[34]⟩ : ByteArray)))]) ⟨sc rfl (Cv.eq (congrArg (fun b => D.v (.bool b)) (by first | (simp [hg2]; done) | (simp_all; done)))), sk rfl, sk rfl, trivial⟩ hQ1
  · skip
    refine ze (zu rfl ?_)
    exact zk Tryz.results133 (.cons (zC (zo rfl) (Cv.eq (congrArg (fun b => D.v (.bool b)) (by unfold hasS; congr 1; exact decide_eq_decide.2 (by omega))))) .nil) rfl HSub.none ⟨rfl, rfl⟩

set_option maxHeartbeats 4000000 in
set_option maxRecDepth 100000 in
theorem trimP0_c (s : ByteArray)  :
    CD Tryz.prog 119 [] [.s s, .v (.string (⟨#[34]⟩ : ByteArray))] (isR (D.s (zbA s))) := by
  refine zH Tryz.func119 rfl (N := 13) rfl rfl (fun C => ?_)
  refine JD.keep [0, 1] [(0, .s s), (1, .v (.string (⟨#[34]⟩ : ByteArray)))] rfl ?_
  refine JD.bd 0 rfl (fun bd0 => ?_)
  have sz0 : s.size ≤ 9223372036854775807 := bd0
  have h34 : (⟨#[34]⟩ : ByteArray).size = 1 := rfl
  refine zf _ _ rfl rfl rfl (zb rfl (za rfl rfl (zd rfl) (zg rfl (ze (zf _ _ rfl rfl rfl (zf _ _ rfl rfl rfl (zb rfl (za rfl rfl (zc rfl) (za rfl rfl (zc rfl) (zj rfl rfl (zx [] _ [] rfl rfl (.cons ArgC.id (.cons (ArgC.cv (Cv.str (by first | decide | (unfold maxLen; omega)))) .nil)) zp Tryz.call112 (hasP_c s (⟨#[34]⟩ : ByteArray)) (.inl rfl)) ?_))))))))))
  rintro _ _ ⟨_, ⟨rfl, rfl⟩, rfl⟩
  refine OpsD.norm [] rfl (zg rfl (ze ?_))
  refine zl _ _ rfl rfl rfl rfl (fun hc1 => ?_) (fun hc1 => ?_)
  · skip
    have hps := hasP_size hc1
    refine zf _ _ rfl rfl rfl (zb rfl (za rfl rfl (zc rfl) (za rfl rfl (zc rfl) (za rfl rfl (zP rfl Tryz.runUnderlying9) (za rfl rfl (zV (a := (⟨#[34]⟩ : ByteArray).size) (c := s.size) rfl rfl rfl (by first | rfl | (show _ = _; omega)) (by first | rfl | (show _ = _; omega)) Tryz.runUnderlying9 (by omega) (by omega)) (za rfl rfl (zd rfl) (zg rfl (ze (zu rfl (zq ?_))))))))))
    exact zk Tryz.results119 (.cons (zC (zo rfl) (Cv.eq (congrArg D.s (by unfold zbA; first | rw [if_pos (by simpa using hc1)]; rfl | rw [if_neg (by simpa using hc1)])))) .nil) rfl HSub.none ⟨rfl, rfl⟩
  · skip
    refine zy rfl (ze (zf _ _ rfl rfl rfl (zb rfl (za rfl rfl (zc rfl) (za rfl rfl (zd rfl) (zg rfl (ze (zu rfl ?_))))))))
    exact zk Tryz.results119 (.cons (zC (zo rfl) (Cv.eq (congrArg D.s (by unfold zbA; first | rw [if_pos (by simpa using hc1)]; rfl | rw [if_neg (by simpa using hc1)])))) .nil) rfl HSub.none ⟨rfl, rfl⟩

set_option maxHeartbeats 4000000 in
set_option maxRecDepth 100000 in
theorem trimP_c (s : ByteArray)  :
    CD Tryz.prog 105 [] [.s s, .v (.string (⟨#[34]⟩ : ByteArray))] (isR (D.s (zbA s))) := by
  refine zH Tryz.func105 rfl (N := 8) rfl rfl (fun C => ?_)
  refine JD.keep [0, 1] [(0, .s s), (1, .v (.string (⟨#[34]⟩ : ByteArray)))] rfl ?_
  refine JD.bd 0 rfl (fun bd0 => ?_)
  have sz0 : s.size ≤ 9223372036854775807 := bd0
  have h34 : (⟨#[34]⟩ : ByteArray).size = 1 := rfl
  refine zf _ _ rfl rfl rfl (zb rfl (za rfl rfl (zd rfl) (zg rfl (ze (zf _ _ rfl rfl rfl (zb rfl (za rfl rfl (zc rfl) (za rfl rfl (zc rfl) (zj rfl rfl (zx [] _ [] rfl rfl (.cons ArgC.id (.cons ArgC.id .nil)) zp Tryz.call119 (trimP0_c s) (.inl rfl)) ?_)))))))))
  rintro _ _ ⟨_, ⟨rfl, rfl⟩, rfl⟩
  refine OpsD.norm [] rfl (za rfl rfl (zd rfl) (zg rfl (ze (zu rfl ?_))))
  exact zk Tryz.results105 (.cons (zo rfl) .nil) rfl HSub.none ⟨rfl, rfl⟩

set_option maxHeartbeats 4000000 in
set_option maxRecDepth 100000 in
theorem trimS0_c (s : ByteArray)  :
    CD Tryz.prog 122 [] [.s s, .v (.string (⟨#[34]⟩ : ByteArray))] (isR (D.s (zb6 s))) := by
  refine zH Tryz.func122 rfl (N := 16) rfl rfl (fun C => ?_)
  refine JD.keep [0, 1] [(0, .s s), (1, .v (.string (⟨#[34]⟩ : ByteArray)))] rfl ?_
  refine JD.bd 0 rfl (fun bd0 => ?_)
  have sz0 : s.size ≤ 9223372036854775807 := bd0
  have h34 : (⟨#[34]⟩ : ByteArray).size = 1 := rfl
  refine zf _ _ rfl rfl rfl (zb rfl (za rfl rfl (zd rfl) (zg rfl (ze (zf _ _ rfl rfl rfl (zf _ _ rfl rfl rfl (zb rfl (za rfl rfl (zc rfl) (za rfl rfl (zc rfl) (zj rfl rfl (zx [] _ [] rfl rfl (.cons ArgC.id (.cons ArgC.id .nil)) zp Tryz.call133 (hasS_c s) (.inl rfl)) ?_))))))))))
  rintro _ _ ⟨_, ⟨rfl, rfl⟩, rfl⟩
  refine OpsD.norm [] rfl (zg rfl (ze ?_))
  refine zl _ _ rfl rfl rfl rfl (fun hc1 => ?_) (fun hc1 => ?_)
  · skip
    have hps := hasS_size hc1
    refine zf _ _ rfl rfl rfl (zb rfl (za rfl rfl (zc rfl) (za rfl rfl (zc rfl) (za rfl rfl (zP rfl Tryz.runUnderlying9) (za rfl rfl (zc rfl) (za rfl rfl (zP rfl Tryz.runUnderlying9) (za rfl rfl (zcG (c := ((s.size - ((⟨#[34]⟩ : ByteArray).size) : Nat) : Int)) rfl rfl (zX (by omega) (by omega))) (za rfl rfl (zV (a := 0) (c := s.size - ((⟨#[34]⟩ : ByteArray).size)) rfl rfl rfl (by first | rfl | (show _ = _; omega)) (by first | rfl | (show _ = _; omega)) Tryz.runUnderlying9 (by omega) (by omega)) (za rfl rfl (zd rfl) (zg rfl (ze (JD.keep [0, 4] [(0, .s s), (4, .s (s.extract 0 (s.size - ((⟨#[34]⟩ : ByteArray).size))))] rfl (zu rfl (zq ?_))))))))))))))
    exact zk Tryz.results122 (.cons (zC (zo rfl) (Cv.eq (congrArg D.s (by have h0 := hc1; unfold hasS at h0; unfold zb6; simp only [Bool.and_eq_true, Bool.and_eq_false_iff, decide_eq_true_eq, decide_eq_false_iff_not] at h0; first | (rw [if_pos h0]; rfl) | rw [if_neg (fun e => by rcases h0 with h | h; exact h e.1; exact h e.2)])))) .nil) rfl HSub.none ⟨rfl, rfl⟩
  · skip
    refine zy rfl (ze (zf _ _ rfl rfl rfl (zb rfl (za rfl rfl (zc rfl) (za rfl rfl (zd rfl) (zg rfl (ze (zu rfl ?_))))))))
    exact zk Tryz.results122 (.cons (zC (zo rfl) (Cv.eq (congrArg D.s (by have h0 := hc1; unfold hasS at h0; unfold zb6; simp only [Bool.and_eq_true, Bool.and_eq_false_iff, decide_eq_true_eq, decide_eq_false_iff_not] at h0; first | (rw [if_pos h0]; rfl) | rw [if_neg (fun e => by rcases h0 with h | h; exact h e.1; exact h e.2)])))) .nil) rfl HSub.none ⟨rfl, rfl⟩

set_option maxHeartbeats 4000000 in
set_option maxRecDepth 100000 in
theorem trimS_c (s : ByteArray)  :
    CD Tryz.prog 109 [] [.s s, .v (.string (⟨#[34]⟩ : ByteArray))] (isR (D.s (zb6 s))) := by
  refine zH Tryz.func109 rfl (N := 8) rfl rfl (fun C => ?_)
  refine JD.keep [0, 1] [(0, .s s), (1, .v (.string (⟨#[34]⟩ : ByteArray)))] rfl ?_
  refine JD.bd 0 rfl (fun bd0 => ?_)
  have sz0 : s.size ≤ 9223372036854775807 := bd0
  have h34 : (⟨#[34]⟩ : ByteArray).size = 1 := rfl
  refine zf _ _ rfl rfl rfl (zb rfl (za rfl rfl (zd rfl) (zg rfl (ze (zf _ _ rfl rfl rfl (zb rfl (za rfl rfl (zc rfl) (za rfl rfl (zc rfl) (zj rfl rfl (zx [] _ [] rfl rfl (.cons ArgC.id (.cons ArgC.id .nil)) zp Tryz.call122 (trimS0_c s) (.inl rfl)) ?_)))))))))
  rintro _ _ ⟨_, ⟨rfl, rfl⟩, rfl⟩
  refine OpsD.norm [] rfl (za rfl rfl (zd rfl) (zg rfl (ze (zu rfl ?_))))
  exact zk Tryz.results109 (.cons (zo rfl) .nil) rfl HSub.none ⟨rfl, rfl⟩
end Lp
