/-
  Texts between quotation marks among words.
-/
import Derived.Test.YtoanlikkhjohpaaGreatDoorPLexN
set_option linter.unusedVariables false
namespace Lp
open Go
theorem on8 {n : Nat} (h : n < 256) : (UInt8.ofNat n).toNat = n := by simp; omega
theorem gb0 {a : UInt8} {l : List UInt8} : gb (a :: l) 0 = a.toNat := rfl
theorem gb1 {a b : UInt8} {l : List UInt8} : gb (a :: b :: l) 1 = b.toNat := rfl
theorem gb2 {a b c : UInt8} {l : List UInt8} : gb (a :: b :: c :: l) 2 = c.toNat := rfl
theorem gb3 {a b c d : UInt8} {l : List UInt8} : gb (a :: b :: c :: d :: l) 3 = d.toNat := rfl
theorem ct {l : List UInt8} {k : Nat} (h : k < l.length) (h2 : gb l k / 64 = 2) : zby l k = true := by unfold zby; rw [decide_eq_true h, h2]; rfl
/-- what a rune's bytes are read as -/
theorem dec_encS (c : Nat) (x : List UInt8) (hc : c < 1114112) : (decL (encR c ++ x)).2 = (encR c).length ∧ (decL (encR c ++ x)).1 = (if 55296 ≤ c ∧ c ≤ 57343 then 65533 else c) := by
  unfold encR
  split
  · have e : (UInt8.ofNat (c % 256)).toNat = c := by rw [on8 (by omega)]; omega
    rw [List.cons_append, zaS (by omega), e]; exact ⟨rfl, (if_neg (by omega)).symm⟩
  · split
    · generalize ha : UInt8.ofNat (192 + c / 64 % 256) = a
      generalize hb : UInt8.ofNat (128 + c % 256 % 64) = b
      have a1 : a.toNat = 192 + c / 64 := by rw [← ha, on8 (by omega)]; omega
      have b1 : b.toNat = 128 + c % 64 := by rw [← hb, on8 (by omega)]; omega
      show (decL (a :: b :: x)).2 = 2 ∧ _
      have c1 : zby (a :: b :: x) 1 = true := ct (by simp) (by rw [gb1, b1]; omega)
      have e : decL (a :: b :: x) = (c, 2) := by
        unfold decL
        rw [c1, gb0, gb1, a1, b1, if_neg (by omega), if_pos (by simp; omega), if_pos (by omega)]
        congr 1; omega
      show (decL (a :: b :: x)).2 = 2 ∧ (decL (a :: b :: x)).1 = _
      rw [e]; exact ⟨rfl, (if_neg (by omega)).symm⟩
    · split
      · rename_i h1 h2 h3
        generalize ha : UInt8.ofNat (224 + c / 4096 % 256) = a
        generalize hb : UInt8.ofNat (128 + c / 64 % 256 % 64) = b
        generalize hd : UInt8.ofNat (128 + c % 256 % 64) = d
        have a1 : a.toNat = 224 + c / 4096 := by rw [← ha, on8 (by omega)]; omega
        have b1 : b.toNat = 128 + c / 64 % 64 := by rw [← hb, on8 (by omega)]; omega
        have d1 : d.toNat = 128 + c % 64 := by rw [← hd, on8 (by omega)]; omega
        have c1 : zby (a :: b :: d :: x) 1 = true := ct (by simp) (by rw [gb1, b1]; omega)
        have c2 : zby (a :: b :: d :: x) 2 = true := ct (by simp) (by rw [gb2, d1]; omega)
        have e : decL (a :: b :: d :: x) = (c, 3) := by
          unfold decL
          have en : (224 + c / 4096) % 16 * 4096 + (128 + c / 64 % 64) % 64 * 64 + (128 + c % 64) % 64 = c := by omega
          rw [c1, c2, gb0, gb1, gb2, a1, b1, d1, en, if_neg (by omega), if_neg (by simp; omega), if_pos (by simp; omega), if_pos (by unfold Utf8.valid; simp; omega)]
        show (decL (a :: b :: d :: x)).2 = 3 ∧ (decL (a :: b :: d :: x)).1 = _
        rw [e]; exact ⟨rfl, (if_neg (by omega)).symm⟩
      · split
        · rename_i h1 h2 h3 h4
          generalize ha : UInt8.ofNat (240 + c / 262144 % 256) = a
          generalize hb : UInt8.ofNat (128 + c / 4096 % 256 % 64) = b
          generalize hd : UInt8.ofNat (128 + c / 64 % 256 % 64) = d
          generalize hf : UInt8.ofNat (128 + c % 256 % 64) = f
          have a1 : a.toNat = 240 + c / 262144 := by rw [← ha, on8 (by omega)]; omega
          have b1 : b.toNat = 128 + c / 4096 % 64 := by rw [← hb, on8 (by omega)]; omega
          have d1 : d.toNat = 128 + c / 64 % 64 := by rw [← hd, on8 (by omega)]; omega
          have f1 : f.toNat = 128 + c % 64 := by rw [← hf, on8 (by omega)]; omega
          have c1 : zby (a :: b :: d :: f :: x) 1 = true := ct (by simp) (by rw [gb1, b1]; omega)
          have c2 : zby (a :: b :: d :: f :: x) 2 = true := ct (by simp) (by rw [gb2, d1]; omega)
          have c3 : zby (a :: b :: d :: f :: x) 3 = true := ct (by simp) (by rw [gb3, f1]; omega)
          have e : decL (a :: b :: d :: f :: x) = (c, 4) := by
            unfold decL
            have en : (240 + c / 262144) % 8 * 262144 + (128 + c / 4096 % 64) % 64 * 4096 + (128 + c / 64 % 64) % 64 * 64 + (128 + c % 64) % 64 = c := by omega
            rw [c1, c2, c3, gb0, gb1, gb2, gb3, a1, b1, d1, f1, en, if_neg (by omega), if_neg (by simp; omega), if_neg (by simp; omega), if_pos (by simp; omega), if_pos (by unfold Utf8.valid; simp; omega)]
          show (decL (a :: b :: d :: f :: x)).2 = 4 ∧ (decL (a :: b :: d :: f :: x)).1 = _
          rw [e]; exact ⟨rfl, (if_neg (by omega)).symm⟩
        · have c1 : zby (239 :: 191 :: 189 :: x) 1 = true := ct (by simp) (by rw [gb1]; rfl)
          have c2 : zby (239 :: 191 :: 189 :: x) 2 = true := ct (by simp) (by rw [gb2]; rfl)
          have e : decL (239 :: 191 :: 189 :: x) = (65533, 3) := by
            have n0 : (239 : UInt8).toNat = 239 := by decide
            have n1 : (191 : UInt8).toNat = 191 := by decide
            have n2 : (189 : UInt8).toNat = 189 := by decide
            unfold decL
            rw [c1, c2, gb0, gb1, gb2, n0, n1, n2, if_neg (by omega), if_neg (by simp), if_pos (by simp), if_pos (by unfold Utf8.valid; simp)]
          show (decL (239 :: 191 :: 189 :: x)).2 = 3 ∧ (decL (239 :: 191 :: 189 :: x)).1 = _
          rw [e]; exact ⟨rfl, (if_pos (by omega)).symm⟩
theorem qs_plain {b : UInt8} {t : List UInt8} (h : b.toNat < 128) (h1 : b.toNat ≠ 92) (h2 : b.toNat ≠ 34) : zay false (b :: t) = (zay false t).map (· + 1) := by
  rw [zb7 (by simp), zaS h, if_neg (by simp), if_neg h1, if_neg h2]; rfl
theorem quoteL_len (s : ByteArray) : (zcg s).length = (zae s 0).length + 2 := by unfold zcg; simp
theorem tokQ_len {l src : List UInt8} (h : Tok l src) : l.length ≤ 4 * src.length ∧ src.length ≤ l.length := by
  cases h with
  | esc _ => exact ⟨by simp, by simp⟩
  | nl => exact ⟨by decide, by decide⟩
  | hex => exact ⟨by simp, by simp⟩
  | raw _ _ _ _ => exact ⟨by omega, Nat.le_refl _⟩
theorem quoteAt_4 (s : ByteArray) : ∀ (n p : Nat), s.size - p = n → (zae s p).length ≤ 4 * (s.size - p) ∧ s.size - p ≤ (zae s p).length := by
  intro n
  induction n using Nat.strongRecOn with
  | _ n ih =>
    intro p hp
    rcases Nat.lt_or_ge p s.size with h | h
    · obtain ⟨src, ht, e⟩ := zb2 h
      have h1 := zY s p
      have h2 := zan s p h
      have e2 := congrArg List.length e
      rw [List.length_append, zcE, zcE] at e2
      have h3 := tokQ_len ht
      have h4 := ih (s.size - (p + decW s p)) (by omega) (p + decW s p) rfl
      rw [zaR h, List.length_append]; omega
    · rw [zbk h]; simp; omega
theorem quoteB_4 (s : ByteArray) : (zax s).size ≤ 4 * s.size + 2 ∧ s.size + 2 ≤ (zax s).size := by
  have h := quoteAt_4 s _ 0 rfl
  have e : (zax s).size = (zcg s).length := zaH _
  rw [e, quoteL_len]; omega
theorem quote_bl8 (s : ByteArray) : bl8 (zax s) = zcg s := zbd _
end Lp
/-
  The document's own reading of words, as plain data.
-/
set_option linter.unusedVariables false
namespace Lp
open Go
/-! ### bytes between quotation marks -/
def zbS : List UInt8 → Option Nat
  | [] => none
  | [b] => if b = 92 then none else if b = 34 then some 0 else none
  | b :: c :: t => if b = 92 then (zbS t).map (· + 2) else if b = 34 then some 0 else (zbS (c :: t)).map (· + 1)
theorem bscan_esc {t : List UInt8} : zbS (92 :: t) = (zbS (t.drop 1)).map (· + 2) := by
  cases t with
  | nil => rfl
  | cons c t => show (if (92 : UInt8) = 92 then _ else _) = _; rw [if_pos rfl]; rfl
theorem bscan_raw {b : UInt8} {t : List UInt8} (h : b ≠ 92) (h2 : b ≠ 34) : zbS (b :: t) = (zbS t).map (· + 1) := by
  cases t with
  | nil => show (if b = 92 then none else if b = 34 then some 0 else none) = _; rw [if_neg h, if_neg h2]; rfl
  | cons c t => show (if b = 92 then _ else if b = 34 then some 0 else _) = _; rw [if_neg h, if_neg h2]
theorem bscan_end {t : List UInt8} : zbS (34 :: t) = some 0 := by
  cases t with
  | nil => rfl
  | cons c t => rfl
/-- bytes that are great are passed by -/
theorem bscan_high : ∀ (j : Nat) (l : List UInt8), j ≤ l.length → (∀ k, k < j → 128 ≤ gb l k) → zbS l = (zbS (l.drop j)).map (· + j)
  | 0, l, _, _ => by simp
  | j + 1, [], h, _ => by simp at h
  | j + 1, b :: t, h, hk => by
    have h0 : 128 ≤ b.toNat := hk 0 (by omega)
    rw [bscan_raw (by rintro rfl; exact absurd h0 (by decide)) (by rintro rfl; exact absurd h0 (by decide))]
    rw [bscan_high j t (by simpa using h) (fun k hk2 => hk (k + 1) (by omega))]
    show _ = (zbS (t.drop j)).map _
    cases zbS (t.drop j) with
    | none => rfl
    | some i => show some (i + j + 1) = some (i + (j + 1)); congr 1
theorem dec_high {l : List UInt8} {k : Nat} (h1 : 1 ≤ k) (h2 : k < (decL l).2) : 128 ≤ gb l k := by
  have c : ∀ {j : Nat}, zby l j = true → 128 ≤ gb l j := fun {j} h => by
    unfold zby at h
    simp only [Bool.and_eq_true, beq_iff_eq] at h
    omega
  revert h2
  unfold decL
  split
  · intro h2; have h2 : k < 1 := h2; omega
  · split
    · rename_i h
      simp only [Bool.and_eq_true] at h
      split
      · intro h2; have h2 : k < 2 := h2
        obtain rfl : k = 1 := by omega
        exact c h.2
      · intro h2; have h2 : k < 1 := h2; omega
    · split
      · rename_i h
        simp only [Bool.and_eq_true] at h
        split
        · intro h2; have h2 : k < 3 := h2
          rcases (show k = 1 ∨ k = 2 by omega) with rfl | rfl
          · exact c h.1.2
          · exact c h.2
        · intro h2; have h2 : k < 1 := h2; omega
      · split
        · rename_i h
          simp only [Bool.and_eq_true] at h
          split
          · intro h2; have h2 : k < 4 := h2
            rcases (show k = 1 ∨ k = 2 ∨ k = 3 by omega) with rfl | rfl | rfl
            · exact c h.1.1.2
            · exact c h.1.2
            · exact c h.2
          · intro h2; have h2 : k < 1 := h2; omega
        · intro h2; have h2 : k < 1 := h2; omega
theorem dec_first_high {b : UInt8} {t : List UInt8} (h : ¬ b.toNat < 128) : 128 ≤ (decL (b :: t)).1 ∧ 128 ≤ b.toNat := by
  have h0 : gb (b :: t) 0 = b.toNat := rfl
  have hb : b.toNat < 256 := UInt8.toNat_lt _
  refine ⟨?_, by omega⟩
  unfold decL
  rw [h0, if_neg h]
  split
  · split
    · show 128 ≤ _; omega
    · show 128 ≤ 65533; omega
  · split
    · split
      · rename_i h3
        simp only [Bool.and_eq_true, decide_eq_true_eq] at h3
        show 128 ≤ _
        have := h3.1; omega
      · show 128 ≤ 65533; omega
    · split
      · split
        · rename_i h3
          simp only [Bool.and_eq_true, decide_eq_true_eq] at h3
          show 128 ≤ _
          have := h3.1; omega
        · show 128 ≤ 65533; omega
      · show 128 ≤ 65533; omega
theorem map_map_add (o : Option Nat) (a b : Nat) : (o.map (· + a)).map (· + b) = o.map (· + (a + b)) := by
  cases o with
  | none => rfl
  | some i => show some (i + a + b) = some (i + (a + b)); congr 1; omega
/-- zaC and bytes come to the same end -/
theorem bscan_qscan : ∀ (n : Nat) (l : List UInt8), l.length = n → zay false l = zbS l := by
  intro n
  induction n using Nat.strongRecOn with
  | _ n ih =>
    intro l hl
    cases l with
    | nil => rw [qscan_nil]; rfl
    | cons b t =>
      have hd := zaW (b :: t)
      have hle := zcD (l := b :: t) (by simp)
      by_cases hb : b.toNat < 128
      · by_cases h92 : b = 92
        · subst h92
          rw [zb7 (by simp), zaS hb, if_neg (by simp), if_pos (by decide), bscan_esc]
          show (zay true t).map _ = _
          cases t with
          | nil => rw [qscan_nil]; rfl
          | cons c t =>
            have hw := zaW (c :: t)
            have hwl := zcD (l := c :: t) (by simp)
            simp only [List.length_cons] at hl hwl
            rw [zb7 (by simp), if_pos rfl]
            rw [ih ((c :: t).drop (decL (c :: t)).2).length (by rw [List.length_drop, List.length_cons]; omega) _ rfl, map_map_add]
            show _ = (zbS t).map _
            have e := bscan_high ((decL (c :: t)).2 - 1) t (by omega) (fun k hk => by
              have := dec_high (l := c :: t) (k := k + 1) (by omega) (by omega)
              exact this)
            have e2 : (c :: t).drop (decL (c :: t)).2 = t.drop ((decL (c :: t)).2 - 1) := by
              obtain ⟨m, hm⟩ : ∃ m, (decL (c :: t)).2 = m + 1 := ⟨(decL (c :: t)).2 - 1, by omega⟩
              rw [hm]; rfl
            rw [e, map_map_add, e2]
            congr 1
            funext i
            show i + _ = i + _
            omega
        · by_cases h34 : b = 34
          · subst h34
            rw [zb7 (by simp), zaS hb, if_neg (by simp), if_neg (by decide), if_pos (by decide), bscan_end]
          · have n1 : b.toNat ≠ 92 := fun e => h92 (UInt8.toNat_inj.1 e)
            have n2 : b.toNat ≠ 34 := fun e => h34 (UInt8.toNat_inj.1 e)
            simp only [List.length_cons] at hl
            rw [qs_plain hb n1 n2, bscan_raw h92 h34, ih t.length (by omega) t rfl]
      · obtain ⟨g1, g2⟩ := dec_first_high (t := t) hb
        simp only [List.length_cons] at hl
        rw [zb7 (by simp), if_neg (by simp), if_neg (by omega), if_neg (by omega)]
        rw [ih ((b :: t).drop (decL (b :: t)).2).length (by rw [List.length_drop, List.length_cons]; omega) _ rfl]
        exact (bscan_high _ _ hle (fun k hk => by
          rcases Nat.eq_zero_or_pos k with rfl | h0
          · exact g2
          · exact dec_high h0 hk)).symm
/-! ### signs -/
theorem signIn_k : ∀ (xs : List ByteArray) (k : Nat) (l : List UInt8), (∀ x ∈ xs, x.size = k) → zas xs l = if k ≤ l.length ∧ hasN xs (mkB (l.take k)) = true then (⟨5, 0, mkB (l.take k)⟩, k) else (zbF, 0)
  | [], k, l, _ => by simp [zas, hasN]
  | x :: xs, k, l, h => by
    have hx := h x List.mem_cons_self
    have ih := signIn_k xs k l (fun y hy => h y (List.mem_cons_of_mem _ hy))
    unfold zas
    by_cases hp : (bl8 x).isPrefixOf l = true
    · rw [if_pos hp]
      rw [List.isPrefixOf_iff_prefix] at hp
      have hl := hp.length_le
      rw [zag, hx] at hl
      have e : mkB (l.take k) = x := by
        obtain ⟨t, rfl⟩ := hp
        rw [List.take_left' (by rw [zag, hx]), zcU]
      rw [if_pos ⟨hl, by rw [e]; simp [hasN]⟩, e, hx]
    · rw [if_neg hp, ih]
      have hn : k ≤ l.length → ¬ mkB (l.take k) = x := fun hl e => hp (by
        rw [List.isPrefixOf_iff_prefix]
        refine ⟨l.drop k, ?_⟩
        rw [← e, zbd, List.take_append_drop])
      have e : (k ≤ l.length ∧ hasN (x :: xs) (mkB (l.take k)) = true) ↔ (k ≤ l.length ∧ hasN xs (mkB (l.take k)) = true) := by
        constructor
        · rintro ⟨h1, h2⟩
          refine ⟨h1, ?_⟩
          have h3 := hn h1
          simp only [hasN, List.any_cons, Bool.or_eq_true, decide_eq_true_eq] at h2 ⊢
          rcases h2 with h2 | h2
          · first | exact absurd h2 h3 | exact absurd h2.symm h3
          · exact h2
        · rintro ⟨h1, h2⟩
          refine ⟨h1, ?_⟩
          simp only [hasN, List.any_cons, Bool.or_eq_true, decide_eq_true_eq] at h2 ⊢
          exact .inr h2
      simp only [e]
theorem signIn_cons {x : ByteArray} {xs : List ByteArray} {l : List UInt8} : zas (x :: xs) l = if (bl8 x).isPrefixOf l = true then (⟨5, 0, x⟩, x.size) else zas xs l := by
  conv => lhs; unfold zas
theorem signIn_cat : ∀ (xs ys : List ByteArray) (l : List UInt8), (∀ x ∈ xs, 0 < x.size) → zas (xs ++ ys) l = if (zas xs l).2 = 0 then zas ys l else zas xs l
  | [], ys, l, _ => by
    have e : (zas [] l).2 = 0 := rfl
    show zas ys l = _
    rw [if_pos e]
  | x :: xs, ys, l, h => by
    have hx := h x List.mem_cons_self
    have ih := signIn_cat xs ys l (fun y hy => h y (List.mem_cons_of_mem _ hy))
    show zas (x :: (xs ++ ys)) l = _
    rw [signIn_cons, signIn_cons]
    by_cases hp : (bl8 x).isPrefixOf l = true
    · rw [if_pos hp, if_pos hp, if_neg (by show ¬ x.size = 0; omega)]
    · rw [if_neg hp, if_neg hp, ih]
def zdf : List ByteArray := zN.take 6
def zdg : List ByteArray := zN.drop 6
theorem signT_two {l : List UInt8} : zbi l = if 2 ≤ l.length ∧ hasN zN (mkB (l.take 2)) = true then (⟨5, 0, mkB (l.take 2)⟩, 2) else if 1 ≤ l.length ∧ hasN zN (mkB (l.take 1)) = true then (⟨5, 0, mkB (l.take 1)⟩, 1) else (zbF, 0) := by
  have h2 : ∀ x ∈ zdf, x.size = 2 := by decide
  have h1 : ∀ x ∈ zdg, x.size = 1 := by decide
  have e : zN = zdf ++ zdg := rfl
  have hh : ∀ (y : ByteArray), hasN zN y = (hasN zdf y || hasN zdg y) := fun y => by rw [e]; simp [hasN]
  have no : ∀ (xs : List ByteArray) (k : Nat) (y : ByteArray), (∀ x ∈ xs, x.size = k) → y.size ≠ k → hasN xs y = false := fun xs k y h hy => by
    unfold hasN
    rw [List.any_eq_false]
    intro x hx e
    rw [decide_eq_true_eq] at e
    exact hy (by first | (rw [e]; exact h x hx) | (rw [← e]; exact h x hx))
  have k2 : 2 ≤ l.length → hasN zN (mkB (l.take 2)) = hasN zdf (mkB (l.take 2)) := fun h => by
    rw [hh, no zdg 1 _ h1 (by rw [zaH, List.length_take]; omega), Bool.or_false]
  have k1 : 1 ≤ l.length → hasN zN (mkB (l.take 1)) = hasN zdg (mkB (l.take 1)) := fun h => by
    rw [hh, no zdf 2 _ h2 (by rw [zaH, List.length_take]; omega), Bool.false_or]
  unfold zbi
  rw [e, signIn_cat _ _ _ (fun x hx => by have := h2 x hx; omega), signIn_k _ 2 l h2, signIn_k _ 1 l h1, ← e]
  by_cases a : 2 ≤ l.length ∧ hasN zdf (mkB (l.take 2)) = true
  · rw [if_pos a, if_neg (by show ¬ (2 : Nat) = 0; omega), if_pos ⟨a.1, by rw [k2 a.1]; exact a.2⟩]
  · have na : ¬ (2 ≤ l.length ∧ hasN zN (mkB (l.take 2)) = true) := fun e => a ⟨e.1, by rw [← k2 e.1]; exact e.2⟩
    rw [if_neg a, if_pos rfl, if_neg na]
    by_cases b : 1 ≤ l.length ∧ hasN zdg (mkB (l.take 1)) = true
    · rw [if_pos b, if_pos ⟨b.1, by rw [k1 b.1]; exact b.2⟩]
    · rw [if_neg b, if_neg (fun e => b ⟨e.1, by rw [← k1 e.1]; exact e.2⟩)]
/-! ### names, counted -/
def wcL (l : List UInt8) : Nat := if h : l ≠ [] ∧ isLD ((decL l).1 : Int) = true then 1 + wcL (l.drop (decL l).2) else 0
termination_by l.length
decreasing_by
  have h1 := zaW l
  have h2 := List.length_pos_iff.2 h.1
  rw [List.length_drop]; omega
theorem wcL_t {l : List UInt8} (h : l ≠ []) (hf : isLD ((decL l).1 : Int) = true) : wcL l = 1 + wcL (l.drop (decL l).2) := by
  conv => lhs; unfold wcL
  rw [dif_pos ⟨h, hf⟩]
theorem wcL_f {l : List UInt8} (hf : isLD ((decL l).1 : Int) = false) : wcL l = 0 := by
  unfold wcL; rw [dif_neg (by rw [hf]; simp)]
theorem wcL_nil : wcL [] = 0 := by unfold wcL; rw [dif_neg (by simp)]
def rL (l : List UInt8) : List Int := if h : l = [] then [] else ((decL l).1 : Int) :: rL (l.drop (decL l).2)
termination_by l.length
decreasing_by
  have h1 := zaW l
  have h2 := List.length_pos_iff.2 h
  rw [List.length_drop]; omega
theorem rL_nil : rL [] = [] := by unfold rL; rw [dif_pos rfl]
theorem rL_cons {l : List UInt8} (h : l ≠ []) : rL l = ((decL l).1 : Int) :: rL (l.drop (decL l).2) := by
  conv => lhs; unfold rL
  rw [dif_neg h]
theorem runes_rL : ∀ (n : Nat) (s : ByteArray) (p : Nat), s.size - p = n → zbp s p = rL (bts s p) := by
  intro n
  induction n using Nat.strongRecOn with
  | _ n ih =>
    intro s p hp
    rcases Nat.lt_or_ge p s.size with h | h
    · have h1 := zY s p
      rw [zaQ h, rL_cons (zcb h), za8, ← za7, ← zbI, ih _ (by omega) s _ rfl]
    · rw [zaZ h, zb0 h, rL_nil]
theorem zcv {r : Int} : isLD r = true ↔ (zR r = 1 ∨ zR r = 2) := by
  show inK [1, 2] r = true ↔ _
  unfold inK
  simp only [List.any_cons, List.any_nil, Bool.or_false, Bool.or_eq_true, decide_eq_true_eq]
  constructor
  · rintro (h | h)
    · exact .inl h.symm
    · exact .inr h.symm
  · rintro (h | h)
    · exact .inl h.symm
    · exact .inr h.symm
/-- a letter or digit is its own bytes -/
theorem dec_own {l : List UInt8} (h : l ≠ []) (hf : isLD ((decL l).1 : Int) = true) : l = encR (decL l).1 ++ l.drop (decL l).2 ∧ (encR (decL l).1).length = (decL l).2 ∧ ∀ x, (decL (encR (decL l).1 ++ x)).1 = (decL l).1 := by
  have hs : 0 < (mkB l).size := by rw [zaH]; exact List.length_pos_iff.2 h
  have hb : bts (mkB l) 0 = l := zdy l
  have hd : decR (mkB l) 0 = (decL l).1 := by rw [za7, hb]
  have hw : decW (mkB l) 0 = (decL l).2 := by rw [zbI, hb]
  have hlt := decL_lt l
  rcases dec_cases (mkB l) 0 hs with e | ⟨e, _, _⟩
  · have e2 : bts (mkB l) (0 + decW (mkB l) 0) = l.drop (decL l).2 := by rw [← za8, hb, hw]
    rw [e2, hb, hd] at e
    have hc := congrArg decL e
    have hS := dec_encS (decL l).1 (l.drop (decL l).2) hlt
    rw [← e] at hS
    have hn : ¬ (55296 ≤ (decL l).1 ∧ (decL l).1 ≤ 57343) := fun hh => by
      have := hS.2
      rw [if_pos hh] at this; omega
    exact ⟨e, hS.1.symm, fun x => by rw [(dec_encS (decL l).1 x hlt).2, if_neg hn]⟩
  · exfalso
    rw [hd] at e
    rw [zcv, e] at hf
    revert hf; decide
theorem word_take : ∀ (n : Nat) (l : List UInt8), l.length = n → (rL (l.take (runL isLD l))).length = wcL l ∧ zdp (rL (l.take (runL isLD l))) = true := by
  intro n
  induction n using Nat.strongRecOn with
  | _ n ih =>
    intro l hl
    by_cases h : l ≠ [] ∧ isLD ((decL l).1 : Int) = true
    · obtain ⟨e1, e2, e3⟩ := dec_own h.1 h.2
      have hp := zaW l
      have hle := zcD h.1
      obtain ⟨i1, i2⟩ := ih (l.length - (decL l).2) (by omega) (l.drop (decL l).2) List.length_drop
      have ht : l.take (runL isLD l) = encR (decL l).1 ++ (l.drop (decL l).2).take (runL isLD (l.drop (decL l).2)) := by
        rw [zbj h.1 h.2]
        conv => lhs; arg 2; rw [e1]
        rw [← e2, List.take_length_add_append]
      have hne : encR (decL l).1 ++ (l.drop (decL l).2).take (runL isLD (l.drop (decL l).2)) ≠ [] := fun e => by
        have := congrArg List.length e
        rw [List.length_append, e2] at this
        simp only [List.length_nil] at this; omega
      have hd1 := e3 ((l.drop (decL l).2).take (runL isLD (l.drop (decL l).2)))
      have hd2 := (dec_encS (decL l).1 ((l.drop (decL l).2).take (runL isLD (l.drop (decL l).2))) (decL_lt l)).1
      have hr : rL (l.take (runL isLD l)) = ((decL l).1 : Int) :: rL ((l.drop (decL l).2).take (runL isLD (l.drop (decL l).2))) := by
        rw [ht, rL_cons hne, hd1, hd2, List.drop_left]
      rw [hr, wcL_t h.1 h.2]
      refine ⟨by rw [List.length_cons, i1]; omega, ?_⟩
      rw [wordR_cons, i2, Bool.and_true, decide_eq_true_eq]
      exact zcv.1 h.2
    · have h0 : runL isLD l = 0 := by unfold runL; rw [dif_neg h]
      have h1 : wcL l = 0 := by unfold wcL; rw [dif_neg h]
      rw [h0, h1, List.take_zero, rL_nil]; exact ⟨rfl, rfl⟩
theorem name_count {l : List UInt8} (h : zR ((decL l).1 : Int) = 1) : zcT (mkB (l.take (runL isLD l))) = decide (wcL l ≤ 30) := by
  obtain ⟨h1, h2⟩ := word_take _ l rfl
  have hne : l ≠ [] := by
    rintro rfl
    revert h; decide
  have hf : isLD ((decL l).1 : Int) = true := zcv.2 (.inl h)
  obtain ⟨e1, e2, e3⟩ := dec_own hne hf
  have hp := zaW l
  have hr : zaC (mkB (l.take (runL isLD l))) = rL (l.take (runL isLD l)) := by
    have := runes_rL _ (mkB (l.take (runL isLD l))) 0 rfl
    rw [show bts (mkB (l.take (runL isLD l))) 0 = l.take (runL isLD l) from zdy _] at this
    exact this
  have hd : (rL (l.take (runL isLD l))).getD 0 0 = ((decL l).1 : Int) := by
    have ht : l.take (runL isLD l) = encR (decL l).1 ++ (l.drop (decL l).2).take (runL isLD (l.drop (decL l).2)) := by
      rw [zbj hne hf]
      conv => lhs; arg 2; rw [e1]
      rw [← e2, List.take_length_add_append]
    have hn2 : l.take (runL isLD l) ≠ [] := fun e => by
      have := congrArg List.length e
      rw [ht, List.length_append, e2] at this
      simp only [List.length_nil] at this; omega
    rw [rL_cons hn2, ht, e3]; rfl
  have hw := wcL_t hne hf
  unfold zcT
  rw [nameR_start, hr, hd, h2, h1, h]
  have : 1 ≤ wcL l := by omega
  simp [this]
theorem wordT_count {l : List UInt8} (h : zR ((decL l).1 : Int) = 1) : zbe l = if wcL l ≤ 30 then (⟨1, 0, mkB (l.take (runL isLD l))⟩, runL isLD l) else (zbF, 0) := by
  unfold zbe
  rw [name_count h]
  simp only [decide_eq_true_eq]
/-! ### steps of the document's loops -/
section
variable {s : ByteArray} {p : Nat}
theorem wc_start : wcL (bl8 s) = 0 + wcL (bts s 0) := by rw [Nat.zero_add]; rfl
theorem wc_next {k : Nat} (hf : wcL (bl8 s) = k + wcL (bts s p)) (h : p < s.size) (ht : isLD ((decR s p : Nat) : Int) = true) : wcL (bl8 s) = (k + 1) + wcL (bts s (p + decW s p)) := by
  rw [za7] at ht
  rw [hf, wcL_t (zcb h) ht, za8, ← zbI, Nat.add_assoc]
theorem wc_stop {k : Nat} (hf : wcL (bl8 s) = k + wcL (bts s p)) (ht : isLD ((decR s p : Nat) : Int) = false) : k = wcL (bl8 s) := by
  rw [za7] at ht
  rw [hf, wcL_f ht]; rfl
theorem wc_end {k : Nat} (hf : wcL (bl8 s) = k + wcL (bts s p)) (h : s.size ≤ p) : k = wcL (bl8 s) := by rw [hf, zb0 h, wcL_nil]; rfl
theorem wc_le : ∀ (n : Nat) (l : List UInt8), l.length = n → wcL l ≤ l.length := by
  intro n
  induction n using Nat.strongRecOn with
  | _ n ih =>
    intro l hl
    by_cases h : l ≠ [] ∧ isLD ((decL l).1 : Int) = true
    · have h1 := zaW l
      have h2 := zcD h.1
      have := ih (l.length - (decL l).2) (by omega) _ List.length_drop
      rw [List.length_drop] at this
      rw [wcL_t h.1 h.2]; omega
    · unfold wcL; rw [dif_neg h]; omega
/-- digits, byte by byte -/
theorem dig_byte {u : UInt8} (h : s[p]? = some u) (hd : 48 ≤ u.toNat ∧ u.toNat ≤ 57) (hf : runL isD (bl8 s) = p + runL isD (bts s p)) (hp : p < s.size) : runL isD (bl8 s) = (p + 1) + runL isD (bts s (p + 1)) := by
  have e : bts s p = u :: bts s (p + 1) := by rw [zaw hp, show s.get! p = u from UInt8.toNat_inj.1 (by rw [← zbM hp, zW h])]
  obtain ⟨h1, h2⟩ := dig_kind hd (bts s (p + 1))
  rw [hf, e, zbj (by simp) (isD_2 _ h1), h2]
  show p + (1 + runL isD (bts s (p + 1))) = _
  omega
end
end Lp
