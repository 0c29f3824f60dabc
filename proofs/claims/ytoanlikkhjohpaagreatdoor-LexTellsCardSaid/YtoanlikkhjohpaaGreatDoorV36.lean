/-
  How words are found, step by step.
-/
import Derived.Test.YtoanlikkhjohpaaGreatDoorV8
set_option linter.unusedVariables false
namespace Lp
open Go
variable {s : ByteArray} {p : Nat} {f : Int → Bool}
theorem run_start : runL f (bl8 s) = 0 + runL f (bts s 0) := by rw [Nat.zero_add]; rfl
theorem run_next (hf : runL f (bl8 s) = p + runL f (bts s p)) (h : p < s.size) (ht : f ((decR s p : Nat) : Int) = true) : runL f (bl8 s) = (p + decW s p) + runL f (bts s (p + decW s p)) := by
  rw [za7] at ht
  rw [hf, zbj (zcb h) ht, za8, ← zbI, Nat.add_assoc]
theorem run_stop (hf : runL f (bl8 s) = p + runL f (bts s p)) (ht : f ((decR s p : Nat) : Int) = false) : p = runL f (bl8 s) := by
  rw [za7] at ht
  rw [hf, zcM ht]; rfl
theorem run_end (hf : runL f (bl8 s) = p + runL f (bts s p)) (h : s.size ≤ p) (hp : p ≤ s.size) : s.size = runL f (bl8 s) := by
  rw [hf, zb0 h, zcL]; omega
theorem zaV (f : Int → Bool) (s : ByteArray) : runL f (bl8 s) ≤ s.size := by rw [← zag]; exact zbO f _
theorem hasI_inK (ks : List Int) (r : Int) : hasI ks (zR r) = inK ks r := rfl
theorem zbn {n : Nat} (h : n ≤ s.size) : s.extract 0 n = mkB ((bl8 s).take n) := by rw [zbm h, List.drop_zero]
theorem zbs : s.extract p s.size = mkB ((bl8 s).drop p) := by
  rw [zbm (Nat.le_refl _), List.take_of_length_le (by rw [zag]; omega)]
theorem run_mono {f g : Int → Bool} (h : ∀ r, f r = true → g r = true) : ∀ (n : Nat) (l : List UInt8), l.length = n → runL f l ≤ runL g l := by
  intro n
  induction n using Nat.strongRecOn with
  | _ n ih =>
    intro l hl
    by_cases hf : l ≠ [] ∧ f ((decL l).1 : Int) = true
    · have h1 := zaW l
      have h2 := List.length_pos_iff.2 hf.1
      rw [zbj hf.1 hf.2, zbj hf.1 (h _ hf.2)]
      have := ih (l.length - (decL l).2) (by omega) _ List.length_drop
      omega
    · have : runL f l = 0 := by unfold runL; rw [dif_neg hf]
      omega
theorem nD_le (s : ByteArray) : runL (inK [2]) (bl8 s) ≤ runL (inK [1, 2]) (bl8 s) := run_mono (fun r hr => by
  unfold inK at *
  simp only [List.any_cons, List.any_nil, Bool.or_false, decide_eq_true_eq, Bool.or_eq_true] at *
  exact .inr hr) _ _ rfl
/-! ### words -/
theorem wordT_t (h : zcT (s.extract 0 (runL isLD (bl8 s))) = true) : zbe (bl8 s) = (⟨1, 0, s.extract 0 (runL isLD (bl8 s))⟩, runL isLD (bl8 s)) := by
  unfold zbe; rw [← zbn (zaV _ s), if_pos h]
theorem wordT_f (h : zcT (s.extract 0 (runL isLD (bl8 s))) = false) : zbe (bl8 s) = (zbF, 0) := by
  unfold zbe; rw [← zbn (zaV _ s), if_neg (by rw [h]; simp)]
/-! ### numbers -/
abbrev nD (s : ByteArray) : Nat := runL isD (bl8 s)
abbrev nA (s : ByteArray) : Nat := runL isLD (bl8 s)
abbrev vD (s : ByteArray) : Nat := digV ((bl8 s).take (nD s))
theorem zcS (h : 13 < nD s ∨ 1000000000000 < vD s) : numT (bl8 s) = (zbF, 0) := by unfold numT; rw [if_pos h]
theorem zdi (h : ¬ (13 < nD s ∨ 1000000000000 < vD s)) (h2 : nA s = nD s) : numT (bl8 s) = (⟨2, 0, digB (vD s)⟩, nD s) := by unfold numT; rw [if_neg h, if_pos h2]
theorem cut_mid (h : nA s ≤ s.size) : mkB (((bl8 s).take (nA s)).drop (nD s)) = s.extract (nD s) (nA s) := (zbm h).symm
theorem zbb (h : ¬ (13 < nD s ∨ 1000000000000 < vD s)) (h2 : ¬ nA s = nD s) (h3 : secB (s.extract (nD s) (nA s)) = 0 ∨ 1000000000 / secB (s.extract (nD s) (nA s)) < vD s) : numT (bl8 s) = (zbF, 0) := by
  unfold numT; rw [if_neg h, if_neg h2, cut_mid (zaV _ s), if_pos h3]
theorem zbE (h : ¬ (13 < nD s ∨ 1000000000000 < vD s)) (h2 : ¬ nA s = nD s) (h3 : ¬ (secB (s.extract (nD s) (nA s)) = 0 ∨ 1000000000 / secB (s.extract (nD s) (nA s)) < vD s)) : numT (bl8 s) = (⟨4, 0, digB (vD s * secB (s.extract (nD s) (nA s)))⟩, nA s) := by
  unfold numT; rw [if_neg h, if_neg h2, cut_mid (zaV _ s), if_neg h3]
/-- digits are bytes -/
theorem run_digits : ∀ (n : Nat) (l : List UInt8), l.length = n → ∀ b ∈ l.take (runL isD l), 48 ≤ b.toNat ∧ b.toNat ≤ 57 := by
  intro n
  induction n using Nat.strongRecOn with
  | _ n ih =>
    intro l hl b hb
    by_cases h : l ≠ [] ∧ isD ((decL l).1 : Int) = true
    · have h2 : zR ((decL l).1 : Int) = 2 := by
        have h' : inK [2] ((decL l).1 : Int) = true := h.2
        unfold inK at h'
        simp only [List.any_cons, List.any_nil, Bool.or_false, decide_eq_true_eq] at h'
        exact h'.symm
      have hr : 48 ≤ (decL l).1 ∧ (decL l).1 ≤ 57 := by unfold zR at h2; (repeat (split at h2)) <;> omega
      cases l with
      | nil => exact absurd rfl h.1
      | cons c r =>
        have hc : c.toNat = (decL (c :: r)).1 ∧ (decL (c :: r)).2 = 1 := by
          have hg : gb (c :: r) 0 = c.toNat := rfl
          by_cases h1 : c.toNat < 128
          · unfold decL; rw [hg, if_pos h1]; exact ⟨rfl, rfl⟩
          · exfalso
            revert hr
            unfold decL
            rw [hg, if_neg h1]
            have l0 : c.toNat < 256 := UInt8.toNat_lt _
            (repeat (any_goals split)) <;> simp_all <;> omega
        rw [zbj h.1 h.2, hc.2, Nat.add_comm, List.take_succ_cons, List.drop_one, List.tail_cons] at hb
        rcases List.mem_cons.1 hb with e | e
        · rw [e]; omega
        · exact ih r.length (by simp only [List.length_cons] at hl; omega) r rfl b e
    · unfold runL at hb; rw [dif_neg h] at hb; cases hb
theorem vD_le {l : List UInt8} (h : ∀ b ∈ l, 48 ≤ b.toNat ∧ b.toNat ≤ 57) (hl : l.length ≤ 13) : digV l < 10000000000000 := by
  have key : ∀ (l : List UInt8) (acc k : Nat), (∀ b ∈ l, 48 ≤ b.toNat ∧ b.toNat ≤ 57) → acc < 10 ^ k → l.length + k ≤ 13 → l.foldl (fun n b => 10 * n + (b.toNat - 48)) acc < 10 ^ 13 := by
    intro l
    induction l with
    | nil => intro acc k _ ha hl; exact Nat.lt_of_lt_of_le ha (Nat.pow_le_pow_right (by omega) (by simpa using hl))
    | cons c r ih =>
      intro acc k h ha hl
      have hc := h c List.mem_cons_self
      exact ih _ (k + 1) (fun b hb => h b (List.mem_cons_of_mem _ hb)) (by show 10 * acc + (c.toNat - 48) < 10 ^ (k + 1); rw [Nat.pow_succ]; omega) (by simp only [List.length_cons] at hl; omega)
  have := key l 0 0 h (by decide) (by omega)
  have h13 : (10 : Nat) ^ 13 = 10000000000000 := by decide
  unfold digV; omega
theorem secB_cases (s : ByteArray) : secB s = 0 ∨ secB s = 1 ∨ secB s = 60 ∨ secB s = 3600 := by unfold secB; (repeat (any_goals split)) <;> simp
/-! ### texts -/
def qInv (s : ByteArray) (p : Nat) (b : Bool) : Prop := zay true (bl8 s) = (zay b (bts s p)).map (· + p)
theorem qInv_zero : qInv s 0 true := by
  unfold qInv
  show _ = (zay true (bts s 0)).map (· + 0)
  rw [show bts s 0 = bl8 s from rfl]
  cases zay true (bl8 s) <;> rfl
theorem map_add (o : Option Nat) (a b : Nat) : (o.map (· + a)).map (· + b) = o.map (· + (b + a)) := by
  cases o with
  | none => rfl
  | some x => show some (x + a + b) = some (x + (b + a)); congr 1; omega
theorem zcO {b : Bool} {l : List UInt8} (h : l ≠ []) : zay b l = if b = true then (zay false (l.drop (decL l).2)).map (· + (decL l).2)
  else if (decL l).1 = 92 then (zay true (l.drop (decL l).2)).map (· + (decL l).2)
  else if (decL l).1 = 34 then some 0
  else (zay false (l.drop (decL l).2)).map (· + (decL l).2) := by
  conv => lhs; unfold zay
  rw [dif_neg h]
theorem qInv_skip (hq : qInv s p true) (h : p < s.size) : qInv s (p + decW s p) false := by
  unfold qInv at *
  rw [hq, zcO (zcb h), if_pos rfl, za8, ← zbI, map_add]
theorem qInv_esc (hq : qInv s p false) (h : p < s.size) (hr : decR s p = 92) : qInv s (p + decW s p) true := by
  unfold qInv at *
  rw [za7] at hr
  rw [hq, zcO (zcb h), if_neg (by simp), if_pos hr, za8, ← zbI, map_add]
theorem qInv_next (hq : qInv s p false) (h : p < s.size) (hr : ¬ decR s p = 92) (hr2 : ¬ decR s p = 34) : qInv s (p + decW s p) false := by
  unfold qInv at *
  rw [za7] at hr hr2
  rw [hq, zcO (zcb h), if_neg (by simp), if_neg hr, if_neg hr2, za8, ← zbI, map_add]
theorem qInv_found (hq : qInv s p false) (h : p < s.size) (hr : decR s p = 34) : zay true (bl8 s) = some p := by
  unfold qInv at *
  rw [za7] at hr
  rw [hq, zcO (zcb h), if_neg (by simp), if_neg (by omega), if_pos hr]
  show some (0 + p) = _; rw [Nat.zero_add]
theorem qInv_none {b : Bool} (hq : qInv s p b) (h : s.size ≤ p) : strT (bl8 s) = (zbF, 0) := by
  unfold qInv at hq
  have e : zay b [] = none := by unfold zay; rw [dif_pos rfl]
  rw [zb0 h, e] at hq
  unfold strT; rw [hq]; rfl
theorem strT_f (hq : zay true (bl8 s) = some p) (h : p < s.size) (hu : zbh (s.extract 0 (p + 1)) = false) : strT (bl8 s) = (zbF, 0) := by
  unfold strT; rw [hq]
  simp only [← zbn (show p + 1 ≤ s.size by omega)]
  unfold zbh at hu
  cases e : unqB (s.extract 0 (p + 1)) with
  | none => rfl
  | some t => rw [e] at hu; cases hu
theorem strT_t (hq : zay true (bl8 s) = some p) (h : p < s.size) (hu : zbh (s.extract 0 (p + 1)) = true) : strT (bl8 s) = (⟨3, 0, unqT (s.extract 0 (p + 1))⟩, p + 1) := by
  unfold strT; rw [hq]
  simp only [← zbn (show p + 1 ≤ s.size by omega)]
  unfold zbh at hu; unfold unqT
  cases e : unqB (s.extract 0 (p + 1)) with
  | none => rw [e] at hu; cases hu
  | some t => rfl
/-! ### signs -/
theorem hasP_pre (a b : ByteArray) : hasP a b = (bl8 b).isPrefixOf (bl8 a) := by
  rw [Bool.eq_iff_iff, List.isPrefixOf_iff_prefix]
  unfold hasP
  rw [Bool.and_eq_true, decide_eq_true_eq, decide_eq_true_eq]
  constructor
  · rintro ⟨h1, h2⟩
    rw [zbn h1] at h2
    have := congrArg bl8 h2
    rw [zbd] at this
    exact ⟨(bl8 a).drop b.size, by rw [← this, List.take_append_drop]⟩
  · rintro ⟨t, ht⟩
    have hl := congrArg List.length ht
    rw [List.length_append, zag, zag] at hl
    have h1 : b.size ≤ a.size := by omega
    refine ⟨h1, ?_⟩
    rw [zbn h1, ← ht, List.take_left' (zag b), zcU]
theorem signIn_at {xs : List ByteArray} {k : Nat} {x : ByteArray} (hx : xs[k]? = some x) (h : zas xs (bl8 s) = zas (xs.drop k) (bl8 s)) (hp : hasP s x = true) : zas xs (bl8 s) = (⟨5, 0, x⟩, x.size) := by
  rw [hasP_pre] at hp
  rw [h, zcC hx]; unfold zas; rw [if_pos hp]
theorem signIn_next {xs : List ByteArray} {k : Nat} {x : ByteArray} (hx : xs[k]? = some x) (h : zas xs (bl8 s) = zas (xs.drop k) (bl8 s)) (hp : hasP s x = false) : zas xs (bl8 s) = zas (xs.drop (k + 1)) (bl8 s) := by
  rw [hasP_pre] at hp
  rw [h, zcC hx]; conv => lhs; unfold zas
  rw [if_neg (by rw [hp]; simp)]
theorem signIn_end {xs : List ByteArray} {k : Nat} (h : zas xs (bl8 s) = zas (xs.drop k) (bl8 s)) (hk : xs.length ≤ k) : zas xs (bl8 s) = (zbF, 0) := by
  rw [h, List.drop_eq_nil_iff.2 hk]; rfl
/-! ### the first word -/
theorem dec0 : (decL (bl8 s)).1 = decR s 0 := by rw [za7]; rfl
theorem zcy (h : zR ((decR s 0 : Nat) : Int) = 1) : zF (bl8 s) = zbe (bl8 s) := by unfold zF; rw [dec0, if_pos h]
theorem firstT_2 (h : ¬ zR ((decR s 0 : Nat) : Int) = 1) (h2 : zR ((decR s 0 : Nat) : Int) = 2) : zF (bl8 s) = numT (bl8 s) := by unfold zF; rw [dec0, if_neg h, if_pos h2]
theorem zbR (h : ¬ zR ((decR s 0 : Nat) : Int) = 1) (h2 : ¬ zR ((decR s 0 : Nat) : Int) = 2) (h3 : decR s 0 = 34) : zF (bl8 s) = strT (bl8 s) := by unfold zF; rw [dec0, if_neg h, if_neg h2, if_pos h3]
theorem zcx (h : ¬ zR ((decR s 0 : Nat) : Int) = 1) (h2 : ¬ zR ((decR s 0 : Nat) : Int) = 2) (h3 : ¬ decR s 0 = 34) : zF (bl8 s) = zbi (bl8 s) := by unfold zF; rw [dec0, if_neg h, if_neg h2, if_neg h3]
theorem bl8_ne (h : 0 < s.size) : bl8 s ≠ [] := fun e => by
  have := congrArg List.length e
  rw [zag] at this
  simp only [List.length_nil] at this; omega
theorem run_digit_pos (h : 0 < s.size) (h2 : zR ((decR s 0 : Nat) : Int) = 2) : 1 ≤ nD s := by
  have hk : isD ((decL (bl8 s)).1 : Int) = true := by
    rw [dec0]; show inK [2] _ = true; unfold inK; simp [h2]
  unfold nD
  rw [zbj (bl8_ne h) hk]
  have := zaW (bl8 s); omega
/-! ### all words -/
theorem signIn_le : ∀ (xs : List ByteArray) (l : List UInt8), (zas xs l).2 ≤ l.length
  | [], l => Nat.zero_le _
  | x :: xs, l => by
    unfold zas; split
    · rename_i h
      rw [List.isPrefixOf_iff_prefix] at h
      have := h.length_le
      rw [zag] at this; exact this
    · exact signIn_le xs l
theorem strT_le {l : List UInt8} : (strT l).2 ≤ l.length := by
  have key : ∀ (n : Nat) (l : List UInt8) (b : Bool) (i : Nat), l.length = n → zay b l = some i → i < l.length := by
    intro n
    induction n using Nat.strongRecOn with
    | _ n ih =>
      intro l b i hl h
      by_cases hn : l = []
      · subst hn; unfold zay at h; rw [dif_pos rfl] at h; cases h
      · have h1 := zaW l
        have h2 := zcD hn
        have k2 : ∀ (b' : Bool), (zay b' (l.drop (decL l).2)).map (· + (decL l).2) = some i → i < l.length := by
          intro b' h
          cases e : zay b' (l.drop (decL l).2) with
          | none => rw [e] at h; cases h
          | some j =>
            rw [e] at h; injection h with h
            have := ih (l.length - (decL l).2) (by omega) _ b' j List.length_drop e
            rw [List.length_drop] at this
            have h : j + (decL l).2 = i := h
            omega
        rw [zcO hn] at h
        split at h
        · exact k2 _ h
        · split at h
          · exact k2 _ h
          · split at h
            · injection h with h; omega
            · exact k2 _ h
  cases e : zay true l with
  | none => unfold strT; rw [e]; exact Nat.zero_le _
  | some i =>
    have h2 := key _ l true i rfl e
    unfold strT; rw [e]
    show (match unqB (mkB (l.take (i + 1))) with | none => (zbF, 0) | some t => ((⟨3, 0, t⟩ : TokD), i + 1)).2 ≤ _
    split
    · exact Nat.zero_le _
    · exact h2
theorem firstT_le' {l : List UInt8} : (zF l).2 ≤ l.length := by
  unfold zF
  split
  · unfold zbe; split
    · exact zbO _ _
    · exact Nat.zero_le _
  · split
    · unfold numT; split
      · exact Nat.zero_le _
      · split
        · exact zbO _ _
        · split
          · exact Nat.zero_le _
          · exact zbO _ _
    · split
      · exact strT_le
      · exact signIn_le _ _
def WInv (s : ByteArray) (p : Nat) (o : List TokD) : Prop := zao (bl8 s) 0 = (zaT s.size (bts s p) p).map (o ++ ·)
theorem WInv.zero : WInv s (runL isB (bl8 s)) [] := by
  unfold WInv
  rw [zcj (n := s.size) (by rw [zag]; exact Nat.le_refl _), Nat.zero_add]
  show zaT s.size (bts s (runL isB (bl8 s))) _ = _
  cases zaT s.size (bts s (runL isB (bl8 s))) (runL isB (bl8 s)) <;> rfl
theorem WInv.next {o : List TokD} (h : WInv s p o) (hp : p < s.size) (h0 : ¬ (zF (bl8 (s.extract p s.size))).2 = 0) :
    WInv s (p + (zF (bl8 (s.extract p s.size))).2 + runL isB (bl8 (s.extract (p + (zF (bl8 (s.extract p s.size))).2) s.size))) (o ++ [(zF (bl8 (s.extract p s.size))).1.put p]) := by
  have e1 : bl8 (s.extract p s.size) = bts s p := zaJ
  have e2 : ∀ q, bl8 (s.extract q s.size) = bts s q := fun q => zaJ
  unfold WInv at *
  simp only [e2]
  rw [e1] at h0
  rw [h, zbv (zcb hp) h0 (by rw [zcE]; omega), za8, zcj (n := s.size) (by rw [zcE]; omega), za8]
  cases zaT s.size (bts s (p + (zF (bts s p)).2 + runL isB (bts s (p + (zF (bts s p)).2)))) (p + (zF (bts s p)).2 + runL isB (bts s (p + (zF (bts s p)).2))) <;> simp
theorem WInv.done {o : List TokD} (h : WInv s p o) (hp : s.size ≤ p) : zao (bl8 s) 0 = some o := by
  unfold WInv at h
  rw [h, zb0 hp, zbg]; simp
theorem WInv.bad {o : List TokD} (h : WInv s p o) (hp : p < s.size) (h0 : (zF (bl8 (s.extract p s.size))).2 = 0) : zao (bl8 s) 0 = none := by
  unfold WInv at h
  rw [show bl8 (s.extract p s.size) = bts s p from zaJ] at h0
  rw [h, zb5 (zcb hp) h0]; rfl
theorem zcs (h : 600 < s.size) : [] = lexL s ∧ 1 = lexE s := by unfold lexL lexE; rw [if_pos h, if_pos h]; exact ⟨rfl, rfl⟩
theorem zc1 (h : ¬ 600 < s.size) (h2 : zao (bl8 s) 0 = none) : [] = lexL s ∧ 2 = lexE s := by unfold lexL lexE; rw [if_neg h, if_neg h, h2]; exact ⟨rfl, rfl⟩
theorem zdj {o : List TokD} (h : ¬ 600 < s.size) (h2 : zao (bl8 s) 0 = some o) : o = lexL s ∧ 0 = lexE s := by unfold lexL lexE; rw [if_neg h, if_neg h, h2]; exact ⟨rfl, rfl⟩
theorem first_run_le (h : p ≤ s.size) : p + (zF (bl8 (s.extract p s.size))).2 ≤ s.size ∧ (zF (bl8 (s.extract p s.size))).2 ≤ s.size := by
  have h1 := firstT_le' (l := bl8 (s.extract p s.size))
  rw [zag, ByteArray.size_extract] at h1
  omega
end Lp
/-
  Ways that meet again, with ghosts; functions as values.
-/
set_option linter.unusedVariables false
namespace Lp
open Go Go.RowKit
section
variable {P : Program} {N : Nat} {C : Ctx} {c : Code} {K : Kd} {H : List Hp} {Q : zbf}
end
/-- as Mv, and what all could read they still can -/
structure Mvk (K : Kd) (H : List Hp) (K' : Kd) (H' : List Hp) : Prop where
  out : ∀ C w F ρ, KOk w F ρ K → Good C H w F → ∃ F', KOk w F' ρ K' ∧ Good C H' w F' ∧ Keep w F w F'
theorem frz_good {C : Ctx} {w : World} {F : Nat → Prop} {L H1 H1' : List Hp} (hh : HL L H1 H1') (g : Good C (L ++ H1) w F) : Good C H1' w (fun b => F b ∨ blks L b) := by
  have hap := List.pairwise_append.1 g.h.apart
  have hokL : ∀ h ∈ L, h.ok w F := fun h hh => g.h.ok h (List.mem_append_left _ hh)
  refine { g with fsub := fun b hb => .inl (g.fsub b hb), fnew := ?_, flt := ?_, h := ⟨pairwise_blk hh.blk hap.2.1, hh.out g.flt hokL (fun h hm => g.h.ok h (List.mem_append_right _ hm)), fun b hb => ?_⟩ }
  · rintro b (h | ⟨x, hx, e⟩)
    · exact g.fnew b h
    · exact .inr (g.h.mine b ⟨x, List.mem_append_left _ hx, e⟩).1
  · rintro b (h | ⟨x, hx, e⟩)
    · exact g.flt b h
    · exact Hp.lt (hokL x hx) e
  · obtain ⟨x, hx, e⟩ := blks_eq hh.blk hb
    have hm := g.h.mine b ⟨x, List.mem_append_right _ hx, e⟩
    refine ⟨hm.1, ?_⟩
    rintro (h | ⟨y, hy, e'⟩)
    · exact hm.2 h
    · exact hap.2.2 y hy x hx b e' e
theorem Mvk.freeze {K : Kd} (L : List Hp) {K' : Kd} {H1 H1' : List Hp} (hs : SubL L K' K) (hh : HL L H1 H1') : Mvk K (L ++ H1) K' H1' := ⟨fun C w F ρ hk g => by
  have hokL : ∀ h ∈ L, h.ok w F := fun h hh => g.h.ok h (List.mem_append_left _ hh)
  exact ⟨fun b => F b ∨ blks L b, hs.out g.flt hokL hk, frz_good hh g, ⟨fun _ h => .inl h, fun _ _ _ => rfl⟩⟩⟩
theorem Ef.mv {P : Program} {op : Op} {ty : TypeId} {K K' : Kd} {H H' : List Hp} {R : D → List Hp → Prop} (m : Mvk K H K' H') (h : Ef P op ty K' H' R) : Ef P op ty K H R := ⟨fun C ρ w F hk g => by
  obtain ⟨F1, hk1, g1, k1⟩ := m.out C w F ρ hk g
  exact (h.out C ρ w F1 hk1 g1).mono fun u w' ⟨F', d, H1, h1, h2, h3, h4⟩ => ⟨F', d, H1, h1, h2, h3, ⟨fun b hb => h4.sub b (k1.sub b hb), fun b hb hl => h4.same b (k1.sub b hb) hl⟩⟩⟩
theorem HL.rfl' (L : List Hp) : ∀ H : List Hp, HL L H H
  | [] => .nil
  | _ :: r => .same (HL.rfl' L r)
section
variable {P : Program} {ty : TypeId} {K : Kd} {H : List Hp}
end
end Lp
/-
  The tail of a row of the call's own, as a slice: read, cut and grown.
-/
set_option linter.unusedVariables false
namespace Lp
open Go Go.RowKit

theorem Qu.ef {P : Program} {op : Op} {ty : TypeId} {K : Kd} {H : List Hp} {d : D} (h : Qu P op ty K H d) : Ef P op ty K H (fun d' H' => d' = d ∧ H' = H) := ⟨fun C ρ w F hk g => (h.out ρ w F hk g.flt g.h.ok).mono fun u w' ⟨E, hr⟩ => by
  obtain ⟨g', k⟩ := g.fn E
  exact ⟨_, d, H, ⟨rfl, rfl⟩, hr, g', k⟩⟩
theorem addr_add (g o j : Nat) : (⟨g, o, none⟩ : Addr).add j = ⟨g, o + j, none⟩ := by cases j <;> simp [Addr.add]
/-- a row is a tail of itself -/
theorem HSub.slo {H : List Hp} {v : Value} {z : Nat} {T : TypeId} {xs : List D} : HSub (.sl v z T xs :: H) (.slo v z T xs :: H) := ⟨fun C w F gd => by
  have key : (Hp.sl v z T xs).ok w F → (Hp.slo v z T xs).ok w F := by
    rintro ⟨us, hr, ho⟩
    refine ⟨us, hr, ?_⟩
    have hm := ho.1
    rcases hm.2 with ⟨e, h0⟩ | ⟨g, cap, cur, e, hb, hg, hc, rest⟩
    · exact ⟨Option.none, 0, by rw [e, h0], by omega, .inl rfl⟩
    · refine ⟨_, cap, e, hc, .inr ⟨g, [], by simp, ?_⟩⟩
      simp only [List.length_nil, Nat.zero_add, List.nil_append]
      rw [← e]; exact ho
  have hbl : ∀ b, (Hp.slo v z T xs).blk b → (Hp.sl v z T xs).blk b := by
    rintro b ⟨A, n, c, e, _, hb⟩
    show v.ownBlock = some b
    rw [e]; show some A.block = _; rw [hb]
  have ha := List.pairwise_cons.1 gd.h.apart
  exact { gd with h := ⟨List.pairwise_cons.2 ⟨fun h hh b hb => ha.1 h hh b (hbl b hb), ha.2⟩, fun h hh => by
    rcases List.mem_cons.1 hh with e | e
    · rw [e]; exact key (gd.h.ok _ List.mem_cons_self)
    · exact gd.h.ok h (List.mem_cons_of_mem _ e), fun b ⟨h, hh, hb⟩ => by
    rcases List.mem_cons.1 hh with e | e
    · rw [e] at hb; exact gd.h.mine b ⟨_, List.mem_cons_self, hbl b hb⟩
    · exact gd.h.mine b ⟨h, List.mem_cons_of_mem _ e, hb⟩⟩ }⟩
theorem cut0 {z n m c : Nat} {A : Option Addr} (h : c = 0 ∨ ∃ g o, A = some ⟨g, o, none⟩) : cut z (.slice A m c) 0 n = .slice A n c := by
  unfold cut
  simp only [Nat.zero_mul, Nat.sub_zero]
  rcases h with h | ⟨g, o, h⟩
  · rw [if_pos h]
  · subst h; rw [Option.map_some, addr_add]; simp
theorem TlOk.cut0 {w : World} {z n : Nat} {T : TypeId} {u : Value} {us : List Value} (h : TlOk w z T u us) : ∃ A c, u = .slice A us.length c ∧ us.length ≤ c ∧ Lp.cut z u 0 n = .slice A n c ∧ (0 < us.length → ∃ g o, A = some ⟨g, o, none⟩) := by
  obtain ⟨A, c, e, hle, h⟩ := h
  refine ⟨A, c, e, hle, ?_, fun hl => ?_⟩
  · rw [e]; refine Lp.cut0 ?_
    rcases h with h | ⟨g, p, h, _⟩
    · exact .inl h
    · exact .inr ⟨g, _, h⟩
  · rcases h with h | ⟨g, p, h, _⟩
    · omega
    · exact ⟨g, _, h⟩
section
variable {P : Program} {ty : TypeId} {K : Kd} {H : List Hp}
end

section
variable {P : Program} {ty : TypeId} {K : Kd} {H : List Hp} {α : Type} {f : α → D}
end
end Lp
/-
  Slices with room behind them in which what stands is known.
-/
set_option linter.unusedVariables false
namespace Lp
open Go Go.RowKit
theorem rep_shr {w : World} {F : Nat → Prop} {z n : Nat} {xs : List D} {a : Value} (h : D.rep w F (.shr z n xs) a) : ∃ A c, a = .slice A n c ∧ n ≤ xs.length ∧ D.rep w F (.sh z xs) (.slice A xs.length c) ∧ xs.length ≤ c := by
  obtain ⟨A, c, e, h0, h1, h2, h3⟩ := h
  exact ⟨A, c, e, h0, ⟨A, c, rfl, h1, h2, h3⟩, h1⟩
theorem rep_take {w : World} {F : Nat → Prop} {z n : Nat} {xs : List D} {A : Option Addr} {c : Nat} (hF : ∀ b, F b → b < w.heap.size) (h0 : n ≤ xs.length) (h : D.rep w F (.sh z xs) (.slice A xs.length c)) : D.rep w F (.sh z (xs.take n)) (.slice A n c) := by
  have hl : (xs.take n).length = n := by rw [List.length_take]; omega
  obtain ⟨us, hr, hsl, hblk, hmx⟩ := D.rep_sl hF h
  have hul := hr.len
  cases xs with
  | nil =>
    have : n = 0 := by simpa using h0
    subst this
    exact ⟨A, c, rfl, Nat.zero_le _, Nat.zero_le _, fun e => absurd rfl e⟩
  | cons x r =>
    obtain ⟨b', o', c', hv', hF'⟩ := hblk (by simp)
    injection hv' with e1 _ e2
    subst e1; subst e2
    have h2 := hsl.cut 0 n (Nat.zero_le _) (by omega)
    rw [cut0 (.inr ⟨_, _, rfl⟩), List.drop_zero] at h2
    have := D.sl_rep (hr.take n) h2 (fun _ g hg => by cases hg; exact hF') (by rw [List.length_take]; omega)
    exact this
/-- an argument with room behind it, read as what it is -/
theorem ArgC.shr {L : List Hp} {z n : Nat} {xs : List D} : ArgC L (.shr z n xs) (.sh z (xs.take n)) := ⟨fun w F u hF hL hr => by
  obtain ⟨A, c, rfl, h0, h, _⟩ := rep_shr hr
  exact D.keep (Keep.wide _) _ _ (rep_take hF h0 h)⟩
section
variable {P : Program} {ty : TypeId} {K : Kd} {H : List Hp}
end
/-- lists that are read otherwise, each -/
theorem CvL.map {α : Type} {f g : α → D} (h : ∀ x, Cv (f x) (g x)) : ∀ l : List α, CvL (l.map f) (l.map g)
  | [] => .nil
  | x :: r => .cons (h x) (CvL.map h r)
end Lp
/-
  Lists that are kept: rows of the call's own, any number of them.
-/
set_option linter.unusedVariables false
namespace Lp
open Go Go.RowKit
variable {P : Program} {ty : TypeId} {K : Kd} {H : List Hp}

structure Kp (α : Type) where
  v : Value
  l : List α
/-- a list that has grown: v0 is what it was, of m elements -/
structure K2 (α : Type) where
  v0 : Value
  v : Value
  m : Nat
  l : List α
abbrev Kp.d {α : Type} (p : Kp α) : D := .ov p.v
abbrev Kp.h {α : Type} (z : Nat) (T : TypeId) (f : α → D) (p : Kp α) : Hp := .sl p.v z T (p.l.map f)
abbrev K2.d0 {α : Type} (p : K2 α) : D := .ov p.v0
abbrev K2.d1 {α : Type} (p : K2 α) : D := .ov p.v
abbrev K2.h {α : Type} (z : Nat) (T : TypeId) (f : α → D) (p : K2 α) : Hp := .sl2 p.v0 p.v z T p.m (p.l.map f)
theorem zds {α β : Type} {A : List Hp} {h : α → Hp} {g : β → Hp} {P : List β} {K R : List α} {x : α} (e : K = x :: R) : HSub (A ++ (P.map g ++ K.map h)) (h x :: A ++ (P.map g ++ R.map h)) := by
  subst e
  refine HSub.perm ?_
  rw [List.map_cons, ← List.append_assoc, ← List.append_assoc]
  exact List.perm_middle
theorem zdH {α β : Type} {A : List Hp} {h : α → Hp} {g : β → Hp} {P : List β} {R : List α} {y : β} : HSub (g y :: A ++ (P.map g ++ R.map h)) (A ++ ((P ++ [y]).map g ++ R.map h)) := by
  refine HSub.perm ?_
  rw [List.map_append, List.map_cons, List.map_nil, List.append_assoc, List.singleton_append, ← List.append_assoc, ← List.append_assoc]
  exact List.perm_middle.symm
theorem zdt {α β : Type} {h : α → Hp} {g : β → Hp} {P Q : List β} {R : List α} {A : List Hp} (e : R = []) (e2 : P = Q) : A ++ (P.map g ++ R.map h) = A ++ Q.map g := by subst e; subst e2; simp
theorem ArgC.shs {L : List Hp} {z : Nat} {xs xs' : List D} (h : ArgCs L xs xs') : ArgC L (.sh z xs) (.sh z xs') := ⟨fun w F u hF hL hr => by
  obtain ⟨us, h1, h2, h3, h4⟩ := D.rep_sl hF hr
  refine D.sl_rep (h.repE hF hL h1) h2 (fun hn g hg => ?_) (by have := h1.len; omega)
  have hx : xs ≠ [] := by rintro rfl; cases h; exact hn rfl
  obtain ⟨b, o, c, rfl, hb⟩ := h3 hx
  simp only [Value.ownBlock] at hg
  injection hg with hg
  rw [← hg]; exact .inl hb⟩
theorem zbB {A B T : List Hp} : ((A ++ B) ++ T).Perm ((A ++ T) ++ B) := by
  rw [List.append_assoc, List.append_assoc]
  exact List.perm_append_comm.append_left A
theorem put_next {α : Type} {m l : List α} {k : Nat} {y : α} (hm : m[k]? = some y) (hl : l.length = m.length) : (m.take k ++ l.drop k).set k y = m.take (k + 1) ++ l.drop (k + 1) := by
  have hk := zdv hm
  rw [List.set_append_right _ _ (by rw [List.length_take]; omega), List.length_take, Nat.min_eq_left (by omega), Nat.sub_self, List.drop_eq_getElem_cons (by omega), List.set_cons_zero, za9 hm, List.append_assoc]
  rfl
theorem p_len_own2 {t e : TypeId} {x : Operand} {z n m j : Nat} {v0 v : Value} {T : TypeId} {xs : List D} (hx : opO K x = some v) (hm : nth H j = some (.sl2 v0 v z T m xs)) (ht : ∀ w, (underlying t).run P w = .ok (.slice e) w) (hn : xs.length = n) : Pu P (.call { callee := .builtin .len, args := #[x], argTypes := #[t] }) ty K H (.v (.int .i64 (n : Int))) :=
  ⟨fun ρ w F hk _ hH => by
    obtain ⟨us, hr, ho, _⟩ := hH _ (zai hm)
    exact zdJ (n := n) (zQ ρ [x]) (opv1 ρ (hk.opO hx)) ht (by have := ho.len; rw [hr.len, hn] at this; exact this) ⟨rfl, rfl⟩⟩
theorem p_len_own0 {t e : TypeId} {x : Operand} {z n m j : Nat} {v0 v : Value} {T : TypeId} {xs : List D} (hx : opO K x = some v0) (hm : nth H j = some (.sl2 v0 v z T m xs)) (ht : ∀ w, (underlying t).run P w = .ok (.slice e) w) (hn : (xs.take m).length = n) : Pu P (.call { callee := .builtin .len, args := #[x], argTypes := #[t] }) ty K H (.v (.int .i64 (n : Int))) :=
  ⟨fun ρ w F hk _ hH => by
    obtain ⟨us, hr, _, ho, _⟩ := hH _ (zai hm)
    exact zdJ (n := n) (zQ ρ [x]) (opv1 ρ (hk.opO hx)) ht (by have := ho.len; rw [List.length_take, hr.len, ← List.length_take, hn] at this; exact this) ⟨rfl, rfl⟩⟩
end Lp
/- Walks, printed by a program of mine. -/
set_option linter.unusedSimpArgs false
set_option linter.unusedVariables false
namespace Lp
open Go Go.RowKit Go.Proofs

namespace HdYtoanlikkhjohpaaGreatDoorV36
theorem zaq : ∀ w, ((#[⟨"Kind", 3, 0, false, "", "", 0⟩, ⟨"At", 3, 1, false, "", "", 8⟩, ⟨"Text", 9, 2, false, "", "", 16⟩] : Array Field).mapM fun f => do pure (f.offset, ← Go.sizeOf f.type) : Sem (Array (Nat × Nat))).run Tryz.prog w = .ok ([(0, 1), (1, 1), (2, 1)] : List (Nat × Nat)).toArray w := fun _ => by kernel_rfl
end HdYtoanlikkhjohpaaGreatDoorV36
open HdYtoanlikkhjohpaaGreatDoorV36

set_option maxHeartbeats 4000000 in
set_option maxRecDepth 100000 in
theorem indexI_c (ns : List Int) (n : Int)  :
    CD Tryz.prog 90 [] [.sh 1 (ns.map dI), dI n] (isR (dI (idxI n 0 ns))) := by
  refine zH Tryz.func90 rfl (N := 19) rfl rfl (fun C => ?_)
  refine JD.keep [0, 1] [(0, .sh 1 (ns.map dI)), (1, dI n)] rfl ?_
  refine JD.bd 0 rfl (fun bd0 => ?_)
  have nl0 := zc9 bd0
  refine zf _ _ rfl rfl rfl (zb rfl (za rfl rfl (zd rfl) (zg rfl (ze (zf _ _ rfl rfl rfl (zf _ _ rfl rfl rfl (zb rfl (za rfl rfl (zc rfl) (za rfl rfl (zdB (n := ns.length) rfl Tryz.runUnderlying75 (by simp only [lm, lc, ln])) (za rfl rfl (zc rfl) (zg rfl (ze (zB _ rfl rfl (zS (fun (g : Nat) => [(0, .sh 1 (ns.map dI)), (1, dI n), (7, dN ns.length), (8, dN g)]) (fun (g : Nat) => []) (fun (g : Nat) => (idxI n 0 ns = idxI n g (ns.drop g))) (fun (g : Nat) => ns.length - g) _ 0 rfl rfl ⟨sk rfl, sk rfl, sk rfl, sk rfl, trivial⟩ HSub.rfl' rfl ?_))))))))))))))
  rintro k hf
  refine JD.keep [0, 1, 7, 8] [(0, .sh 1 (ns.map dI)), (1, dI n), (7, dN ns.length), (8, dN k)] rfl (JD.norm [] rfl (zf _ _ rfl rfl rfl (zb rfl (za rfl rfl (z1 rfl rfl rfl) (zg rfl (ze (zf _ _ rfl rfl rfl ?_)))))))
  refine zl _ _ rfl rfl rfl rfl (fun hc1 => ?_) (fun hc1 => ?_)
  · replace hc1 := of_decide_eq_true hc1
    refine zy rfl (ze (zf _ _ rfl rfl rfl (zB _ rfl rfl (zf _ _ rfl rfl rfl (zb rfl (za rfl rfl (zc rfl) (za rfl rfl (zd rfl) (zg rfl (ze (zf _ _ rfl rfl rfl (zb rfl (za rfl rfl (zc rfl) (za rfl rfl (zc rfl) (za rfl rfl (zc rfl) ?_))))))))))))))
    obtain ⟨x1, hx1⟩ := za5 ns k (by omega)
    refine za rfl rfl (zbP (k := k) rfl rfl Tryz.runUnderlying75 Tryz.sizeOf3 (by first | rfl | omega) (zab hx1)) (za rfl rfl (p_load_el1 rfl Tryz.isAgg3 rfl) (za rfl rfl (zU rfl rfl rfl) (zg rfl (ze ?_))))
    refine zl _ _ rfl rfl rfl rfl (fun hc2 => ?_) (fun hc2 => ?_)
    · replace hc2 := of_decide_eq_true hc2
      refine zf _ _ rfl rfl rfl (zb rfl (za rfl rfl (zc rfl) (za rfl rfl (zd rfl) (zg rfl (ze (zu rfl (zn (zq (zam (zn (zq ?_)))))))))))
      exact zk Tryz.results90 (.cons (zC (zo rfl) (Cv.eq (congrArg (fun n => D.v (.int .i64 n)) (by exact idxI_at hx1 hf hc2)))) .nil) rfl HSub.none ⟨rfl, rfl⟩
    · replace hc2 := of_decide_eq_false hc2
      refine zy rfl (zG (ze (zb rfl (za rfl rfl (z7 (c := ((k + 1 : Nat) : Int)) rfl rfl (zX (by omega) (by omega))) (za rfl rfl (zc rfl) (zg rfl ?_))))))
      exact zZ (k + 1) ⟨sk rfl, sk rfl, sk rfl, sk rfl, trivial⟩ HSub.rfl' (idxI_next hx1 hf hc2) (by omega)
  · replace hc1 := of_decide_eq_false hc1
    refine zO rfl (zD (zz (zw (ze (zf _ _ rfl rfl rfl (zb rfl (za rfl rfl (zd rfl) (zg rfl (ze (zu rfl ?_))))))))))
    exact zk Tryz.results90 (.cons (zC (zo rfl) (Cv.eq (congrArg (fun n => D.v (.int .i64 n)) (by exact idxI_end (by omega) hf)))) .nil) rfl HSub.none ⟨rfl, rfl⟩

set_option maxHeartbeats 4000000 in
set_option maxRecDepth 100000 in
theorem containsI_c (ns : List Int) (n : Int)  :
    CD Tryz.prog 60 [] [.sh 1 (ns.map dI), dI n] (isR (dB (hasI ns n))) := by
  refine zH Tryz.func60 rfl (N := 9) rfl rfl (fun C => ?_)
  refine JD.keep [0, 1] [(0, .sh 1 (ns.map dI)), (1, dI n)] rfl ?_
  refine JD.bd 0 rfl (fun bd0 => ?_)
  have nl0 := zc9 bd0
  refine zf _ _ rfl rfl rfl (zb rfl (za rfl rfl (zd rfl) (zg rfl (ze (zf _ _ rfl rfl rfl (zb rfl (za rfl rfl (zc rfl) (za rfl rfl (zc rfl) (zj rfl rfl (zx [] _ [] rfl rfl (.cons ArgC.id (.cons ArgC.id .nil)) zp Tryz.call90 (indexI_c ns n) (.inl rfl)) ?_)))))))))
  rintro _ _ ⟨_, ⟨rfl, rfl⟩, rfl⟩
  refine OpsD.norm [] rfl (za rfl rfl (z8 rfl rfl rfl) (za rfl rfl (zd rfl) (zg rfl (ze (zu rfl ?_)))))
  exact zk Tryz.results60 (.cons (zC (zo rfl) (Cv.eq (congrArg (fun b => D.v (.bool b)) (by exact idxI_has n ns 0)))) .nil) rfl HSub.none ⟨rfl, rfl⟩

set_option maxHeartbeats 4000000 in
set_option maxRecDepth 100000 in
theorem indexS_c (ns : List ByteArray) (n : ByteArray)  :
    CD Tryz.prog 70 [] [.sh 1 (ns.map D.s), .s n] (isR (dI (idxN n 0 ns))) := by
  refine zH Tryz.func70 rfl (N := 19) rfl rfl (fun C => ?_)
  refine JD.keep [0, 1] [(0, .sh 1 (ns.map D.s)), (1, .s n)] rfl ?_
  refine JD.bd 0 rfl (fun bd0 => ?_)
  have nl0 := zc9 bd0
  refine JD.bd 1 rfl (fun bd1 => ?_)
  have sz1 : n.size ≤ 9223372036854775807 := bd1
  refine zf _ _ rfl rfl rfl (zb rfl (za rfl rfl (zd rfl) (zg rfl (ze (zf _ _ rfl rfl rfl (zf _ _ rfl rfl rfl (zb rfl (za rfl rfl (zc rfl) (za rfl rfl (zdB (n := ns.length) rfl Tryz.runUnderlying53 (by simp only [lm, lc, ln])) (za rfl rfl (zc rfl) (zg rfl (ze (zB _ rfl rfl (zS (fun (g : Nat) => [(0, .sh 1 (ns.map D.s)), (1, .s n), (7, dN ns.length), (8, dN g)]) (fun (g : Nat) => []) (fun (g : Nat) => (idxN n 0 ns = idxN n g (ns.drop g))) (fun (g : Nat) => ns.length - g) _ 0 rfl rfl ⟨sk rfl, sk rfl, sk rfl, sk rfl, trivial⟩ HSub.rfl' rfl ?_))))))))))))))
  rintro k hf
  refine JD.keep [0, 1, 7, 8] [(0, .sh 1 (ns.map D.s)), (1, .s n), (7, dN ns.length), (8, dN k)] rfl (JD.norm [] rfl (zf _ _ rfl rfl rfl (zb rfl (za rfl rfl (z1 rfl rfl rfl) (zg rfl (ze (zf _ _ rfl rfl rfl ?_)))))))
  refine zl _ _ rfl rfl rfl rfl (fun hc1 => ?_) (fun hc1 => ?_)
  · replace hc1 := of_decide_eq_true hc1
    refine zy rfl (ze (zf _ _ rfl rfl rfl (zB _ rfl rfl (zf _ _ rfl rfl rfl (zb rfl (za rfl rfl (zc rfl) (za rfl rfl (zd rfl) (zg rfl (ze (zf _ _ rfl rfl rfl (zb rfl (za rfl rfl (zc rfl) (za rfl rfl (zc rfl) (za rfl rfl (zc rfl) ?_))))))))))))))
    obtain ⟨x1, hx1⟩ := za5 ns k (by omega)
    refine za rfl rfl (zbP (k := k) rfl rfl Tryz.runUnderlying53 Tryz.sizeOf9 (by first | rfl | omega) (zab hx1)) (za rfl rfl (p_load_el1 rfl Tryz.isAgg9 rfl) (za rfl rfl (zaD rfl rfl rfl) (zg rfl (ze ?_))))
    refine zl _ _ rfl rfl rfl rfl (fun hc2 => ?_) (fun hc2 => ?_)
    · replace hc2 := of_decide_eq_true hc2
      refine zf _ _ rfl rfl rfl (zb rfl (za rfl rfl (zc rfl) (za rfl rfl (zd rfl) (zg rfl (ze (zu rfl (zn (zq (zam (zn (zq ?_)))))))))))
      exact zk Tryz.results70 (.cons (zC (zo rfl) (Cv.eq (congrArg (fun n => D.v (.int .i64 n)) (by exact idxN_at hx1 hf hc2)))) .nil) rfl HSub.none ⟨rfl, rfl⟩
    · replace hc2 := of_decide_eq_false hc2
      refine zy rfl (zG (ze (zb rfl (za rfl rfl (z7 (c := ((k + 1 : Nat) : Int)) rfl rfl (zX (by omega) (by omega))) (za rfl rfl (zc rfl) (zg rfl ?_))))))
      exact zZ (k + 1) ⟨sk rfl, sk rfl, sk rfl, sk rfl, trivial⟩ HSub.rfl' (idxN_next hx1 hf hc2) (by omega)
  · replace hc1 := of_decide_eq_false hc1
    refine zO rfl (zD (zz (zw (ze (zf _ _ rfl rfl rfl (zb rfl (za rfl rfl (zd rfl) (zg rfl (ze (zu rfl ?_))))))))))
    exact zk Tryz.results70 (.cons (zC (zo rfl) (Cv.eq (congrArg (fun n => D.v (.int .i64 n)) (by exact idxN_end (by omega) hf)))) .nil) rfl HSub.none ⟨rfl, rfl⟩

set_option maxHeartbeats 4000000 in
set_option maxRecDepth 100000 in
theorem containsS_c (ns : List ByteArray) (n : ByteArray)  :
    CD Tryz.prog 18 [] [.sh 1 (ns.map D.s), .s n] (isR (dB (hasN ns n))) := by
  refine zH Tryz.func18 rfl (N := 9) rfl rfl (fun C => ?_)
  refine JD.keep [0, 1] [(0, .sh 1 (ns.map D.s)), (1, .s n)] rfl ?_
  refine JD.bd 0 rfl (fun bd0 => ?_)
  have nl0 := zc9 bd0
  refine JD.bd 1 rfl (fun bd1 => ?_)
  have sz1 : n.size ≤ 9223372036854775807 := bd1
  refine zf _ _ rfl rfl rfl (zb rfl (za rfl rfl (zd rfl) (zg rfl (ze (zf _ _ rfl rfl rfl (zb rfl (za rfl rfl (zc rfl) (za rfl rfl (zc rfl) (zj rfl rfl (zx [] _ [] rfl rfl (.cons ArgC.id (.cons ArgC.id .nil)) zp Tryz.call70 (indexS_c ns n) (.inl rfl)) ?_)))))))))
  rintro _ _ ⟨_, ⟨rfl, rfl⟩, rfl⟩
  refine OpsD.norm [] rfl (za rfl rfl (z8 rfl rfl rfl) (za rfl rfl (zd rfl) (zg rfl (ze (zu rfl ?_)))))
  exact zk Tryz.results18 (.cons (zC (zo rfl) (Cv.eq (congrArg (fun b => D.v (.bool b)) (by exact idxN_has n ns 0)))) .nil) rfl HSub.none ⟨rfl, rfl⟩

set_option maxHeartbeats 4000000 in
set_option maxRecDepth 100000 in
theorem zdC (s : ByteArray) (ks : List Int)  :
    CD Tryz.prog 12 [] [.s s, .sh 1 (ks.map dI)] (isR (dN (runL (inK ks) (bl8 s)))) := by
  refine zH Tryz.func12 rfl (N := 21) rfl rfl (fun C => ?_)
  refine JD.keep [0, 1] [(0, .s s), (1, .sh 1 (ks.map dI))] rfl ?_
  refine JD.bd 0 rfl (fun bd0 => ?_)
  have sz0 : s.size ≤ 9223372036854775807 := bd0
  refine JD.bd 1 rfl (fun bd1 => ?_)
  have nl1 := zc9 bd1
  refine zf _ _ rfl rfl rfl (zb rfl (za rfl rfl (zd rfl) (zg rfl (ze (zf _ _ rfl rfl rfl (zf _ _ rfl rfl rfl (zb rfl (za rfl rfl (zc rfl) (zj rfl rfl (zbH rfl Tryz.runUnderlying9) ?_)))))))))
  rintro _ _ ⟨g1, rfl, rfl⟩
  refine zg rfl (ze (zB _ rfl rfl (zS (fun (g : Nat) => [(0, .s s), (1, .sh 1 (ks.map dI)), (8, dP g1 0)]) (fun (g : Nat) => [.it g1 s g]) (fun (g : Nat) => (g ≤ s.size) ∧ (runL (inK ks) (bl8 s) = g + runL (inK ks) (bts s g))) (fun (g : Nat) => s.size - g) _ 0 rfl rfl ⟨sk rfl, sk rfl, sk rfl, trivial⟩ HSub.rfl' ⟨Nat.zero_le _, run_start⟩ ?_)))
  rintro p ⟨hp, hf⟩
  refine JD.keep [0, 1, 8] [(0, .s s), (1, .sh 1 (ks.map dI)), (8, dP g1 0)] rfl (JD.norm [.it g1 s p] rfl ?_)
  rcases Nat.lt_or_ge p s.size with hlt | hge
  · skip
    have hrune := zaQ hlt
    have hrl := zbu s p
    have hdw := zan s p hlt
    have hdp := zY s p
    refine zf _ _ rfl rfl rfl (zb rfl (zj rfl rfl (zba (i := 0) rfl rfl hlt) ?_))
    rintro _ _ ⟨rfl, rfl⟩
    refine OpsD.norm [.it g1 s (p + decW s p)] rfl (za rfl rfl (zJ rfl rfl) (zg rfl (ze (zf _ _ rfl rfl rfl (zaB _ rfl rfl rfl (zy rfl (ze (zB _ rfl rfl (zf _ _ rfl rfl rfl (zb rfl (za rfl rfl (zJ rfl rfl) (za rfl rfl (zJ rfl rfl) (za rfl rfl (zd rfl) (za rfl rfl (zd rfl) (zg rfl (ze (zf _ _ rfl rfl rfl (zb rfl (za rfl rfl (zc rfl) (za rfl rfl (zc rfl) (zj rfl rfl (zx [] _ [] rfl rfl (.cons ArgC.id .nil) zp Tryz.call61 (Kind_c ((decR s p : Nat) : Int)) (.inl rfl)) ?_)))))))))))))))))))))
    rintro _ _ ⟨_, ⟨rfl, rfl⟩, rfl⟩
    refine OpsD.norm [.it g1 s (p + decW s p)] rfl (zj rfl rfl (zx [] _ [] rfl rfl (.cons ArgC.id (.cons ArgC.id .nil)) zp Tryz.call60 (containsI_c ks (zR ((decR s p : Nat) : Int))) (.inl rfl)) ?_)
    rintro _ _ ⟨_, ⟨rfl, rfl⟩, rfl⟩
    refine OpsD.norm [.it g1 s (p + decW s p)] rfl (za rfl rfl (zbr rfl) (zg rfl (ze ?_)))
    refine zl _ _ rfl rfl rfl rfl (fun hc2 => ?_) (fun hc2 => ?_)
    · simp only [Bool.and_eq_true, Bool.or_eq_true, Bool.not_eq_true', Bool.not_eq_false', Bool.and_eq_false_iff, Bool.or_eq_false_iff, decide_eq_true_eq, decide_eq_false_iff_not, Decidable.not_not, ne_eq] at hc2
      refine zf _ _ rfl rfl rfl (zb rfl (za rfl rfl (zc rfl) (za rfl rfl (zd rfl) (zg rfl (ze (zu rfl (zn (zam (zn (zq ?_))))))))))
      exact zk Tryz.results12 (.cons (zC (zo rfl) (Cv.eq (congrArg dN (by exact run_stop hf (by have h0 := hc2; rw [← hasI_inK]; simpa using h0))))) .nil) rfl HSub.none ⟨rfl, rfl⟩
    · simp only [Bool.and_eq_true, Bool.or_eq_true, Bool.not_eq_true', Bool.not_eq_false', Bool.and_eq_false_iff, Bool.or_eq_false_iff, decide_eq_true_eq, decide_eq_false_iff_not, Decidable.not_not, ne_eq] at hc2
      refine zy rfl (zG ?_)
      exact zZ (p + decW s p) ⟨sk rfl, sk rfl, sk rfl, trivial⟩ HSub.rfl' ⟨by have := zan s p hlt; omega, run_next hf hlt (by have h0 := hc2; rw [← hasI_inK]; simpa using h0)⟩ (by have := zY s p; omega)
  · skip
    have hrune := zaZ hge
    refine zf _ _ rfl rfl rfl (zb rfl (za rfl rfl (zbD (i := 0) rfl rfl hge) (za rfl rfl (zJ rfl rfl) (zg rfl (ze (zf _ _ rfl rfl rfl (zah _ rfl rfl rfl (zO rfl (zD (zz (zw (ze (zf _ _ rfl rfl rfl (zb rfl (za rfl rfl (zc rfl) (za rfl rfl (zP rfl Tryz.runUnderlying9) (za rfl rfl (zd rfl) (zg rfl (ze (zu rfl ?_))))))))))))))))))))
    exact zk Tryz.results12 (.cons (zC (zo rfl) (Cv.eq (congrArg dN (by exact run_end hf hge hp)))) .nil) rfl HSub.none ⟨rfl, rfl⟩

set_option maxHeartbeats 4000000 in
set_option maxRecDepth 100000 in
theorem word_c (s : ByteArray) (hs : s.size ≤ 1000000) :
    CD Tryz.prog 63 [] [.s s] (isR (.tup [TokD.d ((zbe (bl8 s)).1), dN ((zbe (bl8 s)).2)])) := by
  refine zH Tryz.func63 rfl (N := 19) rfl rfl (fun C => ?_)
  refine JD.keep [0] [(0, .s s)] rfl ?_
  refine JD.bd 0 rfl (fun bd0 => ?_)
  have sz0 : s.size ≤ 9223372036854775807 := bd0
  have hn := zaV (inK [1, 2]) s
  refine zf _ _ rfl rfl rfl (zb rfl (zj rfl rfl (zbo (zv := (.agg #[(.int .i64 0), (.int .i64 0), (.string ByteArray.empty)])) Tryz.zeroValue45 ⟨rfl, rfl, rfl, trivial⟩ (Cv.vagg (by decide))) ?_))
  rintro _ _ ⟨g1, rfl, rfl⟩
  refine za rfl rfl (zd rfl) (zg rfl (ze (zf _ _ rfl rfl rfl (zb rfl (za rfl rfl (zc rfl) (zj rfl rfl (Qu.ef (d := .sh 1 ([1, 2].map dI)) (zaz [.const (.int .i64 1), .const (.int .i64 2)] rfl rfl (.cons (CellD.v rfl) (.cons (CellD.v rfl) .nil)) rfl Tryz.runUnderlying75 Tryz.sizeOf3 Tryz.zeroValue3 rfl rfl rfl rfl)) ?_))))))
  rintro _ _ ⟨rfl, rfl⟩
  refine zj rfl rfl (zx [] _ [] rfl rfl (.cons ArgC.id (.cons ArgC.id .nil)) zp Tryz.call12 (zdC s [1, 2]) (.inl rfl)) ?_
  rintro _ _ ⟨_, ⟨rfl, rfl⟩, rfl⟩
  refine OpsD.norm [.bx g1 45 (.agg [dI 0, dI 0, .v (.string ByteArray.empty)])] rfl (za rfl rfl (zd rfl) (zg rfl (ze (zf _ _ rfl rfl rfl (zf _ _ rfl rfl rfl (zb rfl (za rfl rfl (zc rfl) (za rfl rfl (zc rfl) (za rfl rfl (zV (a := 0) (c := runL (inK [1, 2]) (bl8 s)) rfl rfl rfl (by first | rfl | (show _ = _; omega)) (by first | rfl | (show _ = _; omega)) Tryz.runUnderlying9 (by omega) (by omega)) (zj rfl rfl (zx [] _ [] rfl rfl (.cons ArgC.id .nil) zp Tryz.call91 (Name_c (s.extract 0 (runL (inK [1, 2]) (bl8 s)))) (.inl rfl)) ?_))))))))))
  rintro _ _ ⟨_, ⟨rfl, rfl⟩, rfl⟩
  refine OpsD.norm [.bx g1 45 (.agg [dI 0, dI 0, .v (.string ByteArray.empty)])] rfl (za rfl rfl (zbr rfl) (zg rfl (ze ?_)))
  refine zl _ _ rfl rfl rfl rfl (fun hc2 => ?_) (fun hc2 => ?_)
  · simp only [Bool.and_eq_true, Bool.or_eq_true, Bool.not_eq_true', Bool.not_eq_false', Bool.and_eq_false_iff, Bool.or_eq_false_iff, decide_eq_true_eq, decide_eq_false_iff_not, Decidable.not_not, ne_eq] at hc2
    refine zf _ _ rfl rfl rfl (zb rfl (za rfl rfl (zaa [] [] (zv := (.agg #[(.int .i64 0), (.int .i64 0), (.string ByteArray.empty)])) rfl rfl (.nil) (Tryz.runUnderlying45) Tryz.zeroValue45 zaq ⟨rfl, rfl, rfl, trivial⟩ rfl) (zj rfl rfl (zK (i := 0) (X' := .agg [dI 0, dI 0, .v (.string ByteArray.empty)]) rfl rfl rfl (CellD.agg) Tryz.sizeOf45 rfl rfl rfl) ?_)))
    rintro _ _ ⟨rfl, rfl⟩
    refine OpsD.norm [.bx g1 45 (.agg [dI 0, dI 0, .v (.string ByteArray.empty)])] rfl (za rfl rfl (zd rfl) (zg rfl (ze (JD.keep [0, 2, 3, 4] [(0, .s s), (2, dP g1 0), (3, dI 0), (4, dN (runL (inK [1, 2]) (bl8 s)))] rfl (zu rfl (zq ?_))))))
    exact zk Tryz.results63 (.cons (zC (zad (X := .agg [dI 0, dI 0, .v (.string ByteArray.empty)]) (d := .agg [dI 0, dI 0, .v (.string ByteArray.empty)]) (i := 0) rfl rfl Tryz.isAgg45 Tryz.sizeOf45 rfl rfl) ((Cv.agg (.cons Cv.rfl' (.cons Cv.rfl' (.cons ((Cv.str (by first | decide | (unfold maxLen; omega)))) .nil)))).trans (Cv.eq (congrArg TokD.d (show (TokD.mk 0 0 ByteArray.empty) = (zbe (bl8 s)).1 from (by rw [wordT_f (by simpa using hc2)]; try rfl)))))) (.cons (zC (zo rfl) (Cv.eq (congrArg dN (by rw [wordT_f (by simpa using hc2)]; try rfl)))) .nil)) rfl HSub.none ⟨rfl, rfl⟩
  · simp only [Bool.and_eq_true, Bool.or_eq_true, Bool.not_eq_true', Bool.not_eq_false', Bool.and_eq_false_iff, Bool.or_eq_false_iff, decide_eq_true_eq, decide_eq_false_iff_not, Decidable.not_not, ne_eq] at hc2
    refine zy rfl (ze (zf _ _ rfl rfl rfl (zb rfl (za rfl rfl (zc rfl) (za rfl rfl (zc rfl) (za rfl rfl (zV (a := 0) (c := runL (inK [1, 2]) (bl8 s)) rfl rfl rfl (by first | rfl | (show _ = _; omega)) (by first | rfl | (show _ = _; omega)) Tryz.runUnderlying9 (by omega) (by omega)) (za rfl rfl (zaa [0, 2] [.const (.int .i64 1), .tmp 16] (zv := (.agg #[(.int .i64 0), (.int .i64 0), (.string ByteArray.empty)])) rfl rfl (.cons (CellD.v rfl) (.cons CellD.s .nil)) (Tryz.runUnderlying45) Tryz.zeroValue45 zaq ⟨rfl, rfl, rfl, trivial⟩ rfl) (za rfl rfl (zc rfl) (zj rfl rfl (zK (i := 0) (X' := .agg [dI 1, dI 0, .s (s.extract 0 (runL (inK [1, 2]) (bl8 s)))]) rfl rfl rfl (CellD.agg) Tryz.sizeOf45 rfl rfl rfl) ?_)))))))))
    rintro _ _ ⟨rfl, rfl⟩
    refine OpsD.norm [.bx g1 45 (.agg [dI 1, dI 0, .s (s.extract 0 (runL (inK [1, 2]) (bl8 s)))])] rfl (za rfl rfl (zd rfl) (zg rfl (ze (JD.keep [2, 3] [(2, dP g1 0), (3, dN (runL (inK [1, 2]) (bl8 s)))] rfl (zu rfl ?_)))))
    exact zk Tryz.results63 (.cons (zC (zad (X := .agg [dI 1, dI 0, .s (s.extract 0 (runL (inK [1, 2]) (bl8 s)))]) (d := .agg [dI 1, dI 0, .s (s.extract 0 (runL (inK [1, 2]) (bl8 s)))]) (i := 0) rfl rfl Tryz.isAgg45 Tryz.sizeOf45 rfl rfl) (Cv.eq (congrArg TokD.d (show (TokD.mk 1 0 (s.extract 0 (runL (inK [1, 2]) (bl8 s)))) = (zbe (bl8 s)).1 from (by rw [wordT_t (by simpa using hc2)]; try rfl))))) (.cons (zC (zo rfl) (Cv.eq (congrArg dN (by rw [wordT_t (by simpa using hc2)]; try rfl)))) .nil)) rfl HSub.none ⟨rfl, rfl⟩

set_option maxHeartbeats 4000000 in
set_option maxRecDepth 100000 in
theorem seconds_c (s : ByteArray)  :
    CD Tryz.prog 94 [] [.s s] (isR (dN (secB s))) := by
  refine zH Tryz.func94 rfl (N := 10) rfl rfl (fun C => ?_)
  refine JD.keep [0] [(0, .s s)] rfl ?_
  refine JD.bd 0 rfl (fun bd0 => ?_)
  have sz0 : s.size ≤ 9223372036854775807 := bd0
  refine zf _ _ rfl rfl rfl (zb rfl (za rfl rfl (zd rfl) (zg rfl (ze (zf _ _ rfl rfl rfl (zf _ _ rfl rfl rfl (zb rfl (za rfl rfl (zc rfl) (zg rfl (ze (zB _ rfl rfl (zf _ _ rfl rfl rfl (zb rfl (za rfl rfl (zaD rfl rfl rfl) (za rfl rfl (zd rfl) (zg rfl (ze ?_)))))))))))))))))
  refine zl _ _ rfl rfl rfl rfl (fun hc1 => ?_) (fun hc1 => ?_)
  · replace hc1 := of_decide_eq_true hc1
    refine zf _ _ rfl rfl rfl (zb rfl (za rfl rfl (zd rfl) (zg rfl (ze (zu rfl (zn (zq ?_)))))))
    exact zk Tryz.results94 (.cons (zC (zo rfl) (Cv.eq (congrArg dN (by unfold secB; simp [*])))) .nil) rfl HSub.none ⟨rfl, rfl⟩
  · replace hc1 := of_decide_eq_false hc1
    refine zf _ _ rfl rfl rfl (zb rfl (za rfl rfl (zaD rfl rfl rfl) (za rfl rfl (zd rfl) (zg rfl (ze ?_)))))
    refine zl _ _ rfl rfl rfl rfl (fun hc2 => ?_) (fun hc2 => ?_)
    · replace hc2 := of_decide_eq_true hc2
      refine zf _ _ rfl rfl rfl (zb rfl (za rfl rfl (zd rfl) (zg rfl (ze (zu rfl (zn (zq ?_)))))))
      exact zk Tryz.results94 (.cons (zC (zo rfl) (Cv.eq (congrArg dN (by unfold secB; simp [*])))) .nil) rfl HSub.none ⟨rfl, rfl⟩
    · replace hc2 := of_decide_eq_false hc2
      refine zf _ _ rfl rfl rfl (zb rfl (za rfl rfl (zaD rfl rfl rfl) (za rfl rfl (zd rfl) (zg rfl (ze ?_)))))
      refine zl _ _ rfl rfl rfl rfl (fun hc3 => ?_) (fun hc3 => ?_)
      · replace hc3 := of_decide_eq_true hc3
        refine zf _ _ rfl rfl rfl (zb rfl (za rfl rfl (zd rfl) (zg rfl (ze (zu rfl (zn (zq ?_)))))))
        exact zk Tryz.results94 (.cons (zC (zo rfl) (Cv.eq (congrArg dN (by unfold secB; simp [*])))) .nil) rfl HSub.none ⟨rfl, rfl⟩
      · replace hc3 := of_decide_eq_false hc3
        refine zy rfl (zG (ze (zf _ _ rfl rfl rfl (zb rfl (za rfl rfl (zd rfl) (zg rfl (ze (zu rfl ?_))))))))
        exact zk Tryz.results94 (.cons (zC (zo rfl) (Cv.eq (congrArg dN (by unfold secB; simp [*])))) .nil) rfl HSub.none ⟨rfl, rfl⟩

set_option maxHeartbeats 4000000 in
set_option maxRecDepth 100000 in
theorem signs_c   :
    CD Tryz.prog 19 [] [] (isR ((D.ls 1 D.s) zN)) := by
  refine zH Tryz.func19 rfl (N := 2) rfl rfl (fun C => ?_)
  refine JD.keep [] [] rfl (zf _ _ rfl rfl rfl (zb rfl (za rfl rfl (zd rfl) (zg rfl (ze (zf _ _ rfl rfl rfl (zb rfl ?_)))))))
  refine zj rfl rfl (Qu.ef (d := .sh 1 ([(⟨#[61, 61]⟩ : ByteArray), (⟨#[33, 61]⟩ : ByteArray), (⟨#[60, 61]⟩ : ByteArray), (⟨#[62, 61]⟩ : ByteArray), (⟨#[61, 126]⟩ : ByteArray), (⟨#[33, 126]⟩ : ByteArray), (⟨#[43]⟩ : ByteArray), (⟨#[45]⟩ : ByteArray), (⟨#[42]⟩ : ByteArray), (⟨#[47]⟩ : ByteArray), (⟨#[37]⟩ : ByteArray), (⟨#[40]⟩ : ByteArray), (⟨#[41]⟩ : ByteArray), (⟨#[123]⟩ : ByteArray), (⟨#[125]⟩ : ByteArray), (⟨#[91]⟩ : ByteArray), (⟨#[93]⟩ : ByteArray), (⟨#[44]⟩ : ByteArray), (⟨#[61]⟩ : ByteArray), (⟨#[60]⟩ : ByteArray), (⟨#[62]⟩ : ByteArray)].map D.s)) ((zaz [.const (.string (⟨#[61, 61]⟩ : ByteArray)), .const (.string (⟨#[33, 61]⟩ : ByteArray)), .const (.string (⟨#[60, 61]⟩ : ByteArray)), .const (.string (⟨#[62, 61]⟩ : ByteArray)), .const (.string (⟨#[61, 126]⟩ : ByteArray)), .const (.string (⟨#[33, 126]⟩ : ByteArray)), .const (.string (⟨#[43]⟩ : ByteArray)), .const (.string (⟨#[45]⟩ : ByteArray)), .const (.string (⟨#[42]⟩ : ByteArray)), .const (.string (⟨#[47]⟩ : ByteArray)), .const (.string (⟨#[37]⟩ : ByteArray)), .const (.string (⟨#[40]⟩ : ByteArray)), .const (.string (⟨#[41]⟩ : ByteArray)), .const (.string (⟨#[123]⟩ : ByteArray)), .const (.string (⟨#[125]⟩ : ByteArray)), .const (.string (⟨#[91]⟩ : ByteArray)), .const (.string (⟨#[93]⟩ : ByteArray)), .const (.string (⟨#[44]⟩ : ByteArray)), .const (.string (⟨#[61]⟩ : ByteArray)), .const (.string (⟨#[60]⟩ : ByteArray)), .const (.string (⟨#[62]⟩ : ByteArray))] rfl rfl (.cons (CellD.v rfl) (.cons (CellD.v rfl) (.cons (CellD.v rfl) (.cons (CellD.v rfl) (.cons (CellD.v rfl) (.cons (CellD.v rfl) (.cons (CellD.v rfl) (.cons (CellD.v rfl) (.cons (CellD.v rfl) (.cons (CellD.v rfl) (.cons (CellD.v rfl) (.cons (CellD.v rfl) (.cons (CellD.v rfl) (.cons (CellD.v rfl) (.cons (CellD.v rfl) (.cons (CellD.v rfl) (.cons (CellD.v rfl) (.cons (CellD.v rfl) (.cons (CellD.v rfl) (.cons (CellD.v rfl) (.cons (CellD.v rfl) .nil))))))))))))))))))))) rfl Tryz.runUnderlying53 Tryz.sizeOf9 Tryz.zeroValue9 rfl rfl rfl rfl).cv (Cv.shs (.cons (Cv.str (by first | decide | (unfold maxLen; omega))) (.cons (Cv.str (by first | decide | (unfold maxLen; omega))) (.cons (Cv.str (by first | decide | (unfold maxLen; omega))) (.cons (Cv.str (by first | decide | (unfold maxLen; omega))) (.cons (Cv.str (by first | decide | (unfold maxLen; omega))) (.cons (Cv.str (by first | decide | (unfold maxLen; omega))) (.cons (Cv.str (by first | decide | (unfold maxLen; omega))) (.cons (Cv.str (by first | decide | (unfold maxLen; omega))) (.cons (Cv.str (by first | decide | (unfold maxLen; omega))) (.cons (Cv.str (by first | decide | (unfold maxLen; omega))) (.cons (Cv.str (by first | decide | (unfold maxLen; omega))) (.cons (Cv.str (by first | decide | (unfold maxLen; omega))) (.cons (Cv.str (by first | decide | (unfold maxLen; omega))) (.cons (Cv.str (by first | decide | (unfold maxLen; omega))) (.cons (Cv.str (by first | decide | (unfold maxLen; omega))) (.cons (Cv.str (by first | decide | (unfold maxLen; omega))) (.cons (Cv.str (by first | decide | (unfold maxLen; omega))) (.cons (Cv.str (by first | decide | (unfold maxLen; omega))) (.cons (Cv.str (by first | decide | (unfold maxLen; omega))) (.cons (Cv.str (by first | decide | (unfold maxLen; omega))) (.cons (Cv.str (by first | decide | (unfold maxLen; omega))) .nil)))))))))))))))))))))))) ?_
  rintro _ _ ⟨rfl, rfl⟩
  refine za rfl rfl (zd rfl) (zg rfl (ze (zu rfl ?_)))
  exact zk Tryz.results19 (.cons (zC (zo rfl) (Cv.eq (congrArg (D.ls 1 D.s) (show [(⟨#[61, 61]⟩ : ByteArray), (⟨#[33, 61]⟩ : ByteArray), (⟨#[60, 61]⟩ : ByteArray), (⟨#[62, 61]⟩ : ByteArray), (⟨#[61, 126]⟩ : ByteArray), (⟨#[33, 126]⟩ : ByteArray), (⟨#[43]⟩ : ByteArray), (⟨#[45]⟩ : ByteArray), (⟨#[42]⟩ : ByteArray), (⟨#[47]⟩ : ByteArray), (⟨#[37]⟩ : ByteArray), (⟨#[40]⟩ : ByteArray), (⟨#[41]⟩ : ByteArray), (⟨#[123]⟩ : ByteArray), (⟨#[125]⟩ : ByteArray), (⟨#[91]⟩ : ByteArray), (⟨#[93]⟩ : ByteArray), (⟨#[44]⟩ : ByteArray), (⟨#[61]⟩ : ByteArray), (⟨#[60]⟩ : ByteArray), (⟨#[62]⟩ : ByteArray)] = zN from (by rfl))))) .nil) rfl HSub.none ⟨rfl, rfl⟩

set_option maxHeartbeats 4000000 in
set_option maxRecDepth 100000 in
theorem Sign_c (s : ByteArray)  :
    CD Tryz.prog 9 [] [.s s] (isR (dB (hasN zN s))) := by
  refine zH Tryz.func9 rfl (N := 6) rfl rfl (fun C => ?_)
  refine JD.keep [0] [(0, .s s)] rfl ?_
  refine JD.bd 0 rfl (fun bd0 => ?_)
  have sz0 : s.size ≤ 9223372036854775807 := bd0
  refine zf _ _ rfl rfl rfl (zb rfl (za rfl rfl (zd rfl) (zg rfl (ze (zf _ _ rfl rfl rfl (zb rfl (zj rfl rfl (zx [] _ [] rfl rfl (.nil) zp Tryz.call19 (signs_c) (.inl rfl)) ?_)))))))
  rintro _ _ ⟨_, ⟨rfl, rfl⟩, rfl⟩
  refine OpsD.norm [] rfl (za rfl rfl (zc rfl) (zj rfl rfl (zx [] _ [] rfl rfl (.cons ArgC.id (.cons ArgC.id .nil)) zp Tryz.call18 (containsS_c zN s) (.inl rfl)) ?_))
  rintro _ _ ⟨_, ⟨rfl, rfl⟩, rfl⟩
  refine OpsD.norm [] rfl (za rfl rfl (zd rfl) (zg rfl (ze (zu rfl ?_))))
  exact zk Tryz.results9 (.cons (zo rfl) .nil) rfl HSub.none ⟨rfl, rfl⟩

set_option maxHeartbeats 4000000 in
set_option maxRecDepth 100000 in
theorem sign_c (s : ByteArray) (hs : s.size ≤ 1000000) :
    CD Tryz.prog 66 [] [.s s] (isR (.tup [TokD.d ((zbi (bl8 s)).1), dN ((zbi (bl8 s)).2)])) := by
  refine zH Tryz.func66 rfl (N := 21) rfl rfl (fun C => ?_)
  refine JD.keep [0] [(0, .s s)] rfl ?_
  refine JD.bd 0 rfl (fun bd0 => ?_)
  have sz0 : s.size ≤ 9223372036854775807 := bd0
  have hsl : zN.length = 21 := rfl
  refine zf _ _ rfl rfl rfl (zb rfl (zj rfl rfl (zbo (zv := (.agg #[(.int .i64 0), (.int .i64 0), (.string ByteArray.empty)])) Tryz.zeroValue45 ⟨rfl, rfl, rfl, trivial⟩ (Cv.vagg (by decide))) ?_))
  rintro _ _ ⟨g1, rfl, rfl⟩
  refine za rfl rfl (zd rfl) (zg rfl (ze (zf _ _ rfl rfl rfl (zf _ _ rfl rfl rfl (zb rfl (zj rfl rfl (zx [] _ [] rfl rfl (.nil) zp Tryz.call19 (signs_c) (.inl rfl)) ?_))))))
  rintro _ _ ⟨_, ⟨rfl, rfl⟩, rfl⟩
  refine OpsD.norm [.bx g1 45 (.agg [dI 0, dI 0, .v (.string ByteArray.empty)])] rfl (za rfl rfl (zdB (n := zN.length) rfl Tryz.runUnderlying53 (by simp only [lm, lc, ln])) (za rfl rfl (zc rfl) (zg rfl (ze (zB _ rfl rfl (zS (fun (g : Nat) => [(0, .s s), (2, dP g1 0), (6, .sh 1 (zN.map D.s)), (7, dN zN.length), (8, dN g)]) (fun (g : Nat) => [.bx g1 45 (.agg [dI 0, dI 0, .v (.string ByteArray.empty)])]) (fun (g : Nat) => (zas zN (bl8 s) = zas (zN.drop g) (bl8 s))) (fun (g : Nat) => zN.length - g) _ 0 rfl rfl ⟨sk rfl, sk rfl, sk rfl, sk rfl, sk rfl, trivial⟩ HSub.rfl' rfl ?_))))))
  rintro k hf
  refine JD.keep [0, 2, 6, 7, 8] [(0, .s s), (2, dP g1 0), (6, .sh 1 (zN.map D.s)), (7, dN zN.length), (8, dN k)] rfl (JD.norm [.bx g1 45 (.agg [dI 0, dI 0, .v (.string ByteArray.empty)])] rfl (zf _ _ rfl rfl rfl (zb rfl (za rfl rfl (z1 rfl rfl rfl) (zg rfl (ze (zf _ _ rfl rfl rfl ?_)))))))
  refine zl _ _ rfl rfl rfl rfl (fun hc2 => ?_) (fun hc2 => ?_)
  · replace hc2 := of_decide_eq_true hc2
    refine zy rfl (ze (zf _ _ rfl rfl rfl (zB _ rfl rfl (zf _ _ rfl rfl rfl (zb rfl ?_)))))
    obtain ⟨x1, hx1⟩ := za5 zN k (by omega)
    refine za rfl rfl (zbP (k := k) rfl rfl Tryz.runUnderlying53 Tryz.sizeOf9 (by first | rfl | omega) (zab hx1)) (za rfl rfl (p_load_el1 rfl Tryz.isAgg9 rfl) (za rfl rfl (zd rfl) (zg rfl (ze (zf _ _ rfl rfl rfl (zb rfl (za rfl rfl (zc rfl) (za rfl rfl (zc rfl) (zj rfl rfl (zx [] _ [] rfl rfl (.cons ArgC.id (.cons ArgC.id .nil)) zp Tryz.call96 (HasPrefix_c s x1) (.inl rfl)) ?_)))))))))
    rintro _ _ ⟨_, ⟨rfl, rfl⟩, rfl⟩
    refine OpsD.norm [.bx g1 45 (.agg [dI 0, dI 0, .v (.string ByteArray.empty)])] rfl (zg rfl (ze ?_))
    refine zl _ _ rfl rfl rfl rfl (fun hc3 => ?_) (fun hc3 => ?_)
    · skip
      refine zf _ _ rfl rfl rfl (zb rfl (za rfl rfl (zc rfl) (za rfl rfl (zaa [0, 2] [.const (.int .i64 5), .tmp 15] (zv := (.agg #[(.int .i64 0), (.int .i64 0), (.string ByteArray.empty)])) rfl rfl (.cons (CellD.v rfl) (.cons CellD.s .nil)) (Tryz.runUnderlying45) Tryz.zeroValue45 zaq ⟨rfl, rfl, rfl, trivial⟩ rfl) (za rfl rfl (zc rfl) (za rfl rfl (zP rfl Tryz.runUnderlying9) (zj rfl rfl (zK (i := 0) (X' := .agg [dI 5, dI 0, .s x1]) rfl rfl rfl (CellD.agg) Tryz.sizeOf45 rfl rfl rfl) ?_))))))
      rintro _ _ ⟨rfl, rfl⟩
      refine OpsD.norm [.bx g1 45 (.agg [dI 5, dI 0, .s x1])] rfl (za rfl rfl (zd rfl) (zg rfl (ze (zu rfl (zn (zq (zam (zn (zq ?_)))))))))
      exact zk Tryz.results66 (.cons (zC (zad (X := .agg [dI 5, dI 0, .s x1]) (d := .agg [dI 5, dI 0, .s x1]) (i := 0) rfl rfl Tryz.isAgg45 Tryz.sizeOf45 rfl rfl) (Cv.eq (congrArg TokD.d (show (TokD.mk 5 0 x1) = (zbi (bl8 s)).1 from (by unfold zbi; rw [signIn_at hx1 hf (by simpa using hc3)]; try rfl))))) (.cons (zC (zo rfl) (Cv.eq (congrArg dN (by unfold zbi; rw [signIn_at hx1 hf (by simpa using hc3)]; try rfl)))) .nil)) rfl HSub.none ⟨rfl, rfl⟩
    · skip
      refine zy rfl (zG (ze (zb rfl (za rfl rfl (z7 (c := ((k + 1 : Nat) : Int)) rfl rfl (zX (by omega) (by omega))) (za rfl rfl (zc rfl) (zg rfl ?_))))))
      exact zZ (k + 1) ⟨sk rfl, sk rfl, sk rfl, sk rfl, sk rfl, trivial⟩ HSub.rfl' (signIn_next hx1 hf (by simpa using hc3)) (by omega)
  · replace hc2 := of_decide_eq_false hc2
    refine zO rfl (zD (zz (zw (ze (zf _ _ rfl rfl rfl (zb rfl (za rfl rfl (zaa [] [] (zv := (.agg #[(.int .i64 0), (.int .i64 0), (.string ByteArray.empty)])) rfl rfl (.nil) (Tryz.runUnderlying45) Tryz.zeroValue45 zaq ⟨rfl, rfl, rfl, trivial⟩ rfl) (zj rfl rfl (zK (i := 0) (X' := .agg [dI 0, dI 0, .v (.string ByteArray.empty)]) rfl rfl rfl (CellD.agg) Tryz.sizeOf45 rfl rfl rfl) ?_))))))))
    rintro _ _ ⟨rfl, rfl⟩
    refine OpsD.norm [.bx g1 45 (.agg [dI 0, dI 0, .v (.string ByteArray.empty)])] rfl (za rfl rfl (zd rfl) (zg rfl (ze (zu rfl ?_))))
    exact zk Tryz.results66 (.cons (zC (zad (X := .agg [dI 0, dI 0, .v (.string ByteArray.empty)]) (d := .agg [dI 0, dI 0, .v (.string ByteArray.empty)]) (i := 0) rfl rfl Tryz.isAgg45 Tryz.sizeOf45 rfl rfl) ((Cv.agg (.cons Cv.rfl' (.cons Cv.rfl' (.cons ((Cv.str (by first | decide | (unfold maxLen; omega)))) .nil)))).trans (Cv.eq (congrArg TokD.d (show (TokD.mk 0 0 ByteArray.empty) = (zbi (bl8 s)).1 from (by unfold zbi; rw [signIn_end hf (by omega)]; try rfl)))))) (.cons (zC (zo rfl) (Cv.eq (congrArg dN (by unfold zbi; rw [signIn_end hf (by omega)]; try rfl)))) .nil)) rfl HSub.none ⟨rfl, rfl⟩
end Lp
