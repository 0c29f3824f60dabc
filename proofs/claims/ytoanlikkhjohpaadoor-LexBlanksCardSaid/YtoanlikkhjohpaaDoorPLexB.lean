/-
  What is said of words (chapter 7), as plain data.
-/
import Derived.Test.YtoanlikkhjohpaaDoorV41
set_option linter.unusedVariables false
namespace Lp
open Go
/-! ### what stands behind -/
/-- nothing, or a blank -/
def Stop (r : List UInt8) : Prop := r = [] ∨ ∃ b t, r = b :: t ∧ (b = 32 ∨ b = 9 ∨ b = 10)
theorem zco {l r : List UInt8} {k : Nat} (h : k < l.length) : gb (l ++ r) k = gb l k := by
  unfold gb; rw [List.getD_eq_getElem?_getD, List.getD_eq_getElem?_getD, List.getElem?_append_left h]
theorem gb_far {l r : List UInt8} (hr : Stop r) : gb (l ++ r) l.length < 128 := by
  unfold gb
  rw [List.getD_eq_getElem?_getD, List.getElem?_append_right (Nat.le_refl _), Nat.sub_self]
  rcases hr with rfl | ⟨b, t, rfl, h⟩
  · simp
  · rcases h with rfl | rfl | rfl <;> simp
theorem cont_app {l r : List UInt8} {k : Nat} (hr : Stop r) (h : k ≤ l.length) : zaK (l ++ r) k = zaK l k := by
  rcases Nat.lt_or_ge k l.length with hk | hk
  · unfold zaK; rw [zco hk, List.length_append]
    congr 1; rw [decide_eq_decide]; omega
  · obtain rfl : k = l.length := by omega
    have h2 := gb_far (l := l) hr
    have e1 : zaK (l ++ r) l.length = false := by
      unfold zaK
      have : ¬ gb (l ++ r) l.length / 64 = 2 := by omega
      simp [this]
    have e2 : zaK l l.length = false := by unfold zaK; simp
    rw [e1, e2]
theorem cont_lt' {l : List UInt8} {k : Nat} (h : zaK l k = true) : k < l.length := by unfold zaK at h; simp at h; exact h.1
theorem decL_app {l r : List UInt8} (hl : l ≠ []) (hr : Stop r) : decL (l ++ r) = decL l := by
  have hp := List.length_pos_iff.2 hl
  have g0 := zco (l := l) (r := r) hp
  have c1 := cont_app (l := l) hr (k := 1) (by omega)
  unfold decL
  rw [g0, c1]
  by_cases h1 : zaK l 1 = true
  · have l1 := cont_lt' h1
    have g1 := zco (l := l) (r := r) l1
    have c2 := cont_app (l := l) hr (k := 2) (by omega)
    rw [g1, c2]
    by_cases h2 : zaK l 2 = true
    · have l2 := cont_lt' h2
      have g2 := zco (l := l) (r := r) l2
      have c3 := cont_app (l := l) hr (k := 3) (by omega)
      rw [g2, c3]
      by_cases h3 : zaK l 3 = true
      · have l3 := cont_lt' h3
        rw [zco (l := l) (r := r) l3]
      · have h3 : zaK l 3 = false := by simpa using h3
        simp only [h3, Bool.and_false, Bool.false_eq_true, if_false]
    · have h2 : zaK l 2 = false := by simpa using h2
      simp only [h2, Bool.and_false, Bool.false_and, Bool.false_eq_true, if_false]
  · have h1 : zaK l 1 = false := by simpa using h1
    simp only [h1, Bool.and_false, Bool.false_and, Bool.false_eq_true, if_false]
theorem decL_ascii {b : UInt8} {t : List UInt8} (h : b.toNat < 128) : decL (b :: t) = (b.toNat, 1) := by
  unfold decL
  have : gb (b :: t) 0 = b.toNat := rfl
  rw [this, if_pos h]
theorem stop_dec {r : List UInt8} (hr : Stop r) (hn : r ≠ []) : zM ((decL r).1 : Int) = 3 := by
  rcases hr with rfl | ⟨b, t, rfl, h⟩
  · exact absurd rfl hn
  · rw [decL_ascii (by rcases h with rfl | rfl | rfl <;> decide)]
    rcases h with rfl | rfl | rfl <;> decide
theorem stop_run {r : List UInt8} (hr : Stop r) {ks : List Int} (h : (3 : Int) ∉ ks) : runL (inK ks) r = 0 := by
  by_cases hn : r = []
  · rw [hn, zbz]
  · refine zbL ?_
    unfold inK; rw [List.any_eq_false]
    intro k hk
    rw [stop_dec hr hn]; intro e; rw [decide_eq_true_eq] at e; exact h (e ▸ hk)
/-- with something behind that is not of the kinds, a run is what it was; else it goes on -/
theorem runL_app {f : Int → Bool} {r : List UInt8} (hr : Stop r) : ∀ (n : Nat) (l : List UInt8), l.length = n → runL f (l ++ r) = runL f l + (if runL f l = l.length then runL f r else 0) := by
  intro n
  induction n using Nat.strongRecOn with
  | _ n ih =>
    intro l hl
    by_cases h : l = []
    · subst h; rw [zbz]; simp
    · have hd := decL_app h hr
      have hle := zcb h
      have hpos := za5 l
      by_cases hf : f ((decL l).1 : Int) = true
      · rw [zaT (by simp [h]) (by rw [hd]; exact hf), hd, List.drop_append_of_le_length hle, ih (l.length - (decL l).2) (by omega) _ List.length_drop, zaT h hf]
        have e : (runL f (l.drop (decL l).2) = (l.drop (decL l).2).length) = ((decL l).2 + runL f (l.drop (decL l).2) = l.length) := by
          rw [List.length_drop, eq_iff_iff]; omega
        simp only [e]; omega
      · have hf : f ((decL l).1 : Int) = false := by simpa using hf
        rw [zbL (by rw [hd]; exact hf), zbL hf, if_neg (by have := List.length_pos_iff.2 h; omega)]
theorem runL_stop {ks : List Int} {l r : List UInt8} (hr : Stop r) (h : (3 : Int) ∉ ks) : runL (inK ks) (l ++ r) = runL (inK ks) l := by
  rw [runL_app hr _ l rfl, stop_run hr h]; split <;> rfl
theorem take_run {f : Int → Bool} {l r : List UInt8} : (l ++ r).take (runL f l) = l.take (runL f l) := List.take_append_of_le_length (zaB f l)
theorem qscan_eq {b : Bool} {l : List UInt8} (h : l ≠ []) : z7 b l = if b = true then (z7 false (l.drop (decL l).2)).map (· + (decL l).2)
  else if (decL l).1 = 92 then (z7 true (l.drop (decL l).2)).map (· + (decL l).2)
  else if (decL l).1 = 34 then some 0
  else (z7 false (l.drop (decL l).2)).map (· + (decL l).2) := by
  conv => lhs; unfold z7
  rw [dif_neg h]
theorem qscan_nil {b : Bool} : z7 b [] = none := by unfold z7; rw [dif_pos rfl]
theorem qscan_lt : ∀ (n : Nat) (l : List UInt8) (b : Bool) (i : Nat), l.length = n → z7 b l = some i → i < l.length := by
  intro n
  induction n using Nat.strongRecOn with
  | _ n ih =>
    intro l b i hl h
    by_cases hn : l = []
    · subst hn; rw [qscan_nil] at h; cases h
    · have h1 := za5 l
      have h2 := zcb hn
      have key : ∀ (b' : Bool), (z7 b' (l.drop (decL l).2)).map (· + (decL l).2) = some i → i < l.length := by
        intro b' h
        cases e : z7 b' (l.drop (decL l).2) with
        | none => rw [e] at h; cases h
        | some j =>
          rw [e] at h; injection h with h
          have := ih (l.length - (decL l).2) (by omega) _ b' j List.length_drop e
          rw [List.length_drop] at this
          have h : j + (decL l).2 = i := h
          omega
      rw [qscan_eq hn] at h
      split at h
      · exact key _ h
      · split at h
        · exact key _ h
        · split at h
          · injection h with h; omega
          · exact key _ h
theorem qscan_app {r : List UInt8} (hr : Stop r) : ∀ (n : Nat) (l : List UInt8) (b : Bool) (i : Nat), l.length = n → z7 b l = some i → z7 b (l ++ r) = some i := by
  intro n
  induction n using Nat.strongRecOn with
  | _ n ih =>
    intro l b i hl h
    by_cases hn : l = []
    · subst hn; rw [qscan_nil] at h; cases h
    · have hd := decL_app hn hr
      have h1 := za5 l
      have h2 := zcb hn
      have key : ∀ (b' : Bool), (z7 b' (l.drop (decL l).2)).map (· + (decL l).2) = some i → (z7 b' (l.drop (decL l).2 ++ r)).map (· + (decL l).2) = some i := by
        intro b' h
        cases e : z7 b' (l.drop (decL l).2) with
        | none => rw [e] at h; cases h
        | some j => rw [e] at h; rw [ih (l.length - (decL l).2) (by omega) _ b' j List.length_drop e]; exact h
      rw [qscan_eq hn] at h
      rw [qscan_eq (by simp [hn]), hd, List.drop_append_of_le_length h2]
      split
      · rw [if_pos (by assumption)] at h; exact key _ h
      · rw [if_neg (by assumption)] at h
        split
        · rw [if_pos (by assumption)] at h; exact key _ h
        · rw [if_neg (by assumption)] at h
          split
          · rw [if_pos (by assumption)] at h; exact h
          · rw [if_neg (by assumption)] at h; exact key _ h
theorem prefix_app {x l r : List UInt8} (hr : Stop r) (hx : ∀ b ∈ x, b ≠ 32 ∧ b ≠ 9 ∧ b ≠ 10) : x.isPrefixOf (l ++ r) = x.isPrefixOf l := by
  rw [Bool.eq_iff_iff, List.isPrefixOf_iff_prefix, List.isPrefixOf_iff_prefix]
  constructor
  · rintro ⟨t, ht⟩
    rcases Nat.lt_or_ge l.length x.length with h | h
    · exfalso
      have e : x[l.length]? = (l ++ r)[l.length]? := by rw [← ht, List.getElem?_append_left h]
      rw [List.getElem?_append_right (Nat.le_refl _), Nat.sub_self] at e
      rw [List.getElem?_eq_getElem h] at e
      rcases hr with rfl | ⟨b, t', rfl, hb⟩
      · simp at e
      · have e : x[l.length] = b := by simpa using e
        have := hx _ (e ▸ List.getElem_mem h)
        rcases hb with hb | hb | hb
        · exact this.1 hb
        · exact this.2.1 hb
        · exact this.2.2 hb
    · refine ⟨l.drop x.length, ?_⟩
      have e1 : x = l.take x.length := by
        have := congrArg (List.take x.length) ht
        rw [List.take_left', List.take_append_of_le_length h] at this
        · exact this
        · rfl
      conv => lhs; lhs; rw [e1]
      exact List.take_append_drop _ _
  · rintro ⟨t, rfl⟩; exact ⟨t ++ r, by simp⟩
theorem signs_plain : ∀ x ∈ z1, ∀ b ∈ bl8 x, b ≠ 32 ∧ b ≠ 9 ∧ b ≠ 10 := by decide
theorem signIn_app {l r : List UInt8} (hr : Stop r) : ∀ (xs : List ByteArray), (∀ x ∈ xs, ∀ b ∈ bl8 x, b ≠ 32 ∧ b ≠ 9 ∧ b ≠ 10) → zam xs (l ++ r) = zam xs l
  | [], _ => rfl
  | x :: xs, h => by
    unfold zam
    rw [prefix_app hr (h x List.mem_cons_self), signIn_app hr xs (fun y hy => h y (List.mem_cons_of_mem _ hy))]
theorem signIn_size : ∀ (xs : List ByteArray) (l : List UInt8), (zam xs l).2 ≤ l.length
  | [], l => Nat.zero_le _
  | x :: xs, l => by
    unfold zam; split
    · rename_i h
      rw [List.isPrefixOf_iff_prefix] at h
      have := h.length_le
      rw [zW] at this; exact this
    · exact signIn_size xs l
theorem numT_app {l r : List UInt8} (hr : Stop r) : numT (l ++ r) = numT l := by
  have h1 : runL isD (l ++ r) = runL isD l := runL_stop hr (by decide)
  have h2 : runL isLD (l ++ r) = runL isLD l := runL_stop hr (by decide)
  have h3 : (l ++ r).take (runL isD l) = l.take (runL isD l) := take_run
  have h4 : (l ++ r).take (runL isLD l) = l.take (runL isLD l) := take_run
  unfold numT; rw [h1, h2, h3, h4]
theorem strT_app {l r : List UInt8} (hr : Stop r) (h0 : (strT l).2 ≠ 0) : strT (l ++ r) = strT l := by
  cases e : z7 true l with
  | none => unfold strT at h0; rw [e] at h0; exact absurd rfl h0
  | some i =>
    have h1 := qscan_app hr _ l true i rfl e
    have h2 := qscan_lt _ l true i rfl e
    unfold strT; rw [h1, e]
    simp only [List.take_append_of_le_length (show i + 1 ≤ l.length by omega)]
theorem firstT_app {l r : List UInt8} (hl : l ≠ []) (hr : Stop r) (h0 : (zn l).2 ≠ 0) : zn (l ++ r) = zn l := by
  have hd := decL_app hl hr
  unfold zn at h0 ⊢
  rw [hd]
  split
  · have h2 : runL isLD (l ++ r) = runL isLD l := runL_stop hr (by decide)
    have h4 : (l ++ r).take (runL isLD l) = l.take (runL isLD l) := take_run
    unfold zaF; rw [h2, h4]
  · split
    · exact numT_app hr
    · split
      · rename_i a b c
        rw [if_neg a, if_neg b, if_pos c] at h0
        exact strT_app hr h0
      · exact signIn_app hr _ signs_plain
theorem firstT_le {l : List UInt8} : (zn l).2 ≤ l.length := by
  unfold zn
  split
  · unfold zaF; split
    · exact zaB _ _
    · exact Nat.zero_le _
  · split
    · unfold numT; split
      · exact Nat.zero_le _
      · split
        · exact zaB _ _
        · split
          · exact Nat.zero_le _
          · exact zaB _ _
    · split
      · cases e : z7 true l with
        | none => unfold strT; rw [e]; exact Nat.zero_le _
        | some i =>
          have h2 := qscan_lt _ l true i rfl e
          unfold strT; rw [e]
          show (match unqB (mkB (l.take (i + 1))) with | none => (zbw, 0) | some t => ((⟨3, 0, t⟩ : TokD), i + 1)).2 ≤ _
          split
          · exact Nat.zero_le _
          · exact h2
      · exact signIn_size _ _
/-! ### words, and what stands behind them -/
theorem run_blank_all {g : List UInt8} (hg : ∀ b ∈ g, b = 32 ∨ b = 9 ∨ b = 10) (x : List UInt8) : runL isB (g ++ x) = g.length + runL isB x := by
  induction g with
  | nil => simp
  | cons b t ih =>
    have hb := hg b List.mem_cons_self
    have hlt : b.toNat < 128 := by rcases hb with rfl | rfl | rfl <;> decide
    have hk : isB ((decL (b :: (t ++ x))).1 : Int) = true := by
      rw [decL_ascii hlt]
      rcases hb with rfl | rfl | rfl <;> decide
    rw [List.cons_append, zaT (by simp) hk, decL_ascii hlt]
    show 1 + runL isB (t ++ x) = _
    rw [ih (fun c hc => hg c (List.mem_cons_of_mem _ hc)), List.length_cons]; omega
theorem wordsL_blank {g : List UInt8} (hg : ∀ b ∈ g, b = 32 ∨ b = 9 ∨ b = 10) (x : List UInt8) (a : Nat) : zP (g ++ x) a = zP x (a + g.length) := by
  rw [zaU (n := g.length + x.length) (by simp), zaU (n := g.length + x.length) (by simp), run_blank_all hg]
  rw [← List.drop_drop, List.drop_left]
  congr 1; omega
theorem drop_run_app {f : Int → Bool} {l r : List UInt8} : (l ++ r).drop (runL f l) = l.drop (runL f l) ++ r := List.drop_append_of_le_length (zaB f l)
/-- words, and further ones behind them -/
theorem wordsL_app {r : List UInt8} (hr : Stop r) : ∀ (n : Nat) (l : List UInt8) (a : Nat) (ts : List TokD), l.length = n → zP l a = some ts → zP (l ++ r) a = (zP r (a + l.length)).map (ts ++ ·) := by
  intro n
  induction n using Nat.strongRecOn with
  | _ n ih =>
    intro l a ts hn h
    have hb := runL_app (f := isB) hr _ l rfl
    by_cases hall : runL isB l = l.length
    · rw [if_pos hall, hall] at hb
      have e0 : l.drop (runL isB l) = [] := by rw [List.drop_eq_nil_iff]; omega
      have ht : ts = [] := by
        unfold zP at h; rw [e0, zal] at h; injection h with h; exact h.symm
      subst ht
      rw [zaU (n := (l ++ r).length) (Nat.le_refl _), zaU (n := (l ++ r).length) (l := r) (by simp), hb]
      rw [← List.drop_drop, List.drop_left]
      rw [show a + (l.length + runL isB r) = a + l.length + runL isB r by omega]
      simp
    · rw [if_neg hall, Nat.add_zero] at hb
      have hrl := zaB isB l
      have hne : l.drop (runL isB l) ≠ [] := by rw [Ne, List.drop_eq_nil_iff]; omega
      generalize hm : l.drop (runL isB l) = m at hne
      have hml : m.length = l.length - runL isB l := by rw [← hm, List.length_drop]
      have e1 : zP (l ++ r) a = zao (l ++ r).length (m ++ r) (a + runL isB l) := by
        rw [zaU (n := (l ++ r).length) (Nat.le_refl _), hb, drop_run_app, hm]
      have h0 : (zn m).2 ≠ 0 := by
        intro h0
        unfold zP at h; rw [hm, zaR hne h0] at h; cases h
      have hf := firstT_app hne hr h0
      have hfl := firstT_le (l := m)
      have h' : zao l.length m (a + runL isB l) = some ts := by unfold zP at h; rw [hm] at h; exact h
      rw [zap hne h0 (by omega)] at h'
      rw [e1, zap (by simp [hne]) (by rw [hf]; exact h0) (by simp only [List.length_append]; omega), hf, List.drop_append_of_le_length hfl]
      cases e2 : zP (m.drop (zn m).2) (a + runL isB l + (zn m).2) with
      | none => rw [e2] at h'; cases h'
      | some ts2 =>
        rw [e2] at h'
        have h' : (zn m).1.put (a + runL isB l) :: ts2 = ts := by injection h'
        rw [ih (m.drop (zn m).2).length (by rw [List.length_drop]; omega) _ _ ts2 rfl e2, ← h']
        have e3 : a + runL isB l + (zn m).2 + (m.drop (zn m).2).length = a + l.length := by rw [List.length_drop]; omega
        rw [e3]
        cases zP r (a + l.length) <;> simp
/-- words stand where they begin -/
def TokD.by (x : TokD) (c : Nat) : TokD := ⟨x.k, x.a + (c : Int), x.t⟩
theorem wordsL_by (c : Nat) : ∀ (n : Nat) (l : List UInt8) (a : Nat), l.length = n → zP l (a + c) = (zP l a).map (·.map (·.by c)) := by
  intro n
  induction n using Nat.strongRecOn with
  | _ n ih =>
    intro l a hn
    have hrl := zaB isB l
    generalize hm : l.drop (runL isB l) = m
    have hml : m.length = l.length - runL isB l := by rw [← hm, List.length_drop]
    unfold zP
    rw [hm]
    by_cases hne : m = []
    · subst hne; rw [zal, zal]; rfl
    · by_cases h0 : (zn m).2 = 0
      · rw [zaR hne h0, zaR hne h0]; rfl
      · have hpos := List.length_pos_iff.2 hne
        rw [zap hne h0 (by omega), zap hne h0 (by omega)]
        have e : a + c + runL isB l + (zn m).2 = a + runL isB l + (zn m).2 + c := by omega
        rw [e, ih (m.drop (zn m).2).length (by rw [List.length_drop]; omega) _ _ rfl]
        have e2 : (zn m).1.put (a + c + runL isB l) = ((zn m).1.put (a + runL isB l)).by c := by
          unfold TokD.put TokD.by; congr 1
          show ((a + c + runL isB l : Nat) : Int) = ((a + runL isB l : Nat) : Int) + (c : Int)
          omega
        rw [e2]
        cases zP (m.drop (zn m).2) (a + runL isB l + (zn m).2) <;> simp
end Lp
/-
  Blanks between the words of a text.
-/
set_option linter.unusedVariables false
namespace Lp
open Go
/-! ### where words stand -/
theorem firstT_zero_cases {n : Nat} : ∀ (l : List UInt8) (a : Nat) (ts : List TokD), l.length = n → zP l a = some ts → ts.length ≤ l.length ∧ ∀ x ∈ ts, (a : Int) ≤ x.a ∧ x.a ≤ ((a + l.length : Nat) : Int) := by
  induction n using Nat.strongRecOn with
  | _ n ih =>
    intro l a ts hn h
    have hrl := zaB isB l
    generalize hm : l.drop (runL isB l) = m at *
    have hml : m.length = l.length - runL isB l := by rw [← hm, List.length_drop]
    unfold zP at h
    rw [hm] at h
    by_cases hne : m = []
    · subst hne; rw [zal] at h; injection h with h; subst h
      exact ⟨Nat.zero_le _, fun x hx => absurd hx (by simp)⟩
    · by_cases h0 : (zn m).2 = 0
      · rw [zaR hne h0] at h; cases h
      · have hpos := List.length_pos_iff.2 hne
        have hfl := firstT_le (l := m)
        rw [zap hne h0 (by omega)] at h
        cases e : zP (m.drop (zn m).2) (a + runL isB l + (zn m).2) with
        | none => rw [e] at h; cases h
        | some t2 =>
          rw [e] at h
          have h : (zn m).1.put (a + runL isB l) :: t2 = ts := by injection h
          have := ih (m.drop (zn m).2).length (by rw [List.length_drop]; omega) _ _ t2 rfl e
          rw [List.length_drop] at this
          subst h
          refine ⟨by simp only [List.length_cons]; omega, fun x hx => ?_⟩
          rcases List.mem_cons.1 hx with rfl | hx
          · show (a : Int) ≤ ((a + runL isB l : Nat) : Int) ∧ ((a + runL isB l : Nat) : Int) ≤ _
            omega
          · have := this.2 x hx; omega
theorem lexE_0 {s : ByteArray} (h : lexE s = 0) : ¬ 600 < s.size ∧ zP (bl8 s) 0 = some (lexL s) := by
  unfold lexE at h
  by_cases hs : 600 < s.size
  · rw [if_pos hs] at h; omega
  · rw [if_neg hs] at h
    refine ⟨hs, ?_⟩
    cases e : zP (bl8 s) 0 with
    | none => rw [e] at h; simp at h
    | some ts => unfold lexL; rw [if_neg hs, e]; rfl
theorem lexE_cases (s : ByteArray) : lexE s = 0 ∨ lexE s = 1 ∨ lexE s = 2 := by
  unfold lexE; split
  · omega
  · split <;> omega
theorem lex_none {s : ByteArray} (h : ¬ lexE s = 0) : lexL s = [] := by
  unfold lexE at h; unfold lexL
  by_cases hs : 600 < s.size
  · rw [if_pos hs]
  · rw [if_neg hs] at h ⊢
    cases e : zP (bl8 s) 0 with
    | none => rfl
    | some ts => rw [e] at h; simp at h
theorem lexL_len (s : ByteArray) : (lexL s).length ≤ s.size := by
  by_cases h : lexE s = 0
  · have := (firstT_zero_cases (bl8 s) 0 _ rfl (lexE_0 h).2).1
    rw [zW] at this; exact this
  · rw [lex_none h]; exact Nat.zero_le _
theorem lexL_pos {s : ByteArray} {x : TokD} (hx : x ∈ lexL s) : 0 ≤ x.a ∧ x.a ≤ (s.size : Int) := by
  by_cases h : lexE s = 0
  · have := (firstT_zero_cases (bl8 s) 0 _ rfl (lexE_0 h).2).2 x hx
    rw [zW] at this; omega
  · rw [lex_none h] at hx; exact absurd hx (by simp)
theorem lex_of {s : ByteArray} {ts : List TokD} (h : s.size ≤ 600) (hw : zP (bl8 s) 0 = some ts) : lexL s = ts ∧ lexE s = 0 := by
  have h' : ¬ 600 < s.size := by omega
  unfold lexL lexE; rw [if_neg h', if_neg h', hw]; exact ⟨rfl, rfl⟩
/-! ### the blanks -/
def gapL : Nat → List UInt8
  | 0 => []
  | k + 1 => gapL k ++ [if k % 3 = 0 then 32 else if k % 3 = 1 then 9 else 10]
def gapB (n : Nat) : ByteArray := mkB (gapL n)
theorem zca : ∀ n, (gapL n).length = n
  | 0 => rfl
  | n + 1 => by unfold gapL; rw [List.length_append, zca n]; rfl
theorem zbr (n : Nat) : (gapB n).size = n := by unfold gapB; rw [zaJ, zca]
theorem zbG : ∀ n, ∀ b ∈ gapL n, b = 32 ∨ b = 9 ∨ b = 10
  | 0, b, h => by simp [gapL] at h
  | n + 1, b, h => by
    unfold gapL at h
    rcases List.mem_append.1 h with h | h
    · exact zbG n b h
    · have h := List.mem_singleton.1 h
      split at h
      · exact .inl h
      · split at h
        · exact .inr (.inl h)
        · exact .inr (.inr h)
theorem gap_stop {n : Nat} (h : 1 ≤ n) (r : List UInt8) : Stop (gapL n ++ r) := by
  refine .inr ?_
  cases e : gapL n with
  | nil => have := zca n; rw [e] at this; simp at this; omega
  | cons b t => exact ⟨b, t ++ r, rfl, zbG n b (by rw [e]; exact List.mem_cons_self)⟩
theorem zcd (a b : ByteArray) : bl8 (a ++ b) = bl8 a ++ bl8 b := by simp [bl8]
theorem gap_zero : ByteArray.empty = gapB 0 := rfl
theorem gap_next {i : Nat} : gapB i ++ (⟨#[32, 9, 10]⟩ : ByteArray).extract (i % 3) (i % 3 + 1) = gapB (i + 1) := by
  have h3 : i % 3 = 0 ∨ i % 3 = 1 ∨ i % 3 = 2 := by omega
  have key : bl8 ((⟨#[32, 9, 10]⟩ : ByteArray).extract (i % 3) (i % 3 + 1)) = [if i % 3 = 0 then 32 else if i % 3 = 1 then 9 else 10] := by
    rcases h3 with h | h | h <;> rw [h] <;> decide
  rw [← zcl (gapB i ++ _), zcd, key]
  show mkB (bl8 (mkB (gapL i)) ++ _) = mkB (gapL (i + 1))
  rw [zbv]; rfl
theorem words_gap (n a : Nat) : zP (gapL n) a = some [] := by
  have := wordsL_blank (zbG n) [] a
  rw [List.append_nil] at this
  rw [this]
  unfold zP; rw [zbz]; exact zal
/-- words between blanks are the words -/
theorem lex_blanks {s t : ByteArray} {n : Nat} (hn : 1 ≤ n) (hsz : 3 * n + s.size + t.size ≤ 600) (hs : lexE s = 0) (ht : lexE t = 0) :
    lexL (gapB n ++ s ++ gapB n ++ t ++ gapB n) = (lexL s).map (·.by n) ++ (lexL t).map (·.by (2 * n + s.size)) ∧ lexE (gapB n ++ s ++ gapB n ++ t ++ gapB n) = 0 := by
  apply lex_of
  · simp only [ByteArray.size_append, zbr]; omega
  · have e1 := (lexE_0 hs).2
    have e2 := (lexE_0 ht).2
    have f1 := wordsL_by n _ (bl8 s) 0 rfl
    rw [e1] at f1
    have f2 := wordsL_by (2 * n + s.size) _ (bl8 t) 0 rfl
    rw [e2] at f2
    rw [zcd, zcd, zcd, zcd]
    have hg : bl8 (gapB n) = gapL n := zbv _
    rw [hg, List.append_assoc, List.append_assoc, List.append_assoc, wordsL_blank (zbG n), zca]
    rw [wordsL_app (by exact gap_stop hn _) _ (bl8 s) (0 + n) _ rfl f1]
    rw [wordsL_blank (zbG n), zca, zW]
    have e3 : 0 + n + s.size + n = 0 + (2 * n + s.size) := by omega
    have st : Stop (gapL n) := by have := gap_stop hn []; rwa [List.append_nil] at this
    rw [e3, wordsL_app st _ (bl8 t) _ _ rfl f2, words_gap]
    simp
theorem by_l {A B : List TokD} {f g : TokD → TokD} {L : List TokD} {i : Nat} {x y : TokD} (hL : L = A.map f ++ B.map g) (hx : L[i]? = some x) (hy : A[i]? = some y) : x = f y := by
  subst hL
  have hlt := (List.getElem?_eq_some_iff.1 hy).1
  rw [List.getElem?_append_left (by simpa using hlt), List.getElem?_map, hy] at hx
  injection hx with hx; exact hx.symm
theorem by_r {A B : List TokD} {f g : TokD → TokD} {L : List TokD} {i : Nat} {x y : TokD} (hL : L = A.map f ++ B.map g) (hx : L[i]? = some x) (hi : A.length ≤ i) (hy : B[i - A.length]? = some y) : x = g y := by
  subst hL
  rw [List.getElem?_append_right (by simpa using hi), List.length_map, List.getElem?_map, hy] at hx
  injection hx with hx; exact hx.symm
end Lp
