/-
  What is said of words (chapter 7), as plain data.
-/
import Derived.Test.YtoanlikkhjohpaaDoorV41
set_option linter.unusedVariables false
namespace Lp
open Go
/-! ### what stands behind -/
/-- nothing, or a blank -/
def Stop (r : List UInt8) : Prop := r = [] ∨ ∃ b t, r = b :: t ∧ (b = 32 ∨ b = 9 ∨ b = 10)
theorem zcW {l r : List UInt8} {k : Nat} (h : k < l.length) : gb (l ++ r) k = gb l k := by
  unfold gb; rw [List.getD_eq_getElem?_getD, List.getD_eq_getElem?_getD, List.getElem?_append_left h]
theorem gb_far {l r : List UInt8} (hr : Stop r) : gb (l ++ r) l.length < 128 := by
  unfold gb
  rw [List.getD_eq_getElem?_getD, List.getElem?_append_right (Nat.le_refl _), Nat.sub_self]
  rcases hr with rfl | ⟨b, t, rfl, h⟩
  · simp
  · rcases h with rfl | rfl | rfl <;> simp
theorem cont_app {l r : List UInt8} {k : Nat} (hr : Stop r) (h : k ≤ l.length) : zar (l ++ r) k = zar l k := by
  rcases Nat.lt_or_ge k l.length with hk | hk
  · unfold zar; rw [zcW hk, List.length_append]
    congr 1; rw [decide_eq_decide]; omega
  · obtain rfl : k = l.length := by omega
    have h2 := gb_far (l := l) hr
    have e1 : zar (l ++ r) l.length = false := by
      unfold zar
      have : ¬ gb (l ++ r) l.length / 64 = 2 := by omega
      simp [this]
    have e2 : zar l l.length = false := by unfold zar; simp
    rw [e1, e2]
theorem cont_lt' {l : List UInt8} {k : Nat} (h : zar l k = true) : k < l.length := by unfold zar at h; simp at h; exact h.1
theorem decL_app {l r : List UInt8} (hl : l ≠ []) (hr : Stop r) : decL (l ++ r) = decL l := by
  have hp := List.length_pos_iff.2 hl
  have g0 := zcW (l := l) (r := r) hp
  have c1 := cont_app (l := l) hr (k := 1) (by omega)
  unfold decL
  rw [g0, c1]
  by_cases h1 : zar l 1 = true
  · have l1 := cont_lt' h1
    have g1 := zcW (l := l) (r := r) l1
    have c2 := cont_app (l := l) hr (k := 2) (by omega)
    rw [g1, c2]
    by_cases h2 : zar l 2 = true
    · have l2 := cont_lt' h2
      have g2 := zcW (l := l) (r := r) l2
      have c3 := cont_app (l := l) hr (k := 3) (by omega)
      rw [g2, c3]
      by_cases h3 : zar l 3 = true
      · have l3 := cont_lt' h3
        rw [zcW (l := l) (r := r) l3]
      · have h3 : zar l 3 = false := by simpa using h3
        simp only [h3, Bool.and_false, Bool.false_eq_true, if_false]
    · have h2 : zar l 2 = false := by simpa using h2
      simp only [h2, Bool.and_false, Bool.false_and, Bool.false_eq_true, if_false]
  · have h1 : zar l 1 = false := by simpa using h1
    simp only [h1, Bool.and_false, Bool.false_and, Bool.false_eq_true, if_false]
theorem zaw {b : UInt8} {t : List UInt8} (h : b.toNat < 128) : decL (b :: t) = (b.toNat, 1) := by
  unfold decL
  have : gb (b :: t) 0 = b.toNat := rfl
  rw [this, if_pos h]
theorem stop_dec {r : List UInt8} (hr : Stop r) (hn : r ≠ []) : zE ((decL r).1 : Int) = 3 := by
  rcases hr with rfl | ⟨b, t, rfl, h⟩
  · exact absurd rfl hn
  · rw [zaw (by rcases h with rfl | rfl | rfl <;> decide)]
    rcases h with rfl | rfl | rfl <;> decide
theorem stop_run {r : List UInt8} (hr : Stop r) {ks : List Int} (h : (3 : Int) ∉ ks) : runL (inK ks) r = 0 := by
  by_cases hn : r = []
  · rw [hn, za5]
  · refine zbk ?_
    unfold inK; rw [List.any_eq_false]
    intro k hk
    rw [stop_dec hr hn]; intro e; rw [decide_eq_true_eq] at e; exact h (e ▸ hk)
/-- with something behind that is not of the kinds, a run is what it was; else it goes on -/
theorem runL_app {f : Int → Bool} {r : List UInt8} (hr : Stop r) : ∀ (n : Nat) (l : List UInt8), l.length = n → runL f (l ++ r) = runL f l + (if runL f l = l.length then runL f r else 0) := by
  intro n
  induction n using Nat.strongRecOn with
  | _ n ih =>
    intro l hl
    by_cases h : l = []
    · subst h; rw [za5]; simp
    · have hd := decL_app h hr
      have hle := zcE h
      have hpos := zbp l
      by_cases hf : f ((decL l).1 : Int) = true
      · rw [zaV (by simp [h]) (by rw [hd]; exact hf), hd, List.drop_append_of_le_length hle, ih (l.length - (decL l).2) (by omega) _ List.length_drop, zaV h hf]
        have e : (runL f (l.drop (decL l).2) = (l.drop (decL l).2).length) = ((decL l).2 + runL f (l.drop (decL l).2) = l.length) := by
          rw [List.length_drop, eq_iff_iff]; omega
        simp only [e]; omega
      · have hf : f ((decL l).1 : Int) = false := by simpa using hf
        rw [zbk (by rw [hd]; exact hf), zbk hf, if_neg (by have := List.length_pos_iff.2 h; omega)]
theorem runL_stop {ks : List Int} {l r : List UInt8} (hr : Stop r) (h : (3 : Int) ∉ ks) : runL (inK ks) (l ++ r) = runL (inK ks) l := by
  rw [runL_app hr _ l rfl, stop_run hr h]; split <;> rfl
theorem take_run {f : Int → Bool} {l r : List UInt8} : (l ++ r).take (runL f l) = l.take (runL f l) := List.take_append_of_le_length (zaK f l)
theorem zbl {b : Bool} {l : List UInt8} (h : l ≠ []) : zT b l = if b = true then (zT false (l.drop (decL l).2)).map (· + (decL l).2)
  else if (decL l).1 = 92 then (zT true (l.drop (decL l).2)).map (· + (decL l).2)
  else if (decL l).1 = 34 then some 0
  else (zT false (l.drop (decL l).2)).map (· + (decL l).2) := by
  conv => lhs; unfold zT
  rw [dif_neg h]
theorem qscan_nil {b : Bool} : zT b [] = none := by unfold zT; rw [dif_pos rfl]
theorem qscan_lt : ∀ (n : Nat) (l : List UInt8) (b : Bool) (i : Nat), l.length = n → zT b l = some i → i < l.length := by
  intro n
  induction n using Nat.strongRecOn with
  | _ n ih =>
    intro l b i hl h
    by_cases hn : l = []
    · subst hn; rw [qscan_nil] at h; cases h
    · have h1 := zbp l
      have h2 := zcE hn
      have key : ∀ (b' : Bool), (zT b' (l.drop (decL l).2)).map (· + (decL l).2) = some i → i < l.length := by
        intro b' h
        cases e : zT b' (l.drop (decL l).2) with
        | none => rw [e] at h; cases h
        | some j =>
          rw [e] at h; injection h with h
          have := ih (l.length - (decL l).2) (by omega) _ b' j List.length_drop e
          rw [List.length_drop] at this
          have h : j + (decL l).2 = i := h
          omega
      rw [zbl hn] at h
      split at h
      · exact key _ h
      · split at h
        · exact key _ h
        · split at h
          · injection h with h; omega
          · exact key _ h
theorem qscan_app {r : List UInt8} (hr : Stop r) : ∀ (n : Nat) (l : List UInt8) (b : Bool) (i : Nat), l.length = n → zT b l = some i → zT b (l ++ r) = some i := by
  intro n
  induction n using Nat.strongRecOn with
  | _ n ih =>
    intro l b i hl h
    by_cases hn : l = []
    · subst hn; rw [qscan_nil] at h; cases h
    · have hd := decL_app hn hr
      have h1 := zbp l
      have h2 := zcE hn
      have key : ∀ (b' : Bool), (zT b' (l.drop (decL l).2)).map (· + (decL l).2) = some i → (zT b' (l.drop (decL l).2 ++ r)).map (· + (decL l).2) = some i := by
        intro b' h
        cases e : zT b' (l.drop (decL l).2) with
        | none => rw [e] at h; cases h
        | some j => rw [e] at h; rw [ih (l.length - (decL l).2) (by omega) _ b' j List.length_drop e]; exact h
      rw [zbl hn] at h
      rw [zbl (by simp [hn]), hd, List.drop_append_of_le_length h2]
      split
      · rw [if_pos (by assumption)] at h; exact key _ h
      · rw [if_neg (by assumption)] at h
        split
        · rw [if_pos (by assumption)] at h; exact key _ h
        · rw [if_neg (by assumption)] at h
          split
          · rw [if_pos (by assumption)] at h; exact h
          · rw [if_neg (by assumption)] at h; exact key _ h
theorem prefix_app {x l r : List UInt8} (hr : Stop r) (hx : ∀ b ∈ x, b ≠ 32 ∧ b ≠ 9 ∧ b ≠ 10) : x.isPrefixOf (l ++ r) = x.isPrefixOf l := by
  rw [Bool.eq_iff_iff, List.isPrefixOf_iff_prefix, List.isPrefixOf_iff_prefix]
  constructor
  · rintro ⟨t, ht⟩
    rcases Nat.lt_or_ge l.length x.length with h | h
    · exfalso
      have e : x[l.length]? = (l ++ r)[l.length]? := by rw [← ht, List.getElem?_append_left h]
      rw [List.getElem?_append_right (Nat.le_refl _), Nat.sub_self] at e
      rw [List.getElem?_eq_getElem h] at e
      rcases hr with rfl | ⟨b, t', rfl, hb⟩
      · simp at e
      · have e : x[l.length] = b := by simpa using e
        have := hx _ (e ▸ List.getElem_mem h)
        rcases hb with hb | hb | hb
        · exact this.1 hb
        · exact this.2.1 hb
        · exact this.2.2 hb
    · refine ⟨l.drop x.length, ?_⟩
      have e1 : x = l.take x.length := by
        have := congrArg (List.take x.length) ht
        rw [List.take_left', List.take_append_of_le_length h] at this
        · exact this
        · rfl
      conv => lhs; lhs; rw [e1]
      exact List.take_append_drop _ _
  · rintro ⟨t, rfl⟩; exact ⟨t ++ r, by simp⟩
theorem signs_plain : ∀ x ∈ z8, ∀ b ∈ bl8 x, b ≠ 32 ∧ b ≠ 9 ∧ b ≠ 10 := by decide
theorem signIn_app {l r : List UInt8} (hr : Stop r) : ∀ (xs : List ByteArray), (∀ x ∈ xs, ∀ b ∈ bl8 x, b ≠ 32 ∧ b ≠ 9 ∧ b ≠ 10) → zan xs (l ++ r) = zan xs l
  | [], _ => rfl
  | x :: xs, h => by
    unfold zan
    rw [prefix_app hr (h x List.mem_cons_self), signIn_app hr xs (fun y hy => h y (List.mem_cons_of_mem _ hy))]
theorem signIn_size : ∀ (xs : List ByteArray) (l : List UInt8), (zan xs l).2 ≤ l.length
  | [], l => Nat.zero_le _
  | x :: xs, l => by
    unfold zan; split
    · rename_i h
      rw [List.isPrefixOf_iff_prefix] at h
      have := h.length_le
      rw [zZ] at this; exact this
    · exact signIn_size xs l
theorem numT_app {l r : List UInt8} (hr : Stop r) : numT (l ++ r) = numT l := by
  have h1 : runL isD (l ++ r) = runL isD l := runL_stop hr (by decide)
  have h2 : runL isLD (l ++ r) = runL isLD l := runL_stop hr (by decide)
  have h3 : (l ++ r).take (runL isD l) = l.take (runL isD l) := take_run
  have h4 : (l ++ r).take (runL isLD l) = l.take (runL isLD l) := take_run
  unfold numT; rw [h1, h2, h3, h4]
theorem strT_app {l r : List UInt8} (hr : Stop r) (h0 : (strT l).2 ≠ 0) : strT (l ++ r) = strT l := by
  cases e : zT true l with
  | none => unfold strT at h0; rw [e] at h0; exact absurd rfl h0
  | some i =>
    have h1 := qscan_app hr _ l true i rfl e
    have h2 := qscan_lt _ l true i rfl e
    unfold strT; rw [h1, e]
    simp only [List.take_append_of_le_length (show i + 1 ≤ l.length by omega)]
theorem firstT_app {l r : List UInt8} (hl : l ≠ []) (hr : Stop r) (h0 : (zk l).2 ≠ 0) : zk (l ++ r) = zk l := by
  have hd := decL_app hl hr
  unfold zk at h0 ⊢
  rw [hd]
  split
  · have h2 : runL isLD (l ++ r) = runL isLD l := runL_stop hr (by decide)
    have h4 : (l ++ r).take (runL isLD l) = l.take (runL isLD l) := take_run
    unfold zaS; rw [h2, h4]
  · split
    · exact numT_app hr
    · split
      · rename_i a b c
        rw [if_neg a, if_neg b, if_pos c] at h0
        exact strT_app hr h0
      · exact signIn_app hr _ signs_plain
theorem firstT_le {l : List UInt8} : (zk l).2 ≤ l.length := by
  unfold zk
  split
  · unfold zaS; split
    · exact zaK _ _
    · exact Nat.zero_le _
  · split
    · unfold numT; split
      · exact Nat.zero_le _
      · split
        · exact zaK _ _
        · split
          · exact Nat.zero_le _
          · exact zaK _ _
    · split
      · cases e : zT true l with
        | none => unfold strT; rw [e]; exact Nat.zero_le _
        | some i =>
          have h2 := qscan_lt _ l true i rfl e
          unfold strT; rw [e]
          show (match unqB (mkB (l.take (i + 1))) with | none => (zby, 0) | some t => ((⟨3, 0, t⟩ : TokD), i + 1)).2 ≤ _
          split
          · exact Nat.zero_le _
          · exact h2
      · exact signIn_size _ _
/-! ### words, and what stands behind them -/
theorem run_blank_all {g : List UInt8} (hg : ∀ b ∈ g, b = 32 ∨ b = 9 ∨ b = 10) (x : List UInt8) : runL isB (g ++ x) = g.length + runL isB x := by
  induction g with
  | nil => simp
  | cons b t ih =>
    have hb := hg b List.mem_cons_self
    have hlt : b.toNat < 128 := by rcases hb with rfl | rfl | rfl <;> decide
    have hk : isB ((decL (b :: (t ++ x))).1 : Int) = true := by
      rw [zaw hlt]
      rcases hb with rfl | rfl | rfl <;> decide
    rw [List.cons_append, zaV (by simp) hk, zaw hlt]
    show 1 + runL isB (t ++ x) = _
    rw [ih (fun c hc => hg c (List.mem_cons_of_mem _ hc)), List.length_cons]; omega
theorem wordsL_blank {g : List UInt8} (hg : ∀ b ∈ g, b = 32 ∨ b = 9 ∨ b = 10) (x : List UInt8) (a : Nat) : zK (g ++ x) a = zK x (a + g.length) := by
  rw [zbc (n := g.length + x.length) (by simp), zbc (n := g.length + x.length) (by simp), run_blank_all hg]
  rw [← List.drop_drop, List.drop_left]
  congr 1; omega
theorem drop_run_app {f : Int → Bool} {l r : List UInt8} : (l ++ r).drop (runL f l) = l.drop (runL f l) ++ r := List.drop_append_of_le_length (zaK f l)
/-- words, and further ones behind them -/
theorem wordsL_app {r : List UInt8} (hr : Stop r) : ∀ (n : Nat) (l : List UInt8) (a : Nat) (ts : List TokD), l.length = n → zK l a = some ts → zK (l ++ r) a = (zK r (a + l.length)).map (ts ++ ·) := by
  intro n
  induction n using Nat.strongRecOn with
  | _ n ih =>
    intro l a ts hn h
    have hb := runL_app (f := isB) hr _ l rfl
    by_cases hall : runL isB l = l.length
    · rw [if_pos hall, hall] at hb
      have e0 : l.drop (runL isB l) = [] := by rw [List.drop_eq_nil_iff]; omega
      have ht : ts = [] := by
        unfold zK at h; rw [e0, zak] at h; injection h with h; exact h.symm
      subst ht
      rw [zbc (n := (l ++ r).length) (Nat.le_refl _), zbc (n := (l ++ r).length) (l := r) (by simp), hb]
      rw [← List.drop_drop, List.drop_left]
      rw [show a + (l.length + runL isB r) = a + l.length + runL isB r by omega]
      simp
    · rw [if_neg hall, Nat.add_zero] at hb
      have hrl := zaK isB l
      have hne : l.drop (runL isB l) ≠ [] := by rw [Ne, List.drop_eq_nil_iff]; omega
      generalize hm : l.drop (runL isB l) = m at hne
      have hml : m.length = l.length - runL isB l := by rw [← hm, List.length_drop]
      have e1 : zK (l ++ r) a = zau (l ++ r).length (m ++ r) (a + runL isB l) := by
        rw [zbc (n := (l ++ r).length) (Nat.le_refl _), hb, drop_run_app, hm]
      have h0 : (zk m).2 ≠ 0 := by
        intro h0
        unfold zK at h; rw [hm, zaY hne h0] at h; cases h
      have hf := firstT_app hne hr h0
      have hfl := firstT_le (l := m)
      have h' : zau l.length m (a + runL isB l) = some ts := by unfold zK at h; rw [hm] at h; exact h
      rw [zam hne h0 (by omega)] at h'
      rw [e1, zam (by simp [hne]) (by rw [hf]; exact h0) (by simp only [List.length_append]; omega), hf, List.drop_append_of_le_length hfl]
      cases e2 : zK (m.drop (zk m).2) (a + runL isB l + (zk m).2) with
      | none => rw [e2] at h'; cases h'
      | some ts2 =>
        rw [e2] at h'
        have h' : (zk m).1.put (a + runL isB l) :: ts2 = ts := by injection h'
        rw [ih (m.drop (zk m).2).length (by rw [List.length_drop]; omega) _ _ ts2 rfl e2, ← h']
        have e3 : a + runL isB l + (zk m).2 + (m.drop (zk m).2).length = a + l.length := by rw [List.length_drop]; omega
        rw [e3]
        cases zK r (a + l.length) <;> simp
/-- words stand where they begin -/
def TokD.by (x : TokD) (c : Nat) : TokD := ⟨x.k, x.a + (c : Int), x.t⟩
theorem wordsL_by (c : Nat) : ∀ (n : Nat) (l : List UInt8) (a : Nat), l.length = n → zK l (a + c) = (zK l a).map (·.map (·.by c)) := by
  intro n
  induction n using Nat.strongRecOn with
  | _ n ih =>
    intro l a hn
    have hrl := zaK isB l
    generalize hm : l.drop (runL isB l) = m
    have hml : m.length = l.length - runL isB l := by rw [← hm, List.length_drop]
    unfold zK
    rw [hm]
    by_cases hne : m = []
    · subst hne; rw [zak, zak]; rfl
    · by_cases h0 : (zk m).2 = 0
      · rw [zaY hne h0, zaY hne h0]; rfl
      · have hpos := List.length_pos_iff.2 hne
        rw [zam hne h0 (by omega), zam hne h0 (by omega)]
        have e : a + c + runL isB l + (zk m).2 = a + runL isB l + (zk m).2 + c := by omega
        rw [e, ih (m.drop (zk m).2).length (by rw [List.length_drop]; omega) _ _ rfl]
        have e2 : (zk m).1.put (a + c + runL isB l) = ((zk m).1.put (a + runL isB l)).by c := by
          unfold TokD.put TokD.by; congr 1
          show ((a + c + runL isB l : Nat) : Int) = ((a + runL isB l : Nat) : Int) + (c : Int)
          omega
        rw [e2]
        cases zK (m.drop (zk m).2) (a + runL isB l + (zk m).2) <;> simp
end Lp
/-
  Blanks between the words of a text.
-/
set_option linter.unusedVariables false
namespace Lp
open Go
/-! ### where words stand -/
theorem firstT_zero_cases {n : Nat} : ∀ (l : List UInt8) (a : Nat) (ts : List TokD), l.length = n → zK l a = some ts → ts.length ≤ l.length ∧ ∀ x ∈ ts, (a : Int) ≤ x.a ∧ x.a ≤ ((a + l.length : Nat) : Int) := by
  induction n using Nat.strongRecOn with
  | _ n ih =>
    intro l a ts hn h
    have hrl := zaK isB l
    generalize hm : l.drop (runL isB l) = m at *
    have hml : m.length = l.length - runL isB l := by rw [← hm, List.length_drop]
    unfold zK at h
    rw [hm] at h
    by_cases hne : m = []
    · subst hne; rw [zak] at h; injection h with h; subst h
      exact ⟨Nat.zero_le _, fun x hx => absurd hx (by simp)⟩
    · by_cases h0 : (zk m).2 = 0
      · rw [zaY hne h0] at h; cases h
      · have hpos := List.length_pos_iff.2 hne
        have hfl := firstT_le (l := m)
        rw [zam hne h0 (by omega)] at h
        cases e : zK (m.drop (zk m).2) (a + runL isB l + (zk m).2) with
        | none => rw [e] at h; cases h
        | some t2 =>
          rw [e] at h
          have h : (zk m).1.put (a + runL isB l) :: t2 = ts := by injection h
          have := ih (m.drop (zk m).2).length (by rw [List.length_drop]; omega) _ _ t2 rfl e
          rw [List.length_drop] at this
          subst h
          refine ⟨by simp only [List.length_cons]; omega, fun x hx => ?_⟩
          rcases List.mem_cons.1 hx with rfl | hx
          · show (a : Int) ≤ ((a + runL isB l : Nat) : Int) ∧ ((a + runL isB l : Nat) : Int) ≤ _
            omega
          · have := this.2 x hx; omega
theorem lexE_0 {s : ByteArray} (h : lexE s = 0) : ¬ 600 < s.size ∧ zK (bl8 s) 0 = some (lexL s) := by
  unfold lexE at h
  by_cases hs : 600 < s.size
  · rw [if_pos hs] at h; omega
  · rw [if_neg hs] at h
    refine ⟨hs, ?_⟩
    cases e : zK (bl8 s) 0 with
    | none => rw [e] at h; simp at h
    | some ts => unfold lexL; rw [if_neg hs, e]; rfl
theorem lex_none {s : ByteArray} (h : ¬ lexE s = 0) : lexL s = [] := by
  unfold lexE at h; unfold lexL
  by_cases hs : 600 < s.size
  · rw [if_pos hs]
  · rw [if_neg hs] at h ⊢
    cases e : zK (bl8 s) 0 with
    | none => rfl
    | some ts => rw [e] at h; simp at h
theorem lexL_len (s : ByteArray) : (lexL s).length ≤ s.size := by
  by_cases h : lexE s = 0
  · have := (firstT_zero_cases (bl8 s) 0 _ rfl (lexE_0 h).2).1
    rw [zZ] at this; exact this
  · rw [lex_none h]; exact Nat.zero_le _
theorem lex_of {s : ByteArray} {ts : List TokD} (h : s.size ≤ 600) (hw : zK (bl8 s) 0 = some ts) : lexL s = ts ∧ lexE s = 0 := by
  have h' : ¬ 600 < s.size := by omega
  unfold lexL lexE; rw [if_neg h', if_neg h', hw]; exact ⟨rfl, rfl⟩
theorem bl8_add (a b : ByteArray) : bl8 (a ++ b) = bl8 a ++ bl8 b := by simp [bl8]
end Lp
/- Walks, printed by a program of mine. -/
set_option linter.unusedSimpArgs false
set_option linter.unusedVariables false
namespace Lp
open Go Go.RowKit Go.Proofs

namespace HdYtoanlikkhjohpaaDoorV42
theorem za8 : ∀ w, ((#[⟨"Kind", 3, 0, false, "", "", 0⟩, ⟨"At", 3, 1, false, "", "", 8⟩, ⟨"Text", 9, 2, false, "", "", 16⟩] : Array Field).mapM fun f => do pure (f.offset, ← Go.sizeOf f.type) : Sem (Array (Nat × Nat))).run Tryd.prog w = .ok ([(0, 1), (1, 1), (2, 1)] : List (Nat × Nat)).toArray w := fun _ => by kernel_rfl
theorem zcD (b o : Nat) : ∀ w, (Instr.fieldAt 28 (.pointer (some ⟨b, o, none⟩)) 0).run Tryd.prog w = .ok (.pointer (some ⟨b, o + 0, none⟩)) w := fun _ => by kernel_rfl
theorem fa_28_1 (b o : Nat) : ∀ w, (Instr.fieldAt 28 (.pointer (some ⟨b, o, none⟩)) 1).run Tryd.prog w = .ok (.pointer (some ⟨b, o + 1, none⟩)) w := fun _ => by kernel_rfl
theorem zbo (b o : Nat) : ∀ w, (Instr.fieldAt 28 (.pointer (some ⟨b, o, none⟩)) 2).run Tryd.prog w = .ok (.pointer (some ⟨b, o + 2, none⟩)) w := fun _ => by kernel_rfl
end HdYtoanlikkhjohpaaDoorV42
open HdYtoanlikkhjohpaaDoorV42

end Lp
/-
  Numbers in a text of words.
-/
set_option linter.unusedVariables false
namespace Lp
open Go
/-! ### digits, step by step -/
theorem digL_step (n : Nat) : digL n = (if n / 10 = 0 then [] else digL (n / 10)) ++ [UInt8.ofNat (48 + n % 10)] := by
  conv => lhs; unfold digL
  by_cases h : n < 10
  · rw [dif_pos h, if_pos (by omega), Nat.mod_eq_of_lt h]; rfl
  · rw [dif_neg h, if_neg (by omega)]
/-! ### the value of digits -/
def digF (a : Nat) (l : List UInt8) : Nat := l.foldl (fun n b => 10 * n + (b.toNat - 48)) a
theorem digV_eq (l : List UInt8) : digV l = digF 0 l := rfl
theorem digF_app (a : Nat) (l r : List UInt8) : digF a (l ++ r) = digF (digF a l) r := by unfold digF; rw [List.foldl_append]
theorem digF_dig : ∀ n : Nat, digF 0 (digL n) = n := by
  intro n
  induction n using Nat.strongRecOn with
  | _ n ih =>
    have hb : ∀ k, k < 10 → (UInt8.ofNat (48 + k)).toNat = 48 + k := fun k hk => by simp; omega
    unfold digL
    by_cases h : n < 10
    · rw [dif_pos h]
      show 10 * 0 + ((UInt8.ofNat (48 + n)).toNat - 48) = n
      rw [hb n h]; omega
    · rw [dif_neg h, digF_app, ih (n / 10) (by omega)]
      show 10 * (n / 10) + ((UInt8.ofNat (48 + n % 10)).toNat - 48) = n
      rw [hb _ (by omega)]; omega
theorem digF_zeros : ∀ k : Nat, digF 0 (List.replicate k 48) = 0
  | 0 => rfl
  | k + 1 => by rw [List.replicate_succ]; exact digF_zeros k
def DigsL (l : List UInt8) : Prop := ∀ b ∈ l, 48 ≤ b.toNat ∧ b.toNat ≤ 57
theorem digs_dig : ∀ n : Nat, DigsL (digL n) := by
  intro n
  induction n using Nat.strongRecOn with
  | _ n ih =>
    have hb : ∀ k, k < 10 → (UInt8.ofNat (48 + k)).toNat = 48 + k := fun k hk => by simp; omega
    intro b hb'
    unfold digL at hb'
    by_cases h : n < 10
    · rw [dif_pos h] at hb'
      rw [List.mem_singleton.1 hb', hb n h]; omega
    · rw [dif_neg h] at hb'
      rcases List.mem_append.1 hb' with h2 | h2
      · exact ih (n / 10) (by omega) b h2
      · rw [List.mem_singleton.1 h2, hb _ (by omega)]; omega
theorem digL_pos (n : Nat) : 1 ≤ (digL n).length := by rw [digL_step, List.length_append]; simp
/-- zeros and digits -/
def numD (k v : Nat) : List UInt8 := List.replicate k 48 ++ digL v
theorem zbH (k v : Nat) : DigsL (numD k v) := fun b hb => by
  rcases List.mem_append.1 hb with h | h
  · rw [List.eq_of_mem_replicate h]; decide
  · exact digs_dig v b h
theorem numD_val (k v : Nat) : digF 0 (numD k v) = v := by unfold numD; rw [digF_app, digF_zeros, digF_dig]
theorem numD_ne (k v : Nat) : numD k v ≠ [] := fun e => by
  have := congrArg List.length e
  unfold numD at this
  rw [List.length_append] at this
  have h2 := digL_pos v
  simp only [List.length_nil] at this; omega
theorem dig_kind {b : UInt8} (hb : 48 ≤ b.toNat ∧ b.toNat ≤ 57) (t : List UInt8) : zE ((decL (b :: t)).1 : Int) = 2 ∧ (decL (b :: t)).2 = 1 := by
  rw [zaw (by omega)]
  refine ⟨?_, rfl⟩
  show zE ((b.toNat : Nat) : Int) = 2
  unfold zE; (repeat (any_goals split)) <;> omega
theorem zcg {f : Int → Bool} (hf : ∀ r : Int, zE r = 2 → f r = true) : ∀ (l : List UInt8) (x : List UInt8), DigsL l → runL f (l ++ x) = l.length + runL f x
  | [], x, _ => by simp
  | b :: t, x, h => by
    obtain ⟨h1, h2⟩ := dig_kind (h b List.mem_cons_self) (t ++ x)
    rw [List.cons_append, zaV (by simp) (hf _ h1), h2]
    show 1 + runL f (t ++ x) = _
    rw [zcg hf t x (fun c hc => h c (List.mem_cons_of_mem _ hc)), List.length_cons]; omega
theorem isD_2 : ∀ r : Int, zE r = 2 → isD r = true := fun r h => by show inK [2] r = true; unfold inK; simp [h]
theorem isLD_2 : ∀ r : Int, zE r = 2 → isLD r = true := fun r h => by show inK [1, 2] r = true; unfold inK; simp [h]
theorem isB_2 {r : Int} (h : zE r = 2) : isB r = false := by show inK [3] r = false; unfold inK; simp [h]
theorem num_first {l : List UInt8} (h : DigsL l) (hne : l ≠ []) (u : List UInt8) : zk (l ++ u) = numT (l ++ u) ∧ runL isB (l ++ u) = 0 := by
  cases l with
  | nil => exact absurd rfl hne
  | cons b t =>
    obtain ⟨h1, _⟩ := dig_kind (h b List.mem_cons_self) (t ++ u)
    exact ⟨firstT_n h1, zbk (isB_2 h1)⟩
/-- one word, and nothing behind it -/
theorem words_one {l : List UInt8} {x : TokD} (hne : l ≠ []) (hb : runL isB l = 0) (hf : zk l = (x, l.length)) : zK l 0 = some [x.put 0] := by
  have hl := List.length_pos_iff.2 hne
  unfold zK; rw [hb]
  show zau l.length l 0 = _
  rw [zam hne (by rw [hf]; show ¬ l.length = 0; omega) (Nat.le_refl _), hf]
  show (zK (l.drop l.length) _).map _ = _
  rw [List.drop_length]
  unfold zK; rw [za5, List.drop_nil, zak]; rfl
theorem digL_lt : ∀ (k n : Nat), n < 10 ^ (k + 1) → (digL n).length ≤ k + 1
  | 0, n, h => by
    have h : n < 10 := by simpa using h
    rw [digL_step, if_pos (by omega)]; simp
  | k + 1, n, h => by
    rw [digL_step]
    split
    · simp
    · have := digL_lt k (n / 10) (by rw [Nat.pow_succ] at h; omega)
      rw [List.length_append, List.length_singleton]; omega
theorem digB_20 {n : Nat} (h : n ≤ 9223372036854775807) : (digB n).size ≤ 20 := by
  unfold digB; rw [zaq]
  exact digL_lt 19 n (Nat.lt_of_le_of_lt h (by decide))
end Lp
/- Walks, printed by a program of mine. -/
set_option linter.unusedSimpArgs false
set_option linter.unusedVariables false
namespace Lp
open Go Go.RowKit Go.Proofs

namespace HdYtoanlikkhjohpaaDoorV43
theorem za8 : ∀ w, ((#[⟨"Kind", 3, 0, false, "", "", 0⟩, ⟨"At", 3, 1, false, "", "", 8⟩, ⟨"Text", 9, 2, false, "", "", 16⟩] : Array Field).mapM fun f => do pure (f.offset, ← Go.sizeOf f.type) : Sem (Array (Nat × Nat))).run Tryd.prog w = .ok ([(0, 1), (1, 1), (2, 1)] : List (Nat × Nat)).toArray w := fun _ => by kernel_rfl
theorem cv_3_5 {a : Int} (h : 0 ≤ a ∧ a ≤ 255) : ∀ w, (convert 3 5 (.int .i64 a)).run Tryd.prog w = .ok (.int .u8 a) w := fun w => by
  have e : IntKind.u8.wrap a = a := by simp [IntKind.wrap, IntKind.bits, IntKind.signed]; omega
  simp [convert, run_underlying (show Tryd.prog.underlying 3 = some _ by kernel_rfl), run_underlying (show Tryd.prog.underlying 5 = some _ by kernel_rfl), Conv.intToInt, e]
theorem zbh : Tryd.prog.underlying 39 = some (.slice 5) := by kernel_rfl
end HdYtoanlikkhjohpaaDoorV43
open HdYtoanlikkhjohpaaDoorV43

end Lp
/-
  Texts between quotation marks among words.
-/
set_option linter.unusedVariables false
namespace Lp
open Go
theorem on8 {n : Nat} (h : n < 256) : (UInt8.ofNat n).toNat = n := by simp; omega
theorem gb0 {a : UInt8} {l : List UInt8} : gb (a :: l) 0 = a.toNat := rfl
theorem gb1 {a b : UInt8} {l : List UInt8} : gb (a :: b :: l) 1 = b.toNat := rfl
theorem gb2 {a b c : UInt8} {l : List UInt8} : gb (a :: b :: c :: l) 2 = c.toNat := rfl
theorem gb3 {a b c d : UInt8} {l : List UInt8} : gb (a :: b :: c :: d :: l) 3 = d.toNat := rfl
theorem ct {l : List UInt8} {k : Nat} (h : k < l.length) (h2 : gb l k / 64 = 2) : zar l k = true := by unfold zar; rw [decide_eq_true h, h2]; rfl
/-- what a rune's bytes are read as -/
theorem dec_encS (c : Nat) (x : List UInt8) (hc : c < 1114112) : (decL (encR c ++ x)).2 = (encR c).length ∧ (decL (encR c ++ x)).1 = (if 55296 ≤ c ∧ c ≤ 57343 then 65533 else c) := by
  unfold encR
  split
  · have e : (UInt8.ofNat (c % 256)).toNat = c := by rw [on8 (by omega)]; omega
    rw [List.cons_append, zaw (by omega), e]; exact ⟨rfl, (if_neg (by omega)).symm⟩
  · split
    · generalize ha : UInt8.ofNat (192 + c / 64 % 256) = a
      generalize hb : UInt8.ofNat (128 + c % 256 % 64) = b
      have a1 : a.toNat = 192 + c / 64 := by rw [← ha, on8 (by omega)]; omega
      have b1 : b.toNat = 128 + c % 64 := by rw [← hb, on8 (by omega)]; omega
      show (decL (a :: b :: x)).2 = 2 ∧ _
      have c1 : zar (a :: b :: x) 1 = true := ct (by simp) (by rw [gb1, b1]; omega)
      have e : decL (a :: b :: x) = (c, 2) := by
        unfold decL
        rw [c1, gb0, gb1, a1, b1, if_neg (by omega), if_pos (by simp; omega), if_pos (by omega)]
        congr 1; omega
      show (decL (a :: b :: x)).2 = 2 ∧ (decL (a :: b :: x)).1 = _
      rw [e]; exact ⟨rfl, (if_neg (by omega)).symm⟩
    · split
      · rename_i h1 h2 h3
        generalize ha : UInt8.ofNat (224 + c / 4096 % 256) = a
        generalize hb : UInt8.ofNat (128 + c / 64 % 256 % 64) = b
        generalize hd : UInt8.ofNat (128 + c % 256 % 64) = d
        have a1 : a.toNat = 224 + c / 4096 := by rw [← ha, on8 (by omega)]; omega
        have b1 : b.toNat = 128 + c / 64 % 64 := by rw [← hb, on8 (by omega)]; omega
        have d1 : d.toNat = 128 + c % 64 := by rw [← hd, on8 (by omega)]; omega
        have c1 : zar (a :: b :: d :: x) 1 = true := ct (by simp) (by rw [gb1, b1]; omega)
        have c2 : zar (a :: b :: d :: x) 2 = true := ct (by simp) (by rw [gb2, d1]; omega)
        have e : decL (a :: b :: d :: x) = (c, 3) := by
          unfold decL
          have en : (224 + c / 4096) % 16 * 4096 + (128 + c / 64 % 64) % 64 * 64 + (128 + c % 64) % 64 = c := by omega
          rw [c1, c2, gb0, gb1, gb2, a1, b1, d1, en, if_neg (by omega), if_neg (by simp; omega), if_pos (by simp; omega), if_pos (by unfold Utf8.valid; simp; omega)]
        show (decL (a :: b :: d :: x)).2 = 3 ∧ (decL (a :: b :: d :: x)).1 = _
        rw [e]; exact ⟨rfl, (if_neg (by omega)).symm⟩
      · split
        · rename_i h1 h2 h3 h4
          generalize ha : UInt8.ofNat (240 + c / 262144 % 256) = a
          generalize hb : UInt8.ofNat (128 + c / 4096 % 256 % 64) = b
          generalize hd : UInt8.ofNat (128 + c / 64 % 256 % 64) = d
          generalize hf : UInt8.ofNat (128 + c % 256 % 64) = f
          have a1 : a.toNat = 240 + c / 262144 := by rw [← ha, on8 (by omega)]; omega
          have b1 : b.toNat = 128 + c / 4096 % 64 := by rw [← hb, on8 (by omega)]; omega
          have d1 : d.toNat = 128 + c / 64 % 64 := by rw [← hd, on8 (by omega)]; omega
          have f1 : f.toNat = 128 + c % 64 := by rw [← hf, on8 (by omega)]; omega
          have c1 : zar (a :: b :: d :: f :: x) 1 = true := ct (by simp) (by rw [gb1, b1]; omega)
          have c2 : zar (a :: b :: d :: f :: x) 2 = true := ct (by simp) (by rw [gb2, d1]; omega)
          have c3 : zar (a :: b :: d :: f :: x) 3 = true := ct (by simp) (by rw [gb3, f1]; omega)
          have e : decL (a :: b :: d :: f :: x) = (c, 4) := by
            unfold decL
            have en : (240 + c / 262144) % 8 * 262144 + (128 + c / 4096 % 64) % 64 * 4096 + (128 + c / 64 % 64) % 64 * 64 + (128 + c % 64) % 64 = c := by omega
            rw [c1, c2, c3, gb0, gb1, gb2, gb3, a1, b1, d1, f1, en, if_neg (by omega), if_neg (by simp; omega), if_neg (by simp; omega), if_pos (by simp; omega), if_pos (by unfold Utf8.valid; simp; omega)]
          show (decL (a :: b :: d :: f :: x)).2 = 4 ∧ (decL (a :: b :: d :: f :: x)).1 = _
          rw [e]; exact ⟨rfl, (if_neg (by omega)).symm⟩
        · have c1 : zar (239 :: 191 :: 189 :: x) 1 = true := ct (by simp) (by rw [gb1]; rfl)
          have c2 : zar (239 :: 191 :: 189 :: x) 2 = true := ct (by simp) (by rw [gb2]; rfl)
          have e : decL (239 :: 191 :: 189 :: x) = (65533, 3) := by
            have n0 : (239 : UInt8).toNat = 239 := by decide
            have n1 : (191 : UInt8).toNat = 191 := by decide
            have n2 : (189 : UInt8).toNat = 189 := by decide
            unfold decL
            rw [c1, c2, gb0, gb1, gb2, n0, n1, n2, if_neg (by omega), if_neg (by simp), if_pos (by simp), if_pos (by unfold Utf8.valid; simp)]
          show (decL (239 :: 191 :: 189 :: x)).2 = 3 ∧ (decL (239 :: 191 :: 189 :: x)).1 = _
          rw [e]; exact ⟨rfl, (if_pos (by omega)).symm⟩
theorem dec_enc (c : Nat) (x : List UInt8) (hc : c < 1114112) : (decL (encR c ++ x)).2 = (encR c).length ∧ ((decL (encR c ++ x)).1 = c ∨ (decL (encR c ++ x)).1 = 65533) := by
  obtain ⟨h1, h2⟩ := dec_encS c x hc
  refine ⟨h1, ?_⟩
  split at h2
  · exact .inr h2
  · exact .inl h2
theorem hexB_kind (n : Nat) : (hexB n).toNat < 128 ∧ (hexB n).toNat ≠ 92 ∧ (hexB n).toNat ≠ 34 := by
  rcases Nat.lt_or_ge n 16 with h | h
  · have : ∀ k : Fin 16, (hexB k.1).toNat < 128 ∧ (hexB k.1).toNat ≠ 92 ∧ (hexB k.1).toNat ≠ 34 := by decide
    exact this ⟨n, h⟩
  · have e : hexB n = 0 := by
      unfold hexB
      have : hexd[n]? = none := by
        have hs : hexd.size = 16 := rfl
        exact getElem?_neg _ _ (by omega)
      rw [this]; rfl
    rw [e]; decide
theorem qs_plain {b : UInt8} {t : List UInt8} (h : b.toNat < 128) (h1 : b.toNat ≠ 92) (h2 : b.toNat ≠ 34) : zT false (b :: t) = (zT false t).map (· + 1) := by
  rw [zbl (by simp), zaw h, if_neg (by simp), if_neg h1, if_neg h2]; rfl
theorem qs_esc {b : UInt8} {t : List UInt8} (h : b.toNat < 128) : zT false (92 :: b :: t) = (zT false t).map (· + 2) := by
  rw [zbl (by simp), zaw (by decide), if_neg (by simp), if_pos (by decide)]
  show (zT true (b :: t)).map _ = _
  rw [zbl (by simp), zaw h, if_pos rfl]
  show ((zT false t).map _).map _ = _
  cases zT false t <;> rfl
theorem qs_piece {l src : List UInt8} (h : Tok l src) (x : List UInt8) : zT false (l ++ x) = (zT false x).map (· + l.length) := by
  cases h with
  | esc hc => rcases hc with rfl | rfl <;> exact qs_esc (by decide)
  | nl => exact qs_esc (by decide)
  | @hex b =>
    obtain ⟨a1, a2, a3⟩ := hexB_kind (b.toNat / 16)
    obtain ⟨b1, b2, b3⟩ := hexB_kind (b.toNat % 16)
    show zT false (92 :: 120 :: hexB (b.toNat / 16) :: hexB (b.toNat % 16) :: x) = _
    rw [qs_esc (by decide), qs_plain a1 a2 a3, qs_plain b1 b2 b3]
    cases zT false x <;> rfl
  | @raw c hc h1 h2 h3 =>
    obtain ⟨e1, e2⟩ := dec_enc c x hc
    have hne : encR c ++ x ≠ [] := by
      obtain ⟨b, r, e, _⟩ := encR_head hc
      rw [e]; simp
    rw [zbl hne, e1, List.drop_left, if_neg (by simp), if_neg (by rcases e2 with e2 | e2 <;> omega), if_neg (by rcases e2 with e2 | e2 <;> omega)]
theorem qs_quote (s : ByteArray) (r : List UInt8) : ∀ (n p : Nat), s.size - p = n → zT false (zW s p ++ 34 :: r) = some (zW s p).length := by
  intro n
  induction n using Nat.strongRecOn with
  | _ n ih =>
    intro p hp
    rcases Nat.lt_or_ge p s.size with h | h
    · obtain ⟨src, ht, _⟩ := zbs h
      have := zV s p
      rw [zav h, List.append_assoc, qs_piece ht, ih _ (by omega) _ rfl, List.length_append]
      show some ((zW s (p + decW s p)).length + (zb0 s p).length) = some _
      congr 1; omega
    · rw [za0 h, List.nil_append, zbl (by simp), zaw (by decide), if_neg (by simp), if_neg (by decide), if_pos (by decide)]; rfl
theorem quoteL_len (s : ByteArray) : (zay s).length = (zW s 0).length + 2 := by unfold zay; simp
theorem strT_quote (s : ByteArray) (r : List UInt8) : zk (zay s ++ r) = (⟨3, 0, s⟩, (zay s).length) := by
  have e : zay s ++ r = 34 :: (zW s 0 ++ 34 :: r) := by unfold zay; simp
  have hd : decL (34 :: (zW s 0 ++ 34 :: r)) = (34, 1) := zaw (by decide)
  have hq : zT true (zay s ++ r) = some ((zW s 0).length + 1) := by
    rw [e, zbl (by simp), hd, if_pos rfl]
    show (zT false (zW s 0 ++ 34 :: r)).map _ = _
    rw [qs_quote s r _ 0 rfl]; rfl
  have ht : (zay s ++ r).take ((zW s 0).length + 1 + 1) = zay s := List.take_left' (quoteL_len s)
  have hu : unqB (mkB (zay s)) = some s := unqB_some rfl
  rw [firstT_q (by rw [e, hd]; decide) (by rw [e, hd]; decide) (by rw [e, hd])]
  unfold strT; rw [hq]
  show (match unqB (mkB ((zay s ++ r).take ((zW s 0).length + 1 + 1))) with | none => (zby, 0) | some t => ((⟨3, 0, t⟩ : TokD), (zW s 0).length + 1 + 1)) = _
  rw [ht, hu, quoteL_len]
theorem tokQ_len {l src : List UInt8} (h : Tok l src) : l.length ≤ 4 * src.length ∧ src.length ≤ l.length := by
  cases h with
  | esc _ => exact ⟨by simp, by simp⟩
  | nl => exact ⟨by decide, by decide⟩
  | hex => exact ⟨by simp, by simp⟩
  | raw _ _ _ _ => exact ⟨by omega, Nat.le_refl _⟩
theorem quoteAt_4 (s : ByteArray) : ∀ (n p : Nat), s.size - p = n → (zW s p).length ≤ 4 * (s.size - p) ∧ s.size - p ≤ (zW s p).length := by
  intro n
  induction n using Nat.strongRecOn with
  | _ n ih =>
    intro p hp
    rcases Nat.lt_or_ge p s.size with h | h
    · obtain ⟨src, ht, e⟩ := zbs h
      have h1 := zV s p
      have h2 := zax s p h
      have e2 := congrArg List.length e
      rw [List.length_append, zcG, zcG] at e2
      have h3 := tokQ_len ht
      have h4 := ih (s.size - (p + decW s p)) (by omega) (p + decW s p) rfl
      rw [zav h, List.length_append]; omega
    · rw [za0 h]; simp; omega
theorem quoteB_4 (s : ByteArray) : (zah s).size ≤ 4 * s.size + 2 ∧ s.size + 2 ≤ (zah s).size := by
  have h := quoteAt_4 s _ 0 rfl
  have e : (zah s).size = (zay s).length := zaq _
  rw [e, quoteL_len]; omega
theorem quote_bl8 (s : ByteArray) : bl8 (zah s) = zay s := zbv _
theorem quote_blank (s : ByteArray) (r : List UInt8) : runL isB (zay s ++ r) = 0 := by
  have e : zay s ++ r = 34 :: (zW s 0 ++ 34 :: r) := by unfold zay; simp
  rw [e]; refine zbk ?_
  rw [zaw (by decide)]; decide
theorem stop_sp (r : List UInt8) : Stop (32 :: r) := .inr ⟨32, r, rfl, .inl rfl⟩
/-! ### joining words -/
def zS (x : TokD) : ByteArray := if x.k = 3 then zah x.t else if x.k = 4 then x.t ++ (⟨#[115]⟩ : ByteArray) else x.t
def z6 (l : List TokD) : ByteArray := zcV ⟨#[32]⟩ (l.map zS)
theorem joinT_size (x : TokD) : (zS x).size ≤ 4 * x.t.size + 2 := by
  unfold zS
  split
  · exact (quoteB_4 x.t).1
  · split
    · have : (⟨#[115]⟩ : ByteArray).size = 1 := rfl
      rw [ByteArray.size_append]; omega
    · omega
theorem joinT_3 {x : TokD} (h : x.k = 3) : zS x = zah x.t := by unfold zS; rw [if_pos h]
theorem joinT_4 {x : TokD} (h3 : ¬ x.k = 3) (h : x.k = 4) : zS x = x.t ++ (⟨#[115]⟩ : ByteArray) := by unfold zS; rw [if_neg h3, if_pos h]
theorem joinT_o {x : TokD} (h3 : ¬ x.k = 3) (h : ¬ x.k = 4) : zS x = x.t := by unfold zS; rw [if_neg h3, if_neg h]
theorem sumSz_joins {l : List TokD} (hl : l.length ≤ 1000) (hz : ∀ x ∈ l, x.t.size ≤ 1000) (k : Nat) : zaG ((l.take k).map zS) ≤ 10000000 := by
  have key : ∀ (m : List TokD), (∀ x ∈ m, x.t.size ≤ 1000) → zaG (m.map zS) ≤ 4002 * m.length := by
    intro m
    induction m with
    | nil => intro _; exact Nat.le_refl _
    | cons x r ih =>
      intro h
      have h1 := ih (fun y hy => h y (List.mem_cons_of_mem _ hy))
      have h2 := h x List.mem_cons_self
      have h3 := joinT_size x
      have e : zaG ((x :: r).map zS) = (zS x).size + zaG (r.map zS) := by simp [zaG]
      rw [e, List.length_cons]; omega
  have h1 := key (l.take k) (fun x hx => hz x (List.mem_of_mem_take hx))
  have h2 : (l.take k).length ≤ l.length := by rw [List.length_take]; omega
  omega
theorem joinW_one (x : TokD) : z6 [x] = zS x := by
  unfold z6 zcV
  show (⟨(zS x).data.toList.toArray⟩ : ByteArray) = _
  exact zcK _
end Lp
/- Walks, printed by a program of mine. -/
set_option linter.unusedSimpArgs false
set_option linter.unusedVariables false
namespace Lp
open Go Go.RowKit Go.Proofs

namespace HdYtoanlikkhjohpaaDoorV44
theorem za8 : ∀ w, ((#[⟨"Kind", 3, 0, false, "", "", 0⟩, ⟨"At", 3, 1, false, "", "", 8⟩, ⟨"Text", 9, 2, false, "", "", 16⟩] : Array Field).mapM fun f => do pure (f.offset, ← Go.sizeOf f.type) : Sem (Array (Nat × Nat))).run Tryd.prog w = .ok ([(0, 1), (1, 1), (2, 1)] : List (Nat × Nat)).toArray w := fun _ => by kernel_rfl
theorem zcD (b o : Nat) : ∀ w, (Instr.fieldAt 28 (.pointer (some ⟨b, o, none⟩)) 0).run Tryd.prog w = .ok (.pointer (some ⟨b, o + 0, none⟩)) w := fun _ => by kernel_rfl
theorem zbo (b o : Nat) : ∀ w, (Instr.fieldAt 28 (.pointer (some ⟨b, o, none⟩)) 2).run Tryd.prog w = .ok (.pointer (some ⟨b, o + 2, none⟩)) w := fun _ => by kernel_rfl
theorem infz_9 : ∃ i, Tryd.prog.info? 9 = some i ∧ i.zero = some (.string ByteArray.empty) ∧ i.size = 1 ∧ i.bytes = 16 := zcC (by kernel_rfl)
theorem und_40 : Tryd.prog.underlying 40 = some (.slice 9) := by kernel_rfl
end HdYtoanlikkhjohpaaDoorV44
open HdYtoanlikkhjohpaaDoorV44

set_option maxHeartbeats 4000000 in
set_option maxRecDepth 100000 in
theorem lexJoin_c (l : List TokD) (hl : l.length ≤ 1000) (hz : ∀ x ∈ l, x.t.size ≤ 1000) :
    CD Tryd.prog 11 [] [.sh 3 (l.map TokD.d)] (isR (D.s (z6 l))) := by
  refine zC Tryd.func11 rfl (N := 38) rfl rfl (fun C => ?_)
  refine JD.keep [0] [(0, .sh 3 (l.map TokD.d))] rfl ?_
  refine JD.bd 0 rfl (fun bd0 => ?_)
  have nl0 := zcy bd0
  refine zf _ _ rfl rfl rfl (zb rfl (za rfl rfl (zd rfl) (zg rfl (ze (zf _ _ rfl rfl rfl (zb rfl (za rfl rfl (zd rfl) (zg rfl (ze (zf _ _ rfl rfl rfl (zf _ _ rfl rfl rfl (zb rfl (za rfl rfl (zc rfl) (za rfl rfl (zcA (n := l.length) rfl Tryd.runUnderlying23 (by simp only [lm, lc, ln])) (za rfl rfl (zc rfl) (zg rfl (ze (zH _ rfl rfl (zaX (fun (g : Nat × Value × List ByteArray) => [(2, .v (.string ByteArray.empty)), (6, .sh 3 (l.map TokD.d)), (7, dN l.length), (8, dN g.1), (3, .ov g.2.1)]) (fun (g : Nat × Value × List ByteArray) => [.sl g.2.1 1 9 (g.2.2.map D.s)]) (fun (g : Nat × Value × List ByteArray) => (g.2.2 = (l.take g.1).map zS) ∧ (g.2.2.length ≤ g.1) ∧ (g.1 ≤ l.length)) (fun (g : Nat × Value × List ByteArray) => l.length - g.1) _ (0, .slice none 0 0, []) rfl rfl ⟨sk rfl, sk rfl, sk rfl, sk rfl, sc rfl (Cv.ov rfl), trivial⟩ (HSub.nil 1 9) ⟨rfl, Nat.le_refl _, Nat.zero_le _⟩ ?_)))))))))))))))))))
  rintro ⟨k, ov, o⟩ ⟨ho, hol, hkl⟩
  replace ho : o = (l.take k).map zS := ho
  replace hol : o.length ≤ k := hol
  replace hkl : k ≤ l.length := hkl
  refine JD.keep [2, 6, 7, 8, 3] [(2, .v (.string ByteArray.empty)), (6, .sh 3 (l.map TokD.d)), (7, dN l.length), (8, dN k), (3, .ov ov)] rfl (JD.norm [.sl ov 1 9 (o.map D.s)] rfl ?_)
  have hsk := sumSz_joins hl hz k; rw [← ho] at hsk
  refine zf _ _ rfl rfl rfl (zb rfl (za rfl rfl (zbL rfl rfl rfl) (zg rfl (ze (zf _ _ rfl rfl rfl ?_)))))
  refine zw _ _ rfl rfl rfl rfl (fun hc1 => ?_) (fun hc1 => ?_)
  · replace hc1 := of_decide_eq_true hc1
    refine zD rfl (ze (zf _ _ rfl rfl rfl (zH _ rfl rfl (zf _ _ rfl rfl rfl (zb rfl ?_)))))
    obtain ⟨x1, hx1⟩ := za6 l k (by omega)
    have hzk := hz x1 (List.mem_of_getElem? hx1)
    have hqk := quoteB_4 x1.t
    refine za rfl rfl (zaM (k := k) rfl rfl Tryd.runUnderlying23 Tryd.sizeOf28 (by first | rfl | omega) (zM hx1)) (za rfl rfl (p_load_el (d := TokD.d x1) rfl Tryd.isAgg28 Tryd.sizeOf28 rfl rfl) (zi rfl rfl (za7 (zv := (.agg #[(.int .i64 0), (.int .i64 0), (.string ByteArray.empty)])) Tryd.zeroValue28 ⟨rfl, rfl, rfl, trivial⟩ (Cv.vagg (by decide))) ?_))
    rintro _ _ ⟨g2, rfl, rfl⟩
    refine zi rfl rfl (zI (i := 0) (X' := TokD.d x1) rfl rfl rfl (CellD.agg) Tryd.sizeOf28 rfl rfl rfl) ?_
    rintro _ _ ⟨rfl, rfl⟩
    refine OpsD.norm [.bx g2 28 (TokD.d x1), .sl ov 1 9 (o.map D.s)] rfl (zg rfl (ze (zf _ _ rfl rfl rfl (zb rfl (za rfl rfl (zz rfl zcD rfl) (za rfl rfl (zY rfl (i := 0) rfl Tryd.isAgg3 rfl) (zg rfl (ze (zH _ rfl rfl (zf _ _ rfl rfl rfl (zb rfl (za rfl rfl (zR rfl rfl rfl) (za rfl rfl (zd rfl) (zg rfl (ze ?_)))))))))))))))
    refine zw _ _ rfl rfl rfl rfl (fun hc3 => ?_) (fun hc3 => ?_)
    · replace hc3 := of_decide_eq_true hc3
      refine zb rfl (za rfl rfl (zc rfl) (za rfl rfl (zz rfl zbo rfl) (za rfl rfl (zY rfl (i := 0) rfl Tryd.isAgg9 rfl) (zi rfl rfl (zr [] _ [] rfl rfl (.cons ArgC.id .nil) zm Tryd.call15 (Quote_c x1.t (by omega)) (.inl rfl)) ?_))))
      rintro _ _ ⟨_, ⟨rfl, rfl⟩, rfl⟩
      refine OpsD.norm [.bx g2 28 (TokD.d x1), .sl ov 1 9 (o.map D.s)] rfl (zi rfl rfl (zP [.tmp 24] rfl rfl (.cons CellD.s .nil) rfl Tryd.runUnderlying40 Tryd.sizeOf9 Tryd.zeroValue9 rfl rfl rfl rfl) ?_)
      rintro _ _ ⟨g4, rfl, rfl⟩
      refine zi rfl rfl (zad (f := D.s) (l := o) (l' := [zah x1.t]) (i := 2) rfl rfl rfl (SrcD.own (j := 0) rfl rfl) und_40 infz_9 rfl rfl (by unfold maxLen; (try simp only [la, lc, ln, lm, lt', ld, ls, lr]); omega) (by (try simp only [la, lc, ln, lm, lt', ld, ls, lr]); omega)) ?_
      rintro _ _ ⟨v5, rfl, rfl⟩
      refine OpsD.norm [.sl (vS g4 1 1) 1 9 ([.s (zah x1.t)]), .bx g2 28 (TokD.d x1), .sl v5 1 9 ((o ++ [zah x1.t]).map D.s)] rfl (za rfl rfl (zd rfl) (zg rfl (zG (zG (ze (zb rfl (za rfl rfl (zbd (c := ((k + 1 : Nat) : Int)) rfl rfl (zas (by omega) (by omega))) (za rfl rfl (zc rfl) (zg rfl ?_)))))))))
      exact zai (k + 1, v5, (o ++ [zah x1.t])) ⟨sk rfl, sk rfl, sk rfl, sk rfl, sk rfl, trivial⟩ (HSub.lst 2 rfl) ⟨by rw [zbq hx1, List.map_append, ho]; show _ = _ ++ [zS x1]; rw [joinT_3 (by have := hc3; omega)], by rw [List.length_append, List.length_singleton]; omega, by omega⟩ (by omega)
    · replace hc3 := of_decide_eq_false hc3
      refine zf _ _ rfl rfl rfl (zb rfl (za rfl rfl (zR rfl rfl rfl) (za rfl rfl (zd rfl) (zg rfl (ze ?_)))))
      refine zw _ _ rfl rfl rfl rfl (fun hc6 => ?_) (fun hc6 => ?_)
      · replace hc6 := of_decide_eq_true hc6
        refine zb rfl (za rfl rfl (zc rfl) (za rfl rfl (zz rfl zbo rfl) (za rfl rfl (zY rfl (i := 0) rfl Tryd.isAgg9 rfl) (za rfl rfl (p_cat rfl rfl (by unfold maxLen; (try simp only [ByteArray.size_append]); (try simp only [ByteArray.size_append]); have e1 : (⟨#[115]⟩ : ByteArray).size = 1 := rfl; omega)) (zi rfl rfl (zP [.tmp 32] rfl rfl (.cons CellD.s .nil) rfl Tryd.runUnderlying40 Tryd.sizeOf9 Tryd.zeroValue9 rfl rfl rfl rfl) ?_)))))
        rintro _ _ ⟨g7, rfl, rfl⟩
        refine zi rfl rfl (zad (f := D.s) (l := o) (l' := [(x1.t ++ (⟨#[115]⟩ : ByteArray))]) (i := 2) rfl rfl rfl (SrcD.own (j := 0) rfl rfl) und_40 infz_9 rfl rfl (by unfold maxLen; (try simp only [la, lc, ln, lm, lt', ld, ls, lr]); omega) (by (try simp only [la, lc, ln, lm, lt', ld, ls, lr]); omega)) ?_
        rintro _ _ ⟨v8, rfl, rfl⟩
        refine OpsD.norm [.sl (vS g7 1 1) 1 9 ([.s (x1.t ++ (⟨#[115]⟩ : ByteArray))]), .bx g2 28 (TokD.d x1), .sl v8 1 9 ((o ++ [(x1.t ++ (⟨#[115]⟩ : ByteArray))]).map D.s)] rfl (za rfl rfl (zd rfl) (zg rfl (zG (zG (ze (zb rfl (za rfl rfl (zbd (c := ((k + 1 : Nat) : Int)) rfl rfl (zas (by omega) (by omega))) (za rfl rfl (zc rfl) (zg rfl ?_)))))))))
        exact zai (k + 1, v8, (o ++ [(x1.t ++ (⟨#[115]⟩ : ByteArray))])) ⟨sk rfl, sk rfl, sk rfl, sk rfl, sk rfl, trivial⟩ (HSub.lst 2 rfl) ⟨by rw [zbq hx1, List.map_append, ho]; show _ = _ ++ [zS x1]; rw [joinT_4 (by have := hc3; omega) (by have := hc6; omega)], by rw [List.length_append, List.length_singleton]; omega, by omega⟩ (by omega)
      · replace hc6 := of_decide_eq_false hc6
        refine zb rfl (za rfl rfl (zc rfl) (za rfl rfl (zz rfl zbo rfl) (za rfl rfl (zY rfl (i := 0) rfl Tryd.isAgg9 rfl) (zi rfl rfl (zP [.tmp 16] rfl rfl (.cons CellD.s .nil) rfl Tryd.runUnderlying40 Tryd.sizeOf9 Tryd.zeroValue9 rfl rfl rfl rfl) ?_))))
        rintro _ _ ⟨g9, rfl, rfl⟩
        refine zi rfl rfl (zad (f := D.s) (l := o) (l' := [x1.t]) (i := 2) rfl rfl rfl (SrcD.own (j := 0) rfl rfl) und_40 infz_9 rfl rfl (by unfold maxLen; (try simp only [la, lc, ln, lm, lt', ld, ls, lr]); omega) (by (try simp only [la, lc, ln, lm, lt', ld, ls, lr]); omega)) ?_
        rintro _ _ ⟨v10, rfl, rfl⟩
        refine OpsD.norm [.sl (vS g9 1 1) 1 9 ([.s x1.t]), .bx g2 28 (TokD.d x1), .sl v10 1 9 ((o ++ [x1.t]).map D.s)] rfl (za rfl rfl (zd rfl) (zg rfl (zG (zG (ze (zb rfl (za rfl rfl (zbd (c := ((k + 1 : Nat) : Int)) rfl rfl (zas (by omega) (by omega))) (za rfl rfl (zc rfl) (zg rfl ?_)))))))))
        exact zai (k + 1, v10, (o ++ [x1.t])) ⟨sk rfl, sk rfl, sk rfl, sk rfl, sk rfl, trivial⟩ (HSub.lst 2 rfl) ⟨by rw [zbq hx1, List.map_append, ho]; show _ = _ ++ [zS x1]; rw [joinT_o (by have := hc3; omega) (by have := hc6; omega)], by rw [List.length_append, List.length_singleton]; omega, by omega⟩ (by omega)
  · replace hc1 := of_decide_eq_false hc1
    refine zaQ rfl (zaa (z7 (zO (ze (zf _ _ rfl rfl rfl (zb rfl (za rfl rfl (zc rfl) (zi rfl rfl (zr [] _ [.sl ov 1 9 (o.map D.s)] rfl rfl (.cons (ArgC.own (j := 0) rfl rfl) (.cons (ArgC.cv (Cv.str (by first | decide | (unfold maxLen; omega)))) .nil)) (lend_cons (j := 0) rfl zm) Tryd.call16 (Join_c o (⟨#[32]⟩ : ByteArray) (by omega) (by omega) (by first | decide | omega) (by first | decide | omega)) (.inr (isR_flat rfl))) ?_))))))))
    rintro _ _ ⟨_, ⟨rfl, rfl⟩, rfl⟩
    refine OpsD.norm [.sl ov 1 9 (o.map D.s)] rfl (za rfl rfl (zd rfl) (zg rfl (ze (zx rfl ?_))))
    exact zp Tryd.results11 (.cons (zB (zq rfl) (Cv.eq (congrArg D.s (by rw [ho, List.take_of_length_le (by omega)]; rfl)))) .nil) rfl HSub.none ⟨rfl, rfl⟩

end Lp
