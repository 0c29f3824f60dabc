/-
  Numbers in a text of words.
-/
import Derived.Test.YtoanlikkhjohpaaDoorV42
set_option linter.unusedVariables false
namespace Lp
open Go
/-! ### digits, step by step -/
theorem zbE (n : Nat) : digL n = (if n / 10 = 0 then [] else digL (n / 10)) ++ [UInt8.ofNat (48 + n % 10)] := by
  conv => lhs; unfold digL
  by_cases h : n < 10
  · rw [dif_pos h, if_pos (by omega), Nat.mod_eq_of_lt h]; rfl
  · rw [dif_neg h, if_neg (by omega)]
def DigI (v n : Nat) (o : ByteArray) : Prop := (o = ByteArray.empty ∧ n = v) ∨ (o ≠ ByteArray.empty ∧ digL v = (if n = 0 then [] else digL n) ++ bl8 o)
theorem DigI.zero {v : Nat} : DigI v v ByteArray.empty := .inl ⟨rfl, rfl⟩
theorem one_add {b : UInt8} {o : ByteArray} : bl8 ((⟨#[b]⟩ : ByteArray) ++ o) = b :: bl8 o := by simp [bl8]
theorem DigI.next {v n : Nat} {o : ByteArray} (h : DigI v n o) (hc : 0 < n ∨ o = ByteArray.empty) : DigI v (n / 10) ((⟨#[UInt8.ofNat (48 + n % 10)]⟩ : ByteArray) ++ o) := by
  refine .inr ⟨fun e => ?_, ?_⟩
  · have := congrArg bl8 e
    rw [one_add] at this
    cases this
  · rw [one_add]
    rcases h with ⟨rfl, rfl⟩ | ⟨hne, h⟩
    · rw [zbE]; rfl
    · have hn : ¬ n = 0 := by rcases hc with hc | hc; omega; exact absurd hc hne
      rw [h, if_neg hn, zbE n, List.append_assoc]; rfl
theorem DigI.done {v n : Nat} {o : ByteArray} (h : DigI v n o) (h0 : ¬ 0 < n) (h1 : ¬ o = ByteArray.empty) : o = digB v := by
  rcases h with ⟨e, _⟩ | ⟨_, h⟩
  · exact absurd e h1
  · rw [if_pos (by omega), List.nil_append] at h
    unfold digB; rw [h, zcc]
/-! ### the value of digits -/
def digF (a : Nat) (l : List UInt8) : Nat := l.foldl (fun n b => 10 * n + (b.toNat - 48)) a
theorem digV_eq (l : List UInt8) : digV l = digF 0 l := rfl
theorem digF_app (a : Nat) (l r : List UInt8) : digF a (l ++ r) = digF (digF a l) r := by unfold digF; rw [List.foldl_append]
theorem digF_ge : ∀ (l : List UInt8) (a : Nat), a ≤ digF a l
  | [], a => Nat.le_refl _
  | b :: l, a => by
    have := digF_ge l (10 * a + (b.toNat - 48))
    show a ≤ digF (10 * a + (b.toNat - 48)) l
    omega
theorem digF_dig : ∀ n : Nat, digF 0 (digL n) = n := by
  intro n
  induction n using Nat.strongRecOn with
  | _ n ih =>
    have hb : ∀ k, k < 10 → (UInt8.ofNat (48 + k)).toNat = 48 + k := fun k hk => by simp; omega
    unfold digL
    by_cases h : n < 10
    · rw [dif_pos h]
      show 10 * 0 + ((UInt8.ofNat (48 + n)).toNat - 48) = n
      rw [hb n h]; omega
    · rw [dif_neg h, digF_app, ih (n / 10) (by omega)]
      show 10 * (n / 10) + ((UInt8.ofNat (48 + n % 10)).toNat - 48) = n
      rw [hb _ (by omega)]; omega
theorem digF_zeros : ∀ k : Nat, digF 0 (List.replicate k 48) = 0
  | 0 => rfl
  | k + 1 => by rw [List.replicate_succ]; exact digF_zeros k
def DigsL (l : List UInt8) : Prop := ∀ b ∈ l, 48 ≤ b.toNat ∧ b.toNat ≤ 57
theorem digs_dig : ∀ n : Nat, DigsL (digL n) := by
  intro n
  induction n using Nat.strongRecOn with
  | _ n ih =>
    have hb : ∀ k, k < 10 → (UInt8.ofNat (48 + k)).toNat = 48 + k := fun k hk => by simp; omega
    intro b hb'
    unfold digL at hb'
    by_cases h : n < 10
    · rw [dif_pos h] at hb'
      rw [List.mem_singleton.1 hb', hb n h]; omega
    · rw [dif_neg h] at hb'
      rcases List.mem_append.1 hb' with h2 | h2
      · exact ih (n / 10) (by omega) b h2
      · rw [List.mem_singleton.1 h2, hb _ (by omega)]; omega
theorem digL_pos (n : Nat) : 1 ≤ (digL n).length := by rw [zbE, List.length_append]; simp
/-- zeros and digits -/
def numD (k v : Nat) : List UInt8 := List.replicate k 48 ++ digL v
theorem zaV (k v : Nat) : DigsL (numD k v) := fun b hb => by
  rcases List.mem_append.1 hb with h | h
  · rw [List.eq_of_mem_replicate h]; decide
  · exact digs_dig v b h
theorem numD_val (k v : Nat) : digF 0 (numD k v) = v := by unfold numD; rw [digF_app, digF_zeros, digF_dig]
theorem zb2 (k v : Nat) : numD k v ≠ [] := fun e => by
  have := congrArg List.length e
  unfold numD at this
  rw [List.length_append] at this
  have h2 := digL_pos v
  simp only [List.length_nil] at this; omega
theorem dig_kind {b : UInt8} (hb : 48 ≤ b.toNat ∧ b.toNat ≤ 57) (t : List UInt8) : zL ((decL (b :: t)).1 : Int) = 2 ∧ (decL (b :: t)).2 = 1 := by
  rw [decL_ascii (by omega)]
  refine ⟨?_, rfl⟩
  show zL ((b.toNat : Nat) : Int) = 2
  unfold zL; (repeat (any_goals split)) <;> omega
theorem zbu {f : Int → Bool} (hf : ∀ r : Int, zL r = 2 → f r = true) : ∀ (l : List UInt8) (x : List UInt8), DigsL l → runL f (l ++ x) = l.length + runL f x
  | [], x, _ => by simp
  | b :: t, x, h => by
    obtain ⟨h1, h2⟩ := dig_kind (h b List.mem_cons_self) (t ++ x)
    rw [List.cons_append, za2 (by simp) (hf _ h1), h2]
    show 1 + runL f (t ++ x) = _
    rw [zbu hf t x (fun c hc => h c (List.mem_cons_of_mem _ hc)), List.length_cons]; omega
theorem isD_2 : ∀ r : Int, zL r = 2 → isD r = true := fun r h => by show inK [2] r = true; unfold inK; simp [h]
theorem isLD_2 : ∀ r : Int, zL r = 2 → isLD r = true := fun r h => by show inK [1, 2] r = true; unfold inK; simp [h]
theorem isB_2 {r : Int} (h : zL r = 2) : isB r = false := by show inK [3] r = false; unfold inK; simp [h]
theorem num_first {l : List UInt8} (h : DigsL l) (hne : l ≠ []) (u : List UInt8) : zp (l ++ u) = numT (l ++ u) ∧ runL isB (l ++ u) = 0 := by
  cases l with
  | nil => exact absurd rfl hne
  | cons b t =>
    obtain ⟨h1, _⟩ := dig_kind (h b List.mem_cons_self) (t ++ u)
    exact ⟨firstT_n h1, zbQ (isB_2 h1)⟩
/-- one word, and nothing behind it -/
theorem words_one {l : List UInt8} {x : TokD} (hne : l ≠ []) (hb : runL isB l = 0) (hf : zp l = (x, l.length)) : zZ l 0 = some [x.put 0] := by
  have hl := List.length_pos_iff.2 hne
  unfold zZ; rw [hb]
  show zaq l.length l 0 = _
  rw [zbb hne (by rw [hf]; show ¬ l.length = 0; omega) (Nat.le_refl _), hf]
  show (zZ (l.drop l.length) _).map _ = _
  rw [List.drop_length]
  unfold zZ; rw [zbv, List.drop_nil, zaQ]; rfl
theorem words_no {l : List UInt8} (hne : l ≠ []) (hb : runL isB l = 0) (hf : (zp l).2 = 0) : zZ l 0 = none := by
  unfold zZ; rw [hb]
  exact wordsF_bad hne hf
theorem num_bad {k v : Nat} {u : List UInt8} (h : 13 < (numD k v).length ∨ 1000000000000 < v) : zZ (numD k v ++ u) 0 = none := by
  obtain ⟨h1, h2⟩ := num_first (zaV k v) (zb2 k v) u
  have hr := zbu isD_2 (numD k v) u (zaV k v)
  refine words_no (by simp [zb2]) h2 ?_
  have hbad : 13 < runL isD (numD k v ++ u) ∨ 1000000000000 < digV ((numD k v ++ u).take (runL isD (numD k v ++ u))) := by
    rcases h with h | h
    · exact .inl (by omega)
    · refine .inr ?_
      rw [hr, List.take_length_add_append, digV_eq, digF_app, numD_val]
      have := digF_ge (u.take (runL isD u)) v
      omega
  rw [h1]; unfold numT; rw [if_pos hbad]
theorem num_plain {k v : Nat} (h : ¬ (13 < (numD k v).length ∨ 1000000000000 < v)) : zZ (numD k v) 0 = some [⟨2, 0, digB v⟩] := by
  obtain ⟨h1, h2⟩ := num_first (zaV k v) (zb2 k v) []
  have hr := zbu isD_2 (numD k v) [] (zaV k v)
  have hr2 := zbu isLD_2 (numD k v) [] (zaV k v)
  rw [zbv, Nat.add_zero] at hr hr2
  rw [List.append_nil] at h1 h2 hr hr2
  refine words_one (x := ⟨2, 0, digB v⟩) (zb2 k v) h2 ?_
  rw [h1]; unfold numT
  rw [hr, hr2, List.take_length, digV_eq, numD_val, if_neg h, if_pos rfl]
theorem num_unit {k v c : Nat} {u : List UInt8} (h : ¬ (13 < (numD k v).length ∨ 1000000000000 < v)) (hu1 : u.length = 1) (hu2 : runL isD u = 0) (hu3 : runL isLD u = 1) (hs : secB (mkB u) = c) (hc : c ≠ 0) :
    zZ (numD k v ++ u) 0 = if 1000000000 / c < v then none else some [⟨4, 0, digB (v * c)⟩] := by
  obtain ⟨h1, h2⟩ := num_first (zaV k v) (zb2 k v) u
  have hr := zbu isD_2 (numD k v) u (zaV k v)
  have hr2 := zbu isLD_2 (numD k v) u (zaV k v)
  rw [hu2, Nat.add_zero] at hr
  rw [hu3] at hr2
  have hne : numD k v ++ u ≠ [] := by simp [zb2]
  have hl : (numD k v ++ u).length = (numD k v).length + 1 := by rw [List.length_append, hu1]
  have e2 : ((numD k v ++ u).take ((numD k v).length + 1)).drop (numD k v).length = u := by
    rw [List.take_of_length_le (by omega), List.drop_left]
  have e1 : numT (numD k v ++ u) = if 1000000000 / c < v then (zbs, 0) else (⟨4, 0, digB (v * c)⟩, (numD k v ++ u).length) := by
    unfold numT
    rw [hr, hr2, List.take_left, digV_eq, numD_val, if_neg h, if_neg (by omega), e2, hs, hl]
    by_cases h5 : 1000000000 / c < v
    · rw [if_pos (.inr h5), if_pos h5]
    · rw [if_neg (by omega), if_neg h5]
  by_cases h5 : 1000000000 / c < v
  · rw [if_pos h5] at e1 ⊢
    exact words_no hne h2 (by rw [h1, e1])
  · rw [if_neg h5] at e1 ⊢
    exact words_one (x := ⟨4, 0, digB (v * c)⟩) hne h2 (by rw [h1, e1])
/-! ### as texts -/
def zn (k : Nat) : ByteArray := mkB (List.replicate k 48)
theorem zero_zero : ByteArray.empty = zn 0 := rfl
theorem zM (k : Nat) : (zn k).size = k := by unfold zn; rw [zaw]; simp
theorem zero_next {k : Nat} : zn k ++ (⟨#[48]⟩ : ByteArray) = zn (k + 1) := by
  rw [← zcc (zn k ++ _), bl8_add]
  show mkB (bl8 (mkB _) ++ [48]) = _
  rw [zbf]; unfold zn; rw [List.replicate_succ']
theorem num_bl8 {k v : Nat} {u : ByteArray} : bl8 (zn k ++ digB v ++ u) = numD k v ++ bl8 u := by
  rw [bl8_add, bl8_add]
  unfold zn digB numD; rw [zbf, zbf]
theorem num_len {k v : Nat} : (zn k ++ digB v).size = (numD k v).length := by
  rw [ByteArray.size_append, zM]; unfold digB numD; rw [zaw]; simp
theorem lexn_bad {k v : Nat} {u : ByteArray} (hs : (zn k ++ digB v ++ u).size ≤ 600) (h : 13 < (zn k ++ digB v).size ∨ 1000000000000 < v) : lexE (zn k ++ digB v ++ u) = 2 := by
  rw [num_len] at h
  exact (lex_bad' hs (by rw [num_bl8]; exact num_bad h)).2
theorem lexn_plain {k v : Nat} {u : ByteArray} (hu : u = ByteArray.empty) (hs : (zn k ++ digB v ++ u).size ≤ 600) (h : ¬ (13 < (zn k ++ digB v).size ∨ 1000000000000 < v)) : lexL (zn k ++ digB v ++ u) = [⟨2, 0, digB v⟩] ∧ lexE (zn k ++ digB v ++ u) = 0 := by
  rw [num_len] at h
  refine lex_of hs ?_
  rw [num_bl8, hu, show bl8 ByteArray.empty = [] from rfl, List.append_nil]
  exact num_plain h
theorem zbk {k v c : Nat} {u : ByteArray} (hu : (u = ⟨#[115]⟩ ∧ c = 1) ∨ (u = ⟨#[109]⟩ ∧ c = 60) ∨ (u = ⟨#[104]⟩ ∧ c = 3600)) (hs : (zn k ++ digB v ++ u).size ≤ 600) (h : ¬ (13 < (zn k ++ digB v).size ∨ 1000000000000 < v)) :
    (1000000000 / c < v → lexE (zn k ++ digB v ++ u) = 2) ∧ (¬ 1000000000 / c < v → lexL (zn k ++ digB v ++ u) = [⟨4, 0, digB (v * c)⟩] ∧ lexE (zn k ++ digB v ++ u) = 0) := by
  rw [num_len] at h
  have hw : zZ (bl8 (zn k ++ digB v ++ u)) 0 = if 1000000000 / c < v then none else some [⟨4, 0, digB (v * c)⟩] := by
    rw [num_bl8]
    have one : ∀ {b : UInt8}, isD ((decL [b]).1 : Int) = false → isLD ((decL [b]).1 : Int) = true → (decL [b]).2 = 1 → runL isD [b] = 0 ∧ runL isLD [b] = 1 := fun {b} h1 h2 h3 => by
      refine ⟨zbQ h1, ?_⟩
      rw [za2 (by simp) h2, h3]
      show 1 + runL isLD [] = 1
      rw [zbv]
    rcases hu with ⟨rfl, rfl⟩ | ⟨rfl, rfl⟩ | ⟨rfl, rfl⟩
    · obtain ⟨a, b⟩ := one (b := 115) (by decide) (by decide) (by decide)
      exact num_unit (u := [115]) h rfl a b (by decide) (by decide)
    · obtain ⟨a, b⟩ := one (b := 109) (by decide) (by decide) (by decide)
      exact num_unit (u := [109]) h rfl a b (by decide) (by decide)
    · obtain ⟨a, b⟩ := one (b := 104) (by decide) (by decide) (by decide)
      exact num_unit (u := [104]) h rfl a b (by decide) (by decide)
  refine ⟨fun h5 => (lex_bad' hs (by rw [hw, if_pos h5])).2, fun h5 => lex_of hs (by rw [hw, if_neg h5])⟩
theorem digL_lt : ∀ (k n : Nat), n < 10 ^ (k + 1) → (digL n).length ≤ k + 1
  | 0, n, h => by
    have h : n < 10 := by simpa using h
    rw [zbE, if_pos (by omega)]; simp
  | k + 1, n, h => by
    rw [zbE]
    split
    · simp
    · have := digL_lt k (n / 10) (by rw [Nat.pow_succ] at h; omega)
      rw [List.length_append, List.length_singleton]; omega
theorem digB_20 {n : Nat} (h : n ≤ 9223372036854775807) : (digB n).size ≤ 20 := by
  unfold digB; rw [zaw]
  exact digL_lt 19 n (Nat.lt_of_le_of_lt h (by decide))
end Lp
