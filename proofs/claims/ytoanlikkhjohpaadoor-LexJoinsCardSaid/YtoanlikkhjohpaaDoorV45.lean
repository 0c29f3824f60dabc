/-
  Words as a text, and the words of that.
-/
import Derived.Test.YtoanlikkhjohpaaDoorV44
set_option linter.unusedVariables false
namespace Lp
open Go
/-- a word whose text is that word -/
def FitT (x : TokD) : Prop := bl8 (zS x) ≠ [] ∧ runL isB (bl8 (zS x)) = 0 ∧ zk (bl8 (zS x)) = (⟨x.k, 0, x.t⟩, (zS x).size)
/-! ### names -/
theorem run_word : ∀ (n : Nat) (s : ByteArray) (p : Nat), s.size - p = n → zcR (zaH s p) = true → runL isLD (bts s p) = s.size - p := by
  intro n
  induction n using Nat.strongRecOn with
  | _ n ih =>
    intro s p hp hw
    rcases Nat.lt_or_ge p s.size with h | h
    · rw [zaO h, wordR_cons, Bool.and_eq_true, decide_eq_true_eq] at hw
      have hk : isLD ((decL (bts s p)).1 : Int) = true := by
        rw [← zbT]
        show inK [1, 2] _ = true
        unfold inK
        rcases hw.1 with h | h <;> simp [h]
      have h1 := zV s p
      have h2 := zax s p h
      rw [zaV (zcr h) hk, zbz, ← zbS, ih _ (by omega) s _ rfl hw.2]; omega
    · rw [zcF h, za5]; omega
theorem name_first {s : ByteArray} (h : zcc s = true) : 0 < s.size ∧ zE ((decR s 0 : Nat) : Int) = 1 ∧ runL isLD (bl8 s) = s.size := by
  have h' := h
  unfold zcc at h'
  rw [nameR_start] at h'
  simp only [Bool.and_eq_true, decide_eq_true_eq] at h'
  have hz : 0 < s.size := by
    rcases Nat.lt_or_ge 0 s.size with hz | hz
    · exact hz
    · have e : zaj s = [] := by show zaH s 0 = []; exact zba hz
      rw [e] at h'; simp at h'
  refine ⟨hz, ?_, ?_⟩
  · have e : zaj s = ((decR s 0 : Nat) : Int) :: zaH s (0 + decW s 0) := by show zaH s 0 = _; exact zaO hz
    have := h'.1.2
    rw [e] at this; exact this
  · have := run_word _ s 0 rfl h'.2
    exact this
theorem good_word {s : ByteArray} (h : zcc s = true) : FitT ⟨1, 0, s⟩ := by
  obtain ⟨h1, h2, h3⟩ := name_first h
  have ej : zS ⟨1, 0, s⟩ = s := joinT_o (show ¬ (1 : Int) = 3 by decide) (show ¬ (1 : Int) = 4 by decide)
  have hb : isB ((decL (bl8 s)).1 : Int) = false := by
    rw [dec0]; show inK [3] _ = false; unfold inK; simp [h2]
  unfold FitT; rw [ej]
  refine ⟨bl8_ne h1, zbk hb, ?_⟩
  rw [firstT_w (by rw [dec0]; exact h2)]
  have e : mkB ((bl8 s).take s.size) = s := by rw [← zZ, List.take_length, zcK]
  unfold zaS; rw [h3, e, if_pos h]
/-! ### numbers -/
theorem digL_13 {v : Nat} (h : v ≤ 1000000000000) : (digL v).length ≤ 13 := digL_lt 12 v (Nat.lt_of_le_of_lt h (by decide))
theorem numD_0 (v : Nat) : numD 0 v = digL v := rfl
theorem good_num {v : Nat} (h : v ≤ 1000000000000) : FitT ⟨2, 0, digB v⟩ := by
  have h13 := digL_13 h
  obtain ⟨h1, h2⟩ := num_first (zbH 0 v) (numD_ne 0 v) []
  have hr := zcg isD_2 (numD 0 v) [] (zbH 0 v)
  have hr2 := zcg isLD_2 (numD 0 v) [] (zbH 0 v)
  rw [za5, Nat.add_zero] at hr hr2
  rw [List.append_nil] at h1 h2 hr hr2
  have ej : zS ⟨2, 0, digB v⟩ = digB v := joinT_o (show ¬ (2 : Int) = 3 by decide) (show ¬ (2 : Int) = 4 by decide)
  have eb : bl8 (digB v) = numD 0 v := zbv _
  unfold FitT; rw [ej, eb]
  refine ⟨numD_ne 0 v, h2, ?_⟩
  have hs : (digB v).size = (numD 0 v).length := zaq _
  rw [h1, hs]; unfold numT
  rw [hr, hr2, List.take_length, digV_eq, numD_val, if_neg (by rw [numD_0]; omega), if_pos rfl]
theorem good_dur {v : Nat} (h : v ≤ 1000000000) : FitT ⟨4, 0, digB v⟩ := by
  have h13 := digL_13 (v := v) (by omega)
  obtain ⟨h1, h2⟩ := num_first (zbH 0 v) (numD_ne 0 v) [115]
  have hr := zcg isD_2 (numD 0 v) [115] (zbH 0 v)
  have hr2 := zcg isLD_2 (numD 0 v) [115] (zbH 0 v)
  have e0 : runL isD [115] = 0 := zbk (by decide)
  rw [e0, Nat.add_zero] at hr
  have e1 : runL isLD [115] = 1 := by
    rw [zaV (by simp) (by decide)]
    show 1 + runL isLD [] = 1
    rw [za5]
  rw [e1] at hr2
  have ej : zS ⟨4, 0, digB v⟩ = digB v ++ (⟨#[115]⟩ : ByteArray) := joinT_4 (show ¬ (4 : Int) = 3 by decide) rfl
  have eb : bl8 (digB v ++ (⟨#[115]⟩ : ByteArray)) = numD 0 v ++ [115] := by
    rw [bl8_add, show bl8 (digB v) = numD 0 v from zbv _]
  have hs : (digB v ++ (⟨#[115]⟩ : ByteArray)).size = (numD 0 v).length + 1 := by
    rw [← zZ, eb, List.length_append]; rfl
  unfold FitT; rw [ej, eb, hs]
  refine ⟨by simp [numD_ne], h2, ?_⟩
  have e2 : ((numD 0 v ++ [115]).take ((numD 0 v).length + 1)).drop (numD 0 v).length = [115] := by
    rw [List.take_of_length_le (by simp), List.drop_left]
  have es : secB (mkB [115]) = 1 := by decide
  rw [h1]; unfold numT
  rw [hr, hr2, List.take_left, digV_eq, numD_val, if_neg (by rw [numD_0]; omega), if_neg (by omega), e2, es, if_neg (by omega), Nat.mul_one]
/-! ### texts, signs -/
theorem good_str (s : ByteArray) : FitT ⟨3, 0, s⟩ := by
  have h1 := strT_quote s []
  have h2 := quote_blank s []
  rw [List.append_nil] at h1 h2
  have ej : zS ⟨3, 0, s⟩ = zah s := joinT_3 rfl
  unfold FitT; rw [ej, quote_bl8, show (zah s).size = (zay s).length from zaq _]
  exact ⟨by unfold zay; simp, h2, h1⟩
theorem sign_facts : ∀ x ∈ z8, bl8 x ≠ [] ∧ ¬ zE ((decL (bl8 x)).1 : Int) = 1 ∧ ¬ zE ((decL (bl8 x)).1 : Int) = 2 ∧ ¬ (decL (bl8 x)).1 = 34 ∧ isB ((decL (bl8 x)).1 : Int) = false ∧ za4 (bl8 x) = (⟨5, 0, x⟩, x.size) := by decide
theorem good_sign {x : ByteArray} (hx : x ∈ z8) : FitT ⟨5, 0, x⟩ := by
  obtain ⟨h1, h2, h3, h4, h5, h6⟩ := sign_facts x hx
  have ej : zS ⟨5, 0, x⟩ = x := joinT_o (show ¬ (5 : Int) = 3 by decide) (show ¬ (5 : Int) = 4 by decide)
  unfold FitT; rw [ej]
  exact ⟨h1, zbk h5, by rw [firstT_s h2 h3 h4, h6]⟩
theorem signIn_mem : ∀ (xs : List ByteArray) (l : List UInt8), (zan xs l).2 ≠ 0 → ∃ x ∈ xs, (zan xs l).1 = ⟨5, 0, x⟩
  | [], _, h => absurd rfl h
  | x :: xs, l, h => by
    unfold zan at h ⊢
    split
    · exact ⟨x, List.mem_cons_self, rfl⟩
    · rename_i h2
      rw [if_neg h2] at h
      obtain ⟨y, hy, e⟩ := signIn_mem xs l h
      exact ⟨y, List.mem_cons_of_mem _ hy, e⟩
theorem sign_small : ∀ x ∈ z8, x.size ≤ 2 := by decide
/-- the first word of anything -/
theorem first_good {l : List UInt8} (h : (zk l).2 ≠ 0) : FitT (zk l).1 ∧ (zk l).1.t.size ≤ l.length + 20 := by
  unfold zk at h ⊢
  split
  · rename_i h1
    rw [if_pos h1] at h
    unfold zaS at h ⊢
    split
    · rename_i h2
      refine ⟨good_word h2, ?_⟩
      show (mkB _).size ≤ _
      rw [zaq, List.length_take]; omega
    · rename_i h2
      rw [if_neg h2] at h; exact absurd rfl h
  · rename_i h1
    rw [if_neg h1] at h
    split
    · rename_i h2
      rw [if_pos h2] at h
      unfold numT at h ⊢
      split
      · rename_i h3; rw [if_pos h3] at h; exact absurd rfl h
      · rename_i h3
        rw [if_neg h3] at h
        split
        · refine ⟨good_num (by omega), ?_⟩
          have := digB_20 (n := digV (l.take (runL isD l))) (by omega)
          show (digB _).size ≤ _
          omega
        · rename_i h4
          rw [if_neg h4] at h
          split
          · rename_i h5; rw [if_pos h5] at h; exact absurd rfl h
          · rename_i h5
            obtain ⟨c, hc⟩ : ∃ c, secB (mkB ((l.take (runL isLD l)).drop (runL isD l))) = c := ⟨_, rfl⟩
            rw [hc] at h5 ⊢
            have hm : digV (l.take (runL isD l)) * c ≤ 1000000000 := (Nat.le_div_iff_mul_le (by omega)).1 (by omega)
            refine ⟨good_dur hm, ?_⟩
            have := digB_20 (n := digV (l.take (runL isD l)) * c) (by omega)
            show (digB _).size ≤ _
            omega
    · rename_i h2
      rw [if_neg h2] at h
      split
      · rename_i h3
        rw [if_pos h3] at h
        cases e : zT true l with
        | none => unfold strT at h; rw [e] at h; exact absurd rfl h
        | some i =>
          have hi := qscan_lt _ l true i rfl e
          cases e2 : unqB (mkB (l.take (i + 1))) with
          | none =>
            unfold strT at h; rw [e] at h
            have h : (match unqB (mkB (l.take (i + 1))) with | none => (zby, 0) | some t => ((⟨3, 0, t⟩ : TokD), i + 1)).2 ≠ 0 := h
            rw [e2] at h; exact absurd rfl h
          | some t =>
            have e3 : strT l = (⟨3, 0, t⟩, i + 1) := by
              unfold strT; rw [e]
              show (match unqB (mkB (l.take (i + 1))) with | none => (zby, 0) | some t => ((⟨3, 0, t⟩ : TokD), i + 1)) = _
              rw [e2]
            rw [e3]
            refine ⟨good_str t, ?_⟩
            show t.size ≤ _
            have hq : zah t = mkB (l.take (i + 1)) := by
              unfold unqB at e2
              split at e2
              · rename_i hx
                injection e2 with e2
                rw [← e2]; exact hx.choose_spec
              · cases e2
            have h4 := (quoteB_4 t).2
            rw [hq, zaq, List.length_take] at h4; omega
      · rename_i h3
        rw [if_neg h3] at h
        obtain ⟨x, hx, e⟩ := signIn_mem z8 l h
        have e : (za4 l).1 = ⟨5, 0, x⟩ := e
        rw [e]
        refine ⟨good_sign hx, ?_⟩
        have := sign_small x hx
        show x.size ≤ _
        omega
theorem joinT_put (x : TokD) (a : Nat) : zS (x.put a) = zS x := rfl
theorem good_put {x : TokD} (a : Nat) (h : FitT x) : FitT (x.put a) := h
/-- all words of anything -/
theorem words_good : ∀ (n : Nat) (l : List UInt8) (a : Nat) (ts : List TokD), l.length = n → zK l a = some ts → ∀ x ∈ ts, FitT x ∧ x.t.size ≤ l.length + 20 := by
  intro n
  induction n using Nat.strongRecOn with
  | _ n ih =>
    intro l a ts hn h
    have hrl := zaK isB l
    generalize hm : l.drop (runL isB l) = m at *
    have hml : m.length = l.length - runL isB l := by rw [← hm, List.length_drop]
    unfold zK at h
    rw [hm] at h
    by_cases hne : m = []
    · subst hne; rw [zak] at h; injection h with h; subst h
      exact fun x hx => absurd hx (by simp)
    · by_cases h0 : (zk m).2 = 0
      · rw [zaY hne h0] at h; cases h
      · have hpos := List.length_pos_iff.2 hne
        have hfl := firstT_le (l := m)
        rw [zam hne h0 (by omega)] at h
        cases e : zK (m.drop (zk m).2) (a + runL isB l + (zk m).2) with
        | none => rw [e] at h; cases h
        | some t2 =>
          rw [e] at h
          have h : (zk m).1.put (a + runL isB l) :: t2 = ts := by injection h
          have hi := ih (m.drop (zk m).2).length (by rw [List.length_drop]; omega) _ _ t2 rfl e
          rw [List.length_drop] at hi
          subst h
          intro x hx
          rcases List.mem_cons.1 hx with rfl | hx
          · obtain ⟨g1, g2⟩ := first_good h0
            exact ⟨good_put _ g1, by show (zk m).1.t.size ≤ _; omega⟩
          · obtain ⟨g1, g2⟩ := hi x hx
            exact ⟨g1, by omega⟩
/-- where words stand, one blank between them -/
def posL (a : Nat) : List TokD → List TokD
  | [] => []
  | x :: r => x.put a :: posL (a + (zS x).size + 1) r
theorem words_join1 {x : TokD} (h : FitT x) (a : Nat) : zK (bl8 (zS x)) a = some [x.put a] := by
  obtain ⟨h1, h2, h3⟩ := h
  have h4 := words_one (x := ⟨x.k, 0, x.t⟩) h1 h2 (by rw [h3, zZ])
  have h5 := wordsL_by a _ (bl8 (zS x)) 0 rfl
  rw [Nat.zero_add, h4] at h5
  rw [h5]
  show some [TokD.mk x.k (((0 : Nat) : Int) + (a : Int)) x.t] = some [TokD.mk x.k (a : Int) x.t]
  rw [show ((0 : Nat) : Int) + (a : Int) = (a : Int) by omega]
theorem words_join : ∀ (ts : List TokD) (a : Nat), (∀ x ∈ ts, FitT x) → zK (zbf ⟨#[32]⟩ (ts.map zS)) a = some (posL a ts)
  | [], a, _ => by
    show zK [] a = some []
    unfold zK; rw [za5]; exact zak
  | [x], a, h => words_join1 (h x (by simp)) a
  | x :: y :: r, a, h => by
    have hx := h x (by simp)
    have ih := words_join (y :: r) (a + (zS x).size + 1) (fun z hz => h z (List.mem_cons_of_mem _ hz))
    show zK (bl8 (zS x) ++ [32] ++ zbf ⟨#[32]⟩ ((y :: r).map zS)) a = _
    rw [List.append_assoc]
    have hst : Stop ([32] ++ zbf ⟨#[32]⟩ ((y :: r).map zS)) := stop_sp _
    rw [wordsL_app hst _ (bl8 (zS x)) a _ rfl (words_join1 hx a)]
    show (zK ([32] ++ zbf ⟨#[32]⟩ ((y :: r).map zS)) _).map _ = _
    rw [wordsL_blank (by intro b hb; exact .inl (List.mem_singleton.1 hb)), zZ]
    show (zK (zbf ⟨#[32]⟩ ((y :: r).map zS)) (a + (zS x).size + 1)).map _ = _
    rw [ih]; rfl
theorem posL_len : ∀ (l : List TokD) (a : Nat), (posL a l).length = l.length
  | [], _ => rfl
  | x :: r, a => by show (posL _ r).length + 1 = _; rw [posL_len r]; rfl
theorem posL_joins : ∀ (l : List TokD) (a : Nat), (posL a l).map zS = l.map zS
  | [], _ => rfl
  | x :: r, a => by
    show zS (x.put a) :: (posL _ r).map zS = _
    rw [posL_joins r, joinT_put]; rfl
/-- how far the words before the k-th reach -/
def posA (l : List TokD) (k : Nat) : Nat := ((l.take k).map fun x => (zS x).size + 1).sum
theorem posA_next {l : List TokD} {k : Nat} {x : TokD} (h : l[k]? = some x) : posA l (k + 1) = posA l k + ((zS x).size + 1) := by
  unfold posA; rw [zbq h]; simp
theorem posL_get : ∀ (l : List TokD) (a k : Nat) (x y : TokD), (posL a l)[k]? = some y → l[k]? = some x → y = x.put (a + posA l k)
  | [], _, k, x, y, _, h => by simp at h
  | z :: r, a, 0, x, y, h1, h2 => by
    have h1 : some (z.put a) = some y := h1
    have h2 : some z = some x := h2
    injection h1 with h1; injection h2 with h2
    subst h1; subst h2
    rfl
  | z :: r, a, k + 1, x, y, h1, h2 => by
    have h1 : (posL (a + (zS z).size + 1) r)[k]? = some y := h1
    have h2 : r[k]? = some x := h2
    have := posL_get r _ k x y h1 h2
    rw [this]
    have e : posA (z :: r) (k + 1) = ((zS z).size + 1) + posA r k := by unfold posA; simp
    rw [e]; congr 1; omega
theorem lex_sizes {s : ByteArray} (hs : s.size ≤ 600) : ∀ x ∈ lexL s, x.t.size ≤ 1000 := fun x hx => by
  by_cases h : lexE s = 0
  · have := (words_good _ (bl8 s) 0 _ rfl (lexE_0 h).2 x hx).2
    rw [zZ] at this; omega
  · rw [lex_none h] at hx; exact absurd hx (by simp)
theorem lex_join {s : ByteArray} (hE : lexE s = 0) (ht : (z6 (lexL s)).size ≤ 600) : lexL (z6 (lexL s)) = posL 0 (lexL s) ∧ lexE (z6 (lexL s)) = 0 := by
  have hg := words_good _ (bl8 s) 0 _ rfl (lexE_0 hE).2
  have eb : bl8 (z6 (lexL s)) = zbf ⟨#[32]⟩ ((lexL s).map zS) := zbv _
  exact lex_of ht (by rw [eb]; exact words_join _ 0 (fun x hx => (hg x hx).1))
theorem joinW_pos {l m : List TokD} (h : m = posL 0 l) : z6 m = z6 l := by unfold z6; rw [h, posL_joins]
end Lp
/- Walks, printed by a program of mine. -/
set_option linter.unusedSimpArgs false
set_option linter.unusedVariables false
namespace Lp
open Go Go.RowKit Go.Proofs

namespace HdYtoanlikkhjohpaaDoorV45
theorem zcD (b o : Nat) : ∀ w, (Instr.fieldAt 28 (.pointer (some ⟨b, o, none⟩)) 0).run Tryd.prog w = .ok (.pointer (some ⟨b, o + 0, none⟩)) w := fun _ => by kernel_rfl
theorem fa_28_1 (b o : Nat) : ∀ w, (Instr.fieldAt 28 (.pointer (some ⟨b, o, none⟩)) 1).run Tryd.prog w = .ok (.pointer (some ⟨b, o + 1, none⟩)) w := fun _ => by kernel_rfl
theorem zbo (b o : Nat) : ∀ w, (Instr.fieldAt 28 (.pointer (some ⟨b, o, none⟩)) 2).run Tryd.prog w = .ok (.pointer (some ⟨b, o + 2, none⟩)) w := fun _ => by kernel_rfl
end HdYtoanlikkhjohpaaDoorV45
open HdYtoanlikkhjohpaaDoorV45

set_option maxHeartbeats 4000000 in
set_option maxRecDepth 100000 in
theorem law_joins_c (s : ByteArray) (ev : Value) (hev : EvOk ev) :
    CD Tryd.prog 5 [HPow, HErr ev] [.s s] (fun r H' => r = dB true ∧ H' = [HPow, HErr ev]) := by
  refine zC Tryd.func5 rfl (N := 102) rfl rfl (fun C => ?_)
  refine JD.keep [0] [(0, .s s)] rfl ?_
  refine JD.bd 0 rfl (fun bd0 => ?_)
  have sz0 : s.size ≤ 9223372036854775807 := bd0
  refine zf _ _ rfl rfl rfl (zb rfl (za rfl rfl (zd rfl) (zg rfl (ze (zf _ _ rfl rfl rfl (zf _ _ rfl rfl rfl (JD.keep [0, 2] [(0, .s s), (2, dB false)] rfl ?_)))))))
  refine zaF 17 (decide ((600 : Int) < ((s.size : Nat) : Int))) [HPow, HErr ev] (fun _ hQ1 => ?_) ?_
  · skip
    by_cases hg2 : (600 : Int) < ((s.size : Nat) : Int)
    · skip
      refine zb rfl (za rfl rfl (zc rfl) (za rfl rfl (zL rfl Tryd.runUnderlying9) (za rfl rfl (zbU rfl rfl (decide_eq_true hg2)) (za rfl rfl (zc rfl) (zj rfl rfl rfl rfl rfl (by decide) (zj rfl rfl rfl rfl rfl (by decide) (za rfl rfl (zt rfl rfl) (zg rfl ?_))))))))
      exact PD.sub ((17, dB (decide ((600 : Int) < ((s.size : Nat) : Int)))) :: [(0, .s s), (2, dB false)]) ⟨sc rfl (Cv.eq (congrArg (fun b => D.v (.bool b)) (by first | (simp [hg2]; done) | (simp only [decide_eq_true hg2, Bool.or_true, Bool.true_or, Bool.or_false, Bool.false_or, Bool.and_true, Bool.true_and, Bool.and_false, Bool.false_and]; done) | (simp_all; done)))), sk rfl, sk rfl, trivial⟩ hQ1
    · skip
      refine zb rfl (za rfl rfl (zc rfl) (za rfl rfl (zL rfl Tryd.runUnderlying9) (za rfl rfl (zbU rfl rfl (decide_eq_false hg2)) (za rfl rfl (zc rfl) (zcJ rfl rfl rfl rfl rfl (zr [HPow, HErr ev] [] [] rfl rfl (.nil) zm Tryd.call7 (alive7_c ev hev) (.inl rfl)) ?_)))))
      rintro _ _ ⟨_, ⟨rfl, rfl⟩, rfl⟩
      refine OpsD.norm [HPow, HErr ev] rfl (zh rfl rfl rfl rfl rfl (zc0 (q := true) rfl) (za rfl rfl (zo rfl rfl) (zg rfl ?_)))
      exact PD.sub ((17, dB (decide ((600 : Int) < ((s.size : Nat) : Int)))) :: [(0, .s s), (2, dB false)]) ⟨sc rfl (Cv.eq (congrArg (fun b => D.v (.bool b)) (by first | (simp [hg2]; done) | (simp only [decide_eq_false hg2, Bool.or_true, Bool.true_or, Bool.or_false, Bool.false_or, Bool.and_true, Bool.true_and, Bool.and_false, Bool.false_and]; done) | (simp_all; done)))), sk rfl, sk rfl, trivial⟩ hQ1
  · skip
    refine ze ?_
    refine zw _ _ rfl rfl rfl rfl (fun hc3 => ?_) (fun hc3 => ?_)
    · replace hc3 := of_decide_eq_true hc3
      refine zf _ _ rfl rfl rfl (zb rfl (zi rfl rfl (zr [HPow, HErr ev] [] [] rfl rfl (.nil) zm Tryd.call7 (alive7_c ev hev) (.inl rfl)) ?_))
      rintro _ _ ⟨_, ⟨rfl, rfl⟩, rfl⟩
      refine OpsD.norm [HPow, HErr ev] rfl (za rfl rfl (zd rfl) (zg rfl (ze (zx rfl (zu ?_)))))
      exact zp Tryd.results5 (.cons (zq rfl) .nil) rfl (HSub.fst 2 rfl) ⟨rfl, rfl⟩
    · replace hc3 := of_decide_eq_false hc3
      have hgd := hc3
      have hb1 : s.size ≤ 600 := by omega
      have hls := lexL_len s
      have hz1 := lex_sizes hb1
      refine zD rfl (ze (zf _ _ rfl rfl rfl (zb rfl (za rfl rfl (zc rfl) (zi rfl rfl (zr [HPow, HErr ev] [] [] rfl rfl (.cons ArgC.id .nil) zm Tryd.call8 (Words_c s ev hev) (.inl rfl)) ?_)))))
      rintro _ _ ⟨_, ⟨wv4, rfl, rfl⟩, rfl⟩
      refine OpsD.norm [.sl wv4 3 28 ((lexL s).map TokD.d), HPow, HErr ev] rfl (za rfl rfl (zc rfl) (za rfl rfl (zA rfl rfl) (za rfl rfl (zA rfl rfl) (za rfl rfl (zd rfl) (za rfl rfl (zd rfl) (zg rfl (ze (zf _ _ rfl rfl rfl (zf _ _ rfl rfl rfl (zb rfl (za rfl rfl (zc rfl) (za rfl rfl (zcl rfl rfl rfl) (zg rfl (ze (JD.keep [2, 3, 25] [(2, dB false), (3, .ov wv4), (25, dB (decide ((lexE s) ≠ (0 : Int))))] rfl ?_)))))))))))))))
      refine zw _ _ rfl rfl rfl rfl (fun hc5 => ?_) (fun hc5 => ?_)
      · replace hc5 := of_decide_eq_true hc5
        have hbe : ¬ lexE s = 0 := hc5
        refine zf _ _ rfl rfl rfl (zb rfl (za rfl rfl (zc rfl) (za rfl rfl (zap (n := (lexL s).length) (j := 0) rfl rfl Tryd.runUnderlying23 (List.length_map _)) (za rfl rfl (zR rfl rfl rfl) (za rfl rfl (zd rfl) (zg rfl (ze (zx rfl (zu (PD.subH (HSub.perm (zl (i := 2) rfl)) (PD.norm [HErr ev, .sl wv4 3 28 ((lexL s).map TokD.d), HPow] rfl (PD.subH (HSub.perm (zl (i := 2) rfl)) (PD.norm [HPow, HErr ev, .sl wv4 3 28 ((lexL s).map TokD.d)] rfl ?_)))))))))))))
        exact zp Tryd.results5 (.cons (zB (zq rfl) (Cv.eq (congrArg (fun b => D.v (.bool b)) (by rw [lex_none hbe]; rfl)))) .nil) rfl (HSub.fst 2 rfl) ⟨rfl, rfl⟩
      · replace hc5 := of_decide_eq_false hc5
        have hE : lexE s = 0 := by have := hc5; omega
        refine zD rfl (ze (zf _ _ rfl rfl rfl (zb rfl (za rfl rfl (zc rfl) (zi rfl rfl (zr [] _ [.sl wv4 3 28 ((lexL s).map TokD.d)] rfl rfl (.cons (ArgC.own (j := 0) rfl rfl) .nil) (lend_cons (j := 0) rfl zm) Tryd.call11 (lexJoin_c (lexL s) (by first | omega | (simp only [lc, ln]; omega)) hz1) (.inr (isR_flat rfl))) ?_)))))
        rintro _ _ ⟨_, ⟨rfl, rfl⟩, rfl⟩
        refine OpsD.norm [.sl wv4 3 28 ((lexL s).map TokD.d), HPow, HErr ev] rfl (za rfl rfl (zd rfl) (zg rfl (ze (zf _ _ rfl rfl rfl (zf _ _ rfl rfl rfl (zb rfl (za rfl rfl (zc rfl) (za rfl rfl (zL rfl Tryd.runUnderlying9) (za rfl rfl (zbU rfl rfl rfl) (zg rfl (ze ?_)))))))))))
        refine zw _ _ rfl rfl rfl rfl (fun hc6 => ?_) (fun hc6 => ?_)
        · replace hc6 := of_decide_eq_true hc6
          refine zf _ _ rfl rfl rfl (zb rfl (za rfl rfl (zd rfl) (zg rfl (ze (zx rfl (zu (PD.subH (HSub.perm (zl (i := 2) rfl)) (PD.norm [HErr ev, .sl wv4 3 28 ((lexL s).map TokD.d), HPow] rfl (PD.subH (HSub.perm (zl (i := 2) rfl)) (PD.norm [HPow, HErr ev, .sl wv4 3 28 ((lexL s).map TokD.d)] rfl ?_))))))))))
          exact zp Tryd.results5 (.cons (zq rfl) .nil) rfl (HSub.fst 2 rfl) ⟨rfl, rfl⟩
        · replace hc6 := of_decide_eq_false hc6
          have hb2 : (z6 (lexL s)).size ≤ 600 := by have := hc6; omega
          obtain ⟨hm, hmE⟩ := lex_join hE hb2
          have hz2 := lex_sizes hb2
          have hmll : (lexL (z6 (lexL s))).length = (lexL s).length := by rw [hm, posL_len]
          have hjw := joinW_pos hm
          refine zD rfl (ze (zf _ _ rfl rfl rfl (zb rfl (za rfl rfl (zc rfl) (OpsD.subH (HSub.perm (zl (i := 2) rfl)) (OpsD.norm [HErr ev, .sl wv4 3 28 ((lexL s).map TokD.d), HPow] rfl (OpsD.subH (HSub.perm (zl (i := 2) rfl)) (OpsD.norm [HPow, HErr ev, .sl wv4 3 28 ((lexL s).map TokD.d)] rfl (zi rfl rfl (zr [HPow, HErr ev] [.sl wv4 3 28 ((lexL s).map TokD.d)] [] rfl rfl (.cons ArgC.id .nil) zm Tryd.call8 (Words_c (z6 (lexL s)) ev hev) (.inl rfl)) ?_)))))))))
          rintro _ _ ⟨_, ⟨wv7, rfl, rfl⟩, rfl⟩
          refine OpsD.norm [.sl wv7 3 28 ((lexL (z6 (lexL s))).map TokD.d), HPow, HErr ev, .sl wv4 3 28 ((lexL s).map TokD.d)] rfl (za rfl rfl (zc rfl) (za rfl rfl (zA rfl rfl) (za rfl rfl (zA rfl rfl) (za rfl rfl (zd rfl) (za rfl rfl (zd rfl) (zg rfl (ze (JD.keep [2, 3, 5, 6, 7] [(2, dB false), (3, .ov wv4), (5, .s (z6 (lexL s))), (6, .ov wv7), (7, dI (lexE (z6 (lexL s))))] rfl (zf _ _ rfl rfl rfl (zf _ _ rfl rfl rfl ?_))))))))))
          have hf1 : ¬ ((lexE (z6 (lexL s))) ≠ (0 : Int)) := fun e => e hmE
          have hf2 : ¬ ((((lexL (z6 (lexL s))).length : Nat) : Int) ≠ (((lexL s).length : Nat) : Int)) := by omega
          refine zb rfl (za rfl rfl (zc rfl) (za rfl rfl (zcl rfl rfl (decide_eq_false hf1)) (za rfl rfl (zc rfl) (zh rfl rfl rfl rfl rfl (zc rfl) (zh rfl rfl rfl rfl rfl (zap (n := (lexL (z6 (lexL s))).length) (j := 0) rfl rfl Tryd.runUnderlying23 (List.length_map _)) (zh rfl rfl rfl rfl rfl (zc rfl) (zh rfl rfl rfl rfl rfl (zap (n := (lexL s).length) (j := 3) rfl rfl Tryd.runUnderlying23 (List.length_map _)) (zh rfl rfl rfl rfl rfl (zcl rfl rfl (decide_eq_false hf2)) (za rfl rfl (zo rfl rfl) (zg rfl (ze (JD.keep [2, 3, 5, 6, 47] [(2, dB false), (3, .ov wv4), (5, .s (z6 (lexL s))), (6, .ov wv7), (47, dB false)] rfl (za1 _ rfl rfl rfl (zD rfl (ze (zf _ _ rfl rfl rfl (zb rfl (za rfl rfl (zd rfl) (zg rfl (ze (zf _ _ rfl rfl rfl (zf _ _ rfl rfl rfl (zb rfl (za rfl rfl (zd rfl) (zg rfl (ze ?_))))))))))))))))))))))))))
          refine zH _ rfl rfl (zaX (fun (g : Nat × Nat) => [(3, .ov wv4), (5, .s (z6 (lexL s))), (6, .ov wv7), (8, dN g.2), (9, dN g.1)]) (fun (g : Nat × Nat) => [.sl wv7 3 28 ((lexL (z6 (lexL s))).map TokD.d), HPow, HErr ev, .sl wv4 3 28 ((lexL s).map TokD.d)]) (fun (g : Nat × Nat) => (g.2 = posA (lexL s) g.1) ∧ (g.2 ≤ 5000 * g.1)) (fun (g : Nat × Nat) => (lexL (z6 (lexL s))).length - g.1) _ (0, 0) rfl rfl ⟨sk rfl, sk rfl, sk rfl, sk rfl, sk rfl, trivial⟩ HSub.rfl' ⟨rfl, (by omega)⟩ ?_)
          rintro ⟨j, q⟩ ⟨hq, hq2⟩
          replace hq : q = posA (lexL s) j := hq
          replace hq2 : q ≤ 5000 * j := hq2
          refine JD.keep [3, 5, 6, 8, 9] [(3, .ov wv4), (5, .s (z6 (lexL s))), (6, .ov wv7), (8, dN q), (9, dN j)] rfl (JD.norm [.sl wv7 3 28 ((lexL (z6 (lexL s))).map TokD.d), HPow, HErr ev, .sl wv4 3 28 ((lexL s).map TokD.d)] rfl (zf _ _ rfl rfl rfl (zf _ _ rfl rfl rfl (zb rfl (za rfl rfl (zc rfl) (za rfl rfl (zc rfl) (za rfl rfl (zap (n := (lexL (z6 (lexL s))).length) (j := 0) rfl rfl Tryd.runUnderlying23 (List.length_map _)) (za rfl rfl (zbL rfl rfl rfl) (zg rfl (ze ?_))))))))))
          refine zw _ _ rfl rfl rfl rfl (fun hc8 => ?_) (fun hc8 => ?_)
          · replace hc8 := of_decide_eq_true hc8
            refine zD rfl (ze (zf _ _ rfl rfl rfl (zH _ rfl rfl (zf _ _ rfl rfl rfl (zf _ _ rfl rfl rfl ?_)))))
            obtain ⟨x1, hx1⟩ := za6 (lexL (z6 (lexL s))) j (by omega)
            obtain ⟨x2, hx2⟩ := za6 (lexL s) j (by omega)
            have hyx := posL_get (lexL s) 0 j x2 x1 (by rw [← hm]; exact hx1) hx2
            rw [Nat.zero_add, ← hq] at hyx
            have hdk : ¬ (x1.k ≠ x2.k) := fun e => e (by rw [hyx]; rfl)
            have hdt : ¬ (x1.t ≠ x2.t) := fun e => e (by rw [hyx]; rfl)
            have hda : ¬ (x1.a ≠ ((q : Nat) : Int)) := fun e => e (by rw [hyx]; rfl)
            have hyz := hz2 x1 (List.mem_of_getElem? hx1)
            have hyj : (zS x1).size ≤ 4002 := by have := joinT_size x1; omega
            have hyl : (z6 [x1]).size = (zS x2).size := by rw [joinW_one, hyx]; rfl
            have hyl2 : (z6 [x1]).size = (zS x1).size := by rw [joinW_one]
            refine JD.keep [3, 5, 6, 8, 9, 48, 49, 50, 51] [(3, .ov wv4), (5, .s (z6 (lexL s))), (6, .ov wv7), (8, dN q), (9, dN j), (48, dN j), (49, .ov wv7), (50, dN ((lexL (z6 (lexL s))).length)), (51, dB (decide (((j : Nat) : Int) < (((lexL (z6 (lexL s))).length : Nat) : Int))))] rfl (JD.norm [.sl wv7 3 28 ((lexL (z6 (lexL s))).map TokD.d), HPow, HErr ev, .sl wv4 3 28 ((lexL s).map TokD.d)] rfl ?_)
            refine jd_draw 31 [(54, .ov wv7, none), (55, dN j, none), (56, .v (.pointer (some ⟨bl wv7, j * 3 + 0, none⟩)), none), (57, .v (.pointer (some ⟨bl wv7, j * 3 + 0, none⟩)), none), (58, dI x1.k, none), (59, .ov wv4, none), (60, dN j, none), (61, .v (.pointer (some ⟨bl wv4, j * 3 + 0, none⟩)), none), (62, .v (.pointer (some ⟨bl wv4, j * 3 + 0, none⟩)), none), (63, dI x2.k, none), (64, dB false, none), (65, dB false, none), (66, .ov wv7, none), (67, dN j, none), (68, .v (.pointer (some ⟨bl wv7, j * 3 + 0, none⟩)), none), (69, .v (.pointer (some ⟨bl wv7, j * 3 + 2, none⟩)), none), (70, .s x1.t, none), (71, .ov wv4, none), (72, dN j, none), (73, .v (.pointer (some ⟨bl wv4, j * 3 + 0, none⟩)), none), (74, .v (.pointer (some ⟨bl wv4, j * 3 + 2, none⟩)), none), (75, .s x2.t, none), (76, dB false, none), (77, dB false, none), (78, dB false, none), (79, .ov wv7, none), (80, dN j, none), (81, .v (.pointer (some ⟨bl wv7, j * 3 + 0, none⟩)), none), (82, .v (.pointer (some ⟨bl wv7, j * 3 + 1, none⟩)), none), (83, dI x1.a, none), (84, dN q, none)] [.sl wv7 3 28 ((lexL (z6 (lexL s))).map TokD.d), HPow, HErr ev, .sl wv4 3 28 ((lexL s).map TokD.d)] (Hn := [.sl wv7 3 28 ((lexL (z6 (lexL s))).map TokD.d), HPow, HErr ev, .sl wv4 3 28 ((lexL s).map TokD.d)]) mixed rfl rfl rfl rfl HSub.rfl' rfl ⟨sa_p rfl rfl rfl (zc rfl), sa_p rfl rfl rfl (zc rfl), sa_p rfl rfl rfl (zN (k := j) (j := 0) rfl rfl rfl Tryd.runUnderlying23 Tryd.sizeOf28 (by first | rfl | omega) (zM hx1)), sa_p rfl rfl rfl (zz rfl zcD rfl), sa_p rfl rfl rfl (zaP rfl (i := 0) rfl (zM hx1) Tryd.isAgg3 rfl), sa_p rfl rfl rfl (zc rfl), sa_p rfl rfl rfl (zc rfl), sa_p rfl rfl rfl (zN (k := j) (j := 3) rfl rfl rfl Tryd.runUnderlying23 Tryd.sizeOf28 (by first | rfl | omega) (zM hx2)), sa_p rfl rfl rfl (zz rfl zcD rfl), sa_p rfl rfl rfl (zaP rfl (i := 3) rfl (zM hx2) Tryd.isAgg3 rfl), sa_p rfl rfl rfl (zcl rfl rfl (decide_eq_false hdk)), sa_p rfl rfl rfl (zc rfl), zbx rfl rfl rfl rfl rfl rfl (zc rfl).qu, zbx rfl rfl rfl rfl rfl rfl (zc rfl).qu, zbx rfl rfl rfl rfl rfl rfl (zN (k := j) (j := 0) rfl rfl rfl Tryd.runUnderlying23 Tryd.sizeOf28 (by first | rfl | omega) (zM hx1)).qu, zbx rfl rfl rfl rfl rfl rfl (zz rfl zbo rfl).qu, zbx rfl rfl rfl rfl rfl rfl (zaP rfl (i := 0) rfl (zM hx1) Tryd.isAgg9 rfl).qu, zbx rfl rfl rfl rfl rfl rfl (zc rfl).qu, zbx rfl rfl rfl rfl rfl rfl (zc rfl).qu, zbx rfl rfl rfl rfl rfl rfl (zN (k := j) (j := 3) rfl rfl rfl Tryd.runUnderlying23 Tryd.sizeOf28 (by first | rfl | omega) (zM hx2)).qu, zbx rfl rfl rfl rfl rfl rfl (zz rfl zbo rfl).qu, zbx rfl rfl rfl rfl rfl rfl (zaP rfl (i := 3) rfl (zM hx2) Tryd.isAgg9 rfl).qu, zbx rfl rfl rfl rfl rfl rfl (p_nes rfl rfl (decide_eq_false hdt)).qu, sa_p rfl rfl rfl (zo rfl rfl), sa_p rfl rfl rfl (zc rfl), zbx rfl rfl rfl rfl rfl rfl (zc rfl).qu, zbx rfl rfl rfl rfl rfl rfl (zc rfl).qu, zbx rfl rfl rfl rfl rfl rfl (zN (k := j) (j := 0) rfl rfl rfl Tryd.runUnderlying23 Tryd.sizeOf28 (by first | rfl | omega) (zM hx1)).qu, zbx rfl rfl rfl rfl rfl rfl (zz rfl fa_28_1 rfl).qu, zbx rfl rfl rfl rfl rfl rfl (zaP rfl (i := 0) rfl (zM hx1) Tryd.isAgg3 rfl).qu, zbx rfl rfl rfl rfl rfl rfl (zc rfl).qu, trivial⟩ ?_
            refine OpsD.keep [3, 5, 6, 8, 9, 48, 49, 50, 51, 54, 55, 56, 57, 58, 59, 60, 61, 62, 63, 64, 65, 66, 67, 68, 69, 70, 71, 72, 73, 74, 75, 76, 77, 78, 79, 80, 81, 82, 83, 84] [(3, .ov wv4), (5, .s (z6 (lexL s))), (6, .ov wv7), (8, dN q), (9, dN j), (48, dN j), (49, .ov wv7), (50, dN ((lexL (z6 (lexL s))).length)), (51, dB (decide (((j : Nat) : Int) < (((lexL (z6 (lexL s))).length : Nat) : Int)))), (54, .ov wv7), (55, dN j), (56, .v (.pointer (some ⟨bl wv7, j * 3 + 0, none⟩))), (57, .v (.pointer (some ⟨bl wv7, j * 3 + 0, none⟩))), (58, dI x1.k), (59, .ov wv4), (60, dN j), (61, .v (.pointer (some ⟨bl wv4, j * 3 + 0, none⟩))), (62, .v (.pointer (some ⟨bl wv4, j * 3 + 0, none⟩))), (63, dI x2.k), (64, dB false), (65, dB false), (66, .ov wv7), (67, dN j), (68, .v (.pointer (some ⟨bl wv7, j * 3 + 0, none⟩))), (69, .v (.pointer (some ⟨bl wv7, j * 3 + 2, none⟩))), (70, .s x1.t), (71, .ov wv4), (72, dN j), (73, .v (.pointer (some ⟨bl wv4, j * 3 + 0, none⟩))), (74, .v (.pointer (some ⟨bl wv4, j * 3 + 2, none⟩))), (75, .s x2.t), (76, dB false), (77, dB false), (78, dB false), (79, .ov wv7), (80, dN j), (81, .v (.pointer (some ⟨bl wv7, j * 3 + 0, none⟩))), (82, .v (.pointer (some ⟨bl wv7, j * 3 + 1, none⟩))), (83, dI x1.a), (84, dN q)] rfl ?_
            refine zh rfl rfl rfl rfl rfl (zcl rfl rfl (decide_eq_false hda)) (za rfl rfl (zo rfl rfl) (zg rfl (ze (za1 _ rfl rfl rfl (zD rfl (ze (zf _ _ rfl rfl rfl (zb rfl (za rfl rfl (zc rfl) (za rfl rfl (zc rfl) (za rfl rfl (zN (k := j) (j := 0) rfl rfl rfl Tryd.runUnderlying23 Tryd.sizeOf28 (by first | rfl | omega) (zM hx1)) (za rfl rfl (zb1 (d := TokD.d x1) rfl (i := 0) rfl (zM hx1) Tryd.isAgg28 Tryd.sizeOf28 rfl rfl) (zi rfl rfl (Qu.ef (d := .sh 3 ([x1].map TokD.d)) (zat [.tmp 90] rfl rfl (.cons CellD.agg .nil) rfl Tryd.runUnderlying23 Tryd.sizeOf28 Tryd.zeroValue28 rfl rfl rfl rfl)) ?_)))))))))))))
            rintro _ _ ⟨rfl, rfl⟩
            refine zi rfl rfl (zr [] _ [] rfl rfl (.cons ArgC.id .nil) zm Tryd.call11 (lexJoin_c [x1] (by first | omega | (simp only [lc, ln]; omega)) (by intro x hx; rw [List.mem_singleton.1 hx]; exact hyz)) (.inl rfl)) ?_
            rintro _ _ ⟨_, ⟨rfl, rfl⟩, rfl⟩
            refine OpsD.norm [.sl wv7 3 28 ((lexL (z6 (lexL s))).map TokD.d), HPow, HErr ev, .sl wv4 3 28 ((lexL s).map TokD.d)] rfl (za rfl rfl (zd rfl) (zg rfl (ze (zb rfl (za rfl rfl (zc rfl) (za rfl rfl (zc rfl) (za rfl rfl (zL rfl Tryd.runUnderlying9) (za rfl rfl (zbd (c := ((((z6 [x1]).size) + 1 : Nat) : Int)) rfl rfl (zas (by omega) (by omega))) (za rfl rfl (zbd (c := ((q + (((z6 [x1]).size) + 1) : Nat) : Int)) rfl rfl (zas (by omega) (by omega))) (za rfl rfl (zd rfl) (zg rfl (zG (ze (zb rfl (za rfl rfl (zc rfl) (za rfl rfl (zbd (c := ((j + 1 : Nat) : Int)) rfl rfl (zas (by omega) (by omega))) (za rfl rfl (zd rfl) (zg rfl ?_))))))))))))))))))
            exact zai (j + 1, q + (((z6 [x1]).size) + 1)) ⟨sk rfl, sk rfl, sk rfl, sk rfl, sk rfl, trivial⟩ HSub.rfl' ⟨by rw [hyl, hq, posA_next hx2], by omega⟩ (by omega)
          · replace hc8 := of_decide_eq_false hc8
            refine zaQ rfl (zaa (z7 (zO (ze (zf _ _ rfl rfl rfl (zb rfl (za rfl rfl (zc rfl) (zi rfl rfl (zr [] _ [.sl wv7 3 28 ((lexL (z6 (lexL s))).map TokD.d)] rfl rfl (.cons (ArgC.own (j := 0) rfl rfl) .nil) (lend_cons (j := 0) rfl zm) Tryd.call11 (lexJoin_c (lexL (z6 (lexL s))) (by first | omega | (simp only [lc, ln]; omega)) hz2) (.inr (isR_flat rfl))) ?_))))))))
            rintro _ _ ⟨_, ⟨rfl, rfl⟩, rfl⟩
            refine OpsD.norm [.sl wv7 3 28 ((lexL (z6 (lexL s))).map TokD.d), HPow, HErr ev, .sl wv4 3 28 ((lexL s).map TokD.d)] rfl (za rfl rfl (zc rfl) (za rfl rfl (zcm rfl rfl rfl) (za rfl rfl (zd rfl) (zg rfl (ze (JD.keep [2] [(2, dB (decide ((z6 (lexL (z6 (lexL s)))) = (z6 (lexL s)))))] rfl (zx rfl (PD.subH (HSub.perm (zl (i := 2) rfl)) (PD.norm [HErr ev, .sl wv7 3 28 ((lexL (z6 (lexL s))).map TokD.d), HPow, .sl wv4 3 28 ((lexL s).map TokD.d)] rfl (PD.subH (HSub.perm (zl (i := 2) rfl)) (PD.norm [HPow, HErr ev, .sl wv7 3 28 ((lexL (z6 (lexL s))).map TokD.d), .sl wv4 3 28 ((lexL s).map TokD.d)] rfl ?_)))))))))))
            exact zp Tryd.results5 (.cons (zB (zq rfl) (Cv.eq (congrArg (fun b => D.v (.bool b)) (by rw [decide_eq_true_eq]; exact hjw)))) .nil) rfl (HSub.fst 2 rfl) ⟨rfl, rfl⟩
end Lp
