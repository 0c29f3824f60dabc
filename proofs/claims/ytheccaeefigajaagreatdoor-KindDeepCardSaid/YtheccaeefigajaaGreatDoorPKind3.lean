/-
  The words of a text of ASCII signs, by computing.
-/
import Derived.Test.YtheccaeefigajaaGreatDoorV103
set_option linter.unusedVariables false
namespace Lp
open Go
def asc (l : List UInt8) : Bool := l.all (fun b => decide (b.toNat < 128))
theorem asc_cons {b : UInt8} {l : List UInt8} (h : asc (b :: l) = true) : b.toNat < 128 ∧ asc l = true := by
  unfold asc at h ⊢; simp only [List.all_cons, Bool.and_eq_true, decide_eq_true_eq] at h; exact h
theorem asc_drop {l : List UInt8} (h : asc l = true) (n : Nat) : asc (l.drop n) = true := by
  unfold asc at h ⊢; rw [List.all_eq_true] at h ⊢; exact fun b hb => h b (List.mem_of_mem_drop hb)
theorem asc_take {l : List UInt8} (h : asc l = true) (n : Nat) : asc (l.take n) = true := by
  unfold asc at h ⊢; rw [List.all_eq_true] at h ⊢; exact fun b hb => h b (List.mem_of_mem_take hb)
def runA (f : Int → Bool) : List UInt8 → Nat
  | [] => 0
  | b :: r => if f (b.toNat : Int) = true then 1 + runA f r else 0
theorem zdH (f : Int → Bool) : ∀ (l : List UInt8), asc l = true → runL f l = runA f l
  | [], _ => zdc
  | b :: r, h => by
    obtain ⟨h1, h2⟩ := asc_cons h
    unfold runA
    have hd := zaB (t := r) h1
    by_cases hf : f (b.toNat : Int) = true
    · rw [if_pos hf, zcH (by simp) (by rw [hd]; exact hf), hd]
      show 1 + runL f r = _
      rw [zdH f r h2]
    · rw [if_neg hf, zdC (by rw [hd]; simpa using hf)]
theorem runes_asc {l : List UInt8} (h : asc l = true) : zaa (mkB l) = l.map (fun b => (b.toNat : Int)) := by
  have key : ∀ (n p : Nat), (mkB l).size - p = n → zaD (mkB l) p = (l.drop p).map (fun b => (b.toNat : Int)) := by
    intro n
    induction n using Nat.strongRecOn with
    | _ n ih =>
      intro p hn
      rw [z6] at hn
      rcases Nat.lt_or_ge p l.length with hp | hp
      · have hb : bts (mkB l) p = l.drop p := by unfold bts; rw [← zbA l]; rfl
        obtain ⟨b, hx⟩ : ∃ b, l[p]? = some b := ⟨l[p], List.getElem?_eq_getElem hp⟩
        have hdr : l.drop p = b :: l.drop (p + 1) := by
          rw [List.drop_eq_getElem_cons hp]; congr 1
          rw [List.getElem?_eq_getElem hp] at hx; injection hx
        have hb1 : b.toNat < 128 := (asc_cons (by rw [← hdr]; exact asc_drop h p)).1
        have hd : decL (bts (mkB l) p) = (b.toNat, 1) := by rw [hb, hdr]; exact zaB hb1
        rw [zaw (by rw [z6]; exact hp), zbO, zbN, hd, hdr]
        rw [ih (l.length - (p + 1)) (by omega) (p + 1) (by rw [z6])]
        rfl
      · rw [zaM (by rw [z6]; exact hp), List.drop_eq_nil_of_le hp]; rfl
  rw [show zaa (mkB l) = zaD (mkB l) 0 from rfl, key _ 0 rfl, List.drop_zero]
def digK : Nat → Nat → List UInt8
  | 0, _ => []
  | f + 1, n => if n < 10 then [UInt8.ofNat (48 + n)] else digK f (n / 10) ++ [UInt8.ofNat (48 + n % 10)]
theorem digK_eq : ∀ (f n : Nat), 0 < f → n < 10 ^ f → digK f n = digL n
  | 0, n, h, _ => absurd h (by omega)
  | f + 1, n, _, h => by
    unfold digK digL
    by_cases hn : n < 10
    · rw [if_pos hn, dif_pos hn]
    · rw [if_neg hn, dif_neg hn]
      rw [Nat.pow_succ] at h
      cases f with
      | zero => simp at h; omega
      | succ f => rw [digK_eq (f + 1) (n / 10) (by omega) (by omega)]
theorem digK_B {n : Nat} (h : n ≤ 1000000000000) : mkB (digK 20 n) = digB n := by
  unfold digB; rw [digK_eq 20 n (by decide) (Nat.lt_of_le_of_lt h (by decide))]
/-! ### plain texts between quotation marks -/
def zaN (b : UInt8) : Bool := decide (b.toNat < 128) && decide (b.toNat ≠ 34) && decide (b.toNat ≠ 92) && decide (b.toNat ≠ 10)
theorem enc_asc {c : Nat} (h : c < 128) : encR c = [UInt8.ofNat c] := by unfold encR; rw [if_pos (by omega), Nat.mod_eq_of_lt (by omega)]
theorem quote_plain {l : List UInt8} (h : ∀ b ∈ l, zaN b = true) : zax (mkB l) = 34 :: (l ++ [34]) := by
  have key : ∀ (n p : Nat), (mkB l).size - p = n → zZ (mkB l) p = l.drop p := by
    intro n
    induction n using Nat.strongRecOn with
    | _ n ih =>
      intro p hn
      rw [z6] at hn
      rcases Nat.lt_or_ge p l.length with hp | hp
      · have hb : bts (mkB l) p = l.drop p := by unfold bts; rw [← zbA l]; rfl
        have hdr : l.drop p = l[p] :: l.drop (p + 1) := List.drop_eq_getElem_cons hp
        have hq := h l[p] (List.getElem_mem hp)
        unfold zaN at hq; simp only [Bool.and_eq_true, decide_eq_true_eq] at hq
        obtain ⟨⟨⟨h1, h2⟩, h3⟩, h4⟩ := hq
        have hd : decL (bts (mkB l) p) = (l[p].toNat, 1) := by rw [hb, hdr]; exact zaB h1
        have hr : decR (mkB l) p = l[p].toNat := by rw [zbO, hd]
        have hw : decW (mkB l) p = 1 := by rw [zbN, hd]
        rw [zaz (by rw [z6]; exact hp), piece_4 (by rw [hr]; omega) (by rw [hr]; exact h4) (by rw [hr]; omega), hr, hw, enc_asc h1, ih (l.length - (p + 1)) (by omega) (p + 1) (by rw [z6]), hdr]
        simp
      · rw [za0 (by rw [z6]; exact hp), List.drop_eq_nil_of_le hp]
  unfold zax; rw [key _ 0 rfl, List.drop_zero]
/-! ### one word, all words -/
def firstA (l : List UInt8) : Option (TokD × Nat) :=
  match l with
  | [] => none
  | c :: r =>
    if zH (c.toNat : Int) = 1 then
      if zct 0 ((l.take (runA isLD l)).map (fun b => (b.toNat : Int))) = true ∧ 0 < runA isLD l then some (⟨1, 0, mkB (l.take (runA isLD l))⟩, runA isLD l) else none
    else if zH (c.toNat : Int) = 2 then
      if 13 < runA isD l ∨ 1000000000000 < digV (l.take (runA isD l)) ∨ runA isD l = 0 then none
      else if runA isLD l = runA isD l then some (⟨2, 0, mkB (digK 20 (digV (l.take (runA isD l))))⟩, runA isD l)
      else if secB (mkB ((l.take (runA isLD l)).drop (runA isD l))) = 0 ∨ 1000000000 / secB (mkB ((l.take (runA isLD l)).drop (runA isD l))) < digV (l.take (runA isD l)) ∨ 1000000000000 < digV (l.take (runA isD l)) * secB (mkB ((l.take (runA isLD l)).drop (runA isD l))) ∨ runA isLD l = 0 then none
      else some (⟨4, 0, mkB (digK 20 (digV (l.take (runA isD l)) * secB (mkB ((l.take (runA isLD l)).drop (runA isD l)))))⟩, runA isLD l)
    else if c.toNat = 34 then
      if (r.drop (r.takeWhile zaN).length).head? = some 34 then some (⟨3, 0, mkB (r.takeWhile zaN)⟩, (r.takeWhile zaN).length + 2) else none
    else if (zbD l).2 = 0 then none else some (zbD l)
theorem firstA_ok {l : List UInt8} (ha : asc l = true) {t : TokD} {n : Nat} (h : firstA l = some (t, n)) : zw l = (t, n) ∧ n ≠ 0 := by
  cases l with
  | nil => cases h
  | cons c r =>
    have hc := (asc_cons ha).1
    have hd := zaB (t := r) hc
    unfold firstA at h
    simp only at h
    unfold zw; rw [hd]
    by_cases h1 : zH (c.toNat : Int) = 1
    · rw [if_pos h1] at h ⊢
      split at h
      · rename_i h2
        injection h with h; injection h with e1 e2
        subst e1; subst e2
        refine ⟨?_, by omega⟩
        unfold zbq
        rw [zdH _ _ ha]
        have hn : zbI (mkB ((c :: r).take (runA isLD (c :: r)))) = true := by unfold zbI; rw [runes_asc (asc_take ha _)]; exact h2.1
        rw [if_pos hn]
      · cases h
    · rw [if_neg h1] at h ⊢
      by_cases h2 : zH (c.toNat : Int) = 2
      · rw [if_pos h2] at h ⊢
        unfold numT
        rw [zdH _ _ ha, zdH _ _ ha]
        split at h
        · cases h
        · rename_i h3
          rw [if_neg (by omega)]
          split at h
          · rename_i h4
            injection h with h; injection h with e1 e2
            subst e1; subst e2
            rw [if_pos h4, digK_B (by omega)]; exact ⟨rfl, by omega⟩
          · rename_i h4
            split at h
            · cases h
            · rename_i h5
              injection h with h; injection h with e1 e2
              subst e1; subst e2
              rw [if_neg h4, if_neg (by omega), digK_B (by omega)]; exact ⟨rfl, by omega⟩
      · rw [if_neg h2] at h ⊢
        by_cases h3 : c.toNat = 34
        · rw [if_pos h3] at h
          split at h
          · rename_i h4
            injection h with h; injection h with e1 e2
            subst e1; subst e2
            refine ⟨?_, by omega⟩
            have hr : r = r.takeWhile zaN ++ 34 :: r.drop ((r.takeWhile zaN).length + 1) := by
              have e1 : r = r.take (r.takeWhile zaN).length ++ r.drop (r.takeWhile zaN).length := (List.take_append_drop _ _).symm
              have e2 : r.take (r.takeWhile zaN).length = r.takeWhile zaN := by
                have := List.takeWhile_prefix (l := r) zaN
                exact (List.prefix_iff_eq_take.1 this).symm
              have e3 : r.drop (r.takeWhile zaN).length = 34 :: r.drop ((r.takeWhile zaN).length + 1) := by
                cases hh : r.drop (r.takeWhile zaN).length with
                | nil => rw [hh] at h4; cases h4
                | cons y z =>
                  rw [hh] at h4
                  have : y = 34 := by simpa using h4
                  subst this
                  congr 1
                  have := congrArg List.tail hh
                  rw [List.tail_drop] at this
                  exact this.symm
              rw [← e3, ← e2]; rw [e2]; exact e1.trans (by rw [e2])
            have hq := quote_plain (l := r.takeWhile zaN) (fun b hb => by
              have := List.all_takeWhile (p := zaN) (l := r)
              exact List.all_eq_true.1 this b hb)
            have hc34 : c = 34 := UInt8.toNat_inj.1 h3
            have hl : c :: r = zax (mkB (r.takeWhile zaN)) ++ r.drop ((r.takeWhile zaN).length + 1) := by
              rw [hq, hc34]; simp only [List.cons_append, List.append_assoc, List.nil_append]; congr 1
            have hs := strT_quote (mkB (r.takeWhile zaN)) (r.drop ((r.takeWhile zaN).length + 1))
            rw [← hl] at hs
            unfold zw at hs
            rw [hd, if_neg h1, if_neg h2] at hs
            rw [hs, hq]
            simp
          · cases h
        · rw [if_neg h3] at h
          have h3' : ¬ (c.toNat, 1).1 = 34 := h3
          rw [if_neg h3']
          split at h
          · cases h
          · rename_i h4; injection h with h; rw [h] at h4 ⊢; exact ⟨rfl, h4⟩
def lexA : Nat → List UInt8 → Nat → Option (List TokD)
  | 0, _, _ => none
  | f + 1, l, a =>
    if l.drop (runA isB l) = [] then some []
    else match firstA (l.drop (runA isB l)) with
      | none => none
      | some (t, n) => (lexA f ((l.drop (runA isB l)).drop n) (a + runA isB l + n)).map (t.put (a + runA isB l) :: ·)
theorem lexA_ok : ∀ (f : Nat) (l : List UInt8) (a : Nat) (ts : List TokD), asc l = true → lexA f l a = some ts → zaC l a = some ts
  | 0, l, a, ts, _, h => by cases h
  | f + 1, l, a, ts, ha, h => by
    unfold lexA at h
    have hb := zdH isB l ha
    unfold zaC; rw [hb]
    split at h
    · rename_i h0; injection h with h; subst h; rw [h0]; exact zaZ
    · rename_i h0
      cases e : firstA (l.drop (runA isB l)) with
      | none => rw [e] at h; cases h
      | some p =>
        obtain ⟨t, n⟩ := p
        rw [e] at h
        simp only at h
        obtain ⟨e1, e2⟩ := firstA_ok (asc_drop ha _) e
        cases e3 : lexA f ((l.drop (runA isB l)).drop n) (a + runA isB l + n) with
        | none => rw [e3] at h; cases h
        | some t2 =>
          rw [e3] at h
          have h : t.put (a + runA isB l) :: t2 = ts := by injection h
          have ih := lexA_ok f _ _ _ (asc_drop (asc_drop ha _) n) e3
          have hlen : (l.drop (runA isB l)).length ≤ l.length := by rw [List.length_drop]; omega
          rw [zbY h0 (by rw [e1]; exact e2) hlen, e1]
          simp only
          rw [ih]
          show some _ = some _
          rw [← h]
theorem lexA_lex {s : ByteArray} {ts : List TokD} (h : lexA (s.size + 1) (bl8 s) 0 = some ts) (ha : asc (bl8 s) = true) (hs : s.size ≤ 600) : lexL s = ts ∧ lexE s = 0 := lex_of hs (lexA_ok _ _ _ _ ha h)
end Lp
/-
  The first call of chapter 9's laws: what its texts are read as.
-/
set_option linter.unusedVariables false
namespace Lp
open Go
theorem al9_1 : lexL alS1 = alT1 ∧ lexE alS1 = 0 := lexA_lex (by kernel_rfl) (by decide) (by decide)
theorem al9_2 : lexL alS2 = alT2 ∧ lexE alS2 = 0 := lexA_lex (by kernel_rfl) (by decide) (by decide)
theorem read_is {s : ByteArray} {l : List TokD} {q : QryD} (h : lexL s = l ∧ lexE s = 0) (hp : zbU rmD l = some q) : zaT s = 0 ∧ zb9 s = q := by
  unfold zaT zb9; rw [if_pos h.2, if_pos h.2, h.1, hp]; exact ⟨rfl, rfl⟩
theorem al9_r1 : zaT alS1 = 0 ∧ zb9 alS1 = ⟨alN1, 0, -1, -1⟩ := read_is al9_1 (alP1 rmD)
theorem al9_r2 : zaT alS2 = 0 ∧ zb9 alS2 = ⟨alN2, 0, -1, -1⟩ := read_is al9_2 (alP2 rmD)
def zY : List Nd := [.mk tFn zbc 0 0 [] [] [.mk nSel wCpu 300 0 [] [] []], .mk tNum ByteArray.empty 1 0 [] [] []]
def zbR : List Nd := [.mk nSel wCpu 0 0 [] [] []]
theorem al9_f : (Nd.mk tBin zU 0 0 [] [] zY).kindE = 0 ∧ (Nd.mk tBin zU 0 0 [] [] zY).kind = 2 ∧ (Nd.mk tFn zbc 0 0 [] [] zbR).kindE = 3 ∧ (Nd.mk tBin zU 0 0 [] [] zY).checkE = 0 ∧ (Nd.mk tBin zU 0 0 [] [] zY).deep = 3 := by decide
end Lp
