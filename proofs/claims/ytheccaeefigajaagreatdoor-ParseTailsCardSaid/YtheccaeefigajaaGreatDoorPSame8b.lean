/-
  The parser looks no further than it has to: selectors, aggs, all of it.
-/
import Derived.Test.YtheccaeefigajaaGreatDoorPLoc
set_option linter.unusedVariables false
namespace Lp
open Go
section
variable {r : List TokD} {s t : Rd} {k : Int} {ts : List ByteArray} {x : ByteArray}
theorem must_len (e : (s.must x).b = false) : (s.must x).l.length + 1 = s.l.length := by
  have hq : (s.take 5 [x]).2.1 = true := by
    unfold Rd.must at e; simp only [Bool.or_eq_false_iff, Bool.not_eq_false'] at e; exact e.2
  exact (zaN (by decide) hq).1
theorem any_len (hk : k ≠ 0) (e : (s.any k).2.b = false) : (s.any k).2.l.length + 1 = s.l.length := by
  have hb : s.b = false := zau zeC e
  have hp : s.pk.k = k := Decidable.byContradiction fun hn => by rw [any_no (.inr hn)] at e; cases e
  exact (any_got hk hb hp).1
theorem R.set (h : R r s t) (b : Bool) : R r ⟨s.l, s.n, b⟩ ⟨t.l, t.n, b⟩ := ⟨h.l, h.n, rfl⟩
theorem R.bracesF (hr : Hq r) : ∀ (F F' : Nat) (o : List MatD) (s t : Rd), s.l.length < F → F ≤ F' → R r s t → (bracesF F o s).2.b = false → (Lp.bracesF F' o t).1 = (Lp.bracesF F o s).1 ∧ R r (Lp.bracesF F o s).2 (Lp.bracesF F' o t).2
  | 0, _, _, s, _, h, _, _, _ => absurd h (Nat.not_lt_zero _)
  | F + 1, 0, _, _, _, _, h, _, _ => absurd h (Nat.not_succ_le_zero _)
  | F + 1, F' + 1, o, s, t, hF, hF', h, e => by
    have hb : s.b = false := zau (fun q => bracesF_b q) e
    unfold Lp.bracesF at e ⊢
    rw [if_neg (show ¬ s.b = true by rw [hb]; decide)] at e ⊢
    rw [if_neg (show ¬ t.b = true by rw [h.b, hb]; decide)]
    simp only at e ⊢
    have hv : (Rd.any ⟨((s.any 1).2.take 5 [tEq, tNe, zaR, zY]).2.2.l, ((s.any 1).2.take 5 [tEq, tNe, zaR, zY]).2.2.n, ((s.any 1).2.take 5 [tEq, tNe, zaR, zY]).2.2.b || !((s.any 1).2.take 5 [tEq, tNe, zaR, zY]).2.1⟩ 3).2.b = false := by
      split at e
      · rename_i hq; exact (zaN (by decide) hq).2.2.1
      · rw [zdQ] at e; exact e
    have hc : (((s.any 1).2.take 5 [tEq, tNe, zaR, zY]).2.2.b || !((s.any 1).2.take 5 [tEq, tNe, zaR, zY]).2.1) = false := zau (fun q => zeC (s := ⟨_, _, _⟩) q) hv
    have ha : (s.any 1).2.b = false := by
      have := (Bool.or_eq_false_iff.1 hc).1; rw [zdQ] at this; exact this
    obtain ⟨a1, a2⟩ := h.any (by decide) ha
    obtain ⟨c1, c2, c3⟩ := a2.takeq hr (qt_5 (ts := [tEq, tNe, zaR, zY]) (by decide))
    have c4 := c3.set (((s.any 1).2.take 5 [tEq, tNe, zaR, zY]).2.2.b || !((s.any 1).2.take 5 [tEq, tNe, zaR, zY]).2.1)
    obtain ⟨v1, v2⟩ := c4.any (by decide) hv
    obtain ⟨d1, d2, d3⟩ := v2.takeq hr (qt_5 (ts := [zaX]) (by decide))
    have el : (s.any 1).2.l.length + 1 = s.l.length := any_len (by decide) ha
    rw [c3.b, c2, c1, a1, v1, d2]
    split
    · rename_i hq
      rw [if_pos hq] at e
      have k1 := (zaN (by decide) hq).1
      have k2 := (zcj (⟨((s.any 1).2.take 5 [tEq, tNe, zaR, zY]).2.2.l, ((s.any 1).2.take 5 [tEq, tNe, zaR, zY]).2.2.n, ((s.any 1).2.take 5 [tEq, tNe, zaR, zY]).2.2.b || !((s.any 1).2.take 5 [tEq, tNe, zaR, zY]).2.1⟩ : Rd) 3).len
      have k3 := (zad (s.any 1).2 5 [tEq, tNe, zaR, zY]).len
      simp only at k2
      exact R.bracesF hr F F' _ _ _ (by omega) (by omega) d3 e
    · exact ⟨rfl, d3⟩
theorem bracesF_ne {F : Nat} {o : List MatD} {s : Rd} (hb : s.b = false) (e : (bracesF (F + 1) o s).2.b = false) : s.l ≠ [] := by
  unfold bracesF at e
  rw [if_neg (show ¬ s.b = true by rw [hb]; decide)] at e
  simp only at e
  have hv : (Rd.any ⟨((s.any 1).2.take 5 [tEq, tNe, zaR, zY]).2.2.l, ((s.any 1).2.take 5 [tEq, tNe, zaR, zY]).2.2.n, ((s.any 1).2.take 5 [tEq, tNe, zaR, zY]).2.2.b || !((s.any 1).2.take 5 [tEq, tNe, zaR, zY]).2.1⟩ 3).2.b = false := by
    split at e
    · rename_i hq; exact (zaN (by decide) hq).2.2.1
    · rw [zdQ] at e; exact e
  have hc : (((s.any 1).2.take 5 [tEq, tNe, zaR, zY]).2.2.b || !((s.any 1).2.take 5 [tEq, tNe, zaR, zY]).2.1) = false := zau (fun q => zeC (s := ⟨_, _, _⟩) q) hv
  have ha : (s.any 1).2.b = false := by
    have := (Bool.or_eq_false_iff.1 hc).1; rw [zdQ] at this; exact this
  exact any_ne (by decide) ha
variable (rm : List MatD → Bool)
theorem R.braces (h : R r s t) (hr : Hq r) (e : (s.braces rm).2.b = false) : (t.braces rm).1 = (s.braces rm).1 ∧ R r (s.braces rm).2 (t.braces rm).2 := by
  have h1 : (s.must zba).b = false := by
    unfold Rd.braces at e; split at e
    · exact zau zbd e
    · have e : (((Lp.bracesF _ [] (s.must zba)).2.must zbk).b || _) = false := e
      exact zau (fun q => bracesF_b q) (zau zbd (Bool.or_eq_false_iff.1 e).1)
  have r1 := h.must h1
  by_cases hl : (s.must zba).l = []
  · exfalso
    unfold Rd.braces at e
    rw [if_neg (by rw [zdC hl (by decide)]; decide)] at e
    have e : (((Lp.bracesF _ [] (s.must zba)).2.must zbk).b || _) = false := e
    exact bracesF_ne h1 (zau zbd (Bool.or_eq_false_iff.1 e).1) hl
  · have hi := r1.is (k := 5) (ts := [zbk]) hl
    unfold Rd.braces at e ⊢
    rw [hi]
    split
    · rename_i hc
      rw [if_pos hc] at e
      exact ⟨rfl, r1.must e⟩
    · rename_i hc
      rw [if_neg hc] at e
      have e' : (((Lp.bracesF _ [] (s.must zba)).2.must zbk).b || _) = false := e
      have e2 := (Bool.or_eq_false_iff.1 e').1
      have hlen := r1.len
      obtain ⟨a1, a2⟩ := R.bracesF hr _ ((t.must zba).l.length + 1) [] _ _ (Nat.lt_succ_self _) (by omega) r1 (zau zbd e2)
      have a3 := a2.must e2
      exact ⟨a1, ⟨a3.l, a3.n, by show (_ || !rm _) = (_ || !rm _); rw [a3.b, a1]⟩⟩
theorem sel_nil {s : Rd} (hl : s.l = []) : (s.selector rm).2.b = true := by
  have hp : s.pk = zbs := pk_0 (by rw [hl]; rfl)
  have e1 : s.selName = (ByteArray.empty, s) := by unfold Rd.selName; rw [if_neg (by rw [hp]; rintro ⟨a, _⟩; exact absurd a (by decide))]
  unfold Rd.selector
  simp only [e1]
  refine zdm (selWin_b ?_)
  unfold Rd.selMs
  rw [if_neg (by rw [zdC hl (by decide)]; decide)]
  show (s.b || decide (ByteArray.empty = ByteArray.empty)) = true
  rw [decide_eq_true rfl, Bool.or_true]
theorem R.selWin (h : R r s t) (hr : Hq r) (e : s.selWin.2.b = false) : t.selWin.1 = s.selWin.1 ∧ R r s.selWin.2 t.selWin.2 := by
  obtain ⟨b1, b2, b3⟩ := h.takeq hr (qt_5 (ts := [tSq]) (by decide))
  unfold Rd.selWin at e ⊢
  rw [b2]
  split
  · rename_i hc
    rw [if_pos hc] at e
    obtain ⟨a1, a2⟩ := b3.number (k := 4) (by decide) (zau zbd e)
    exact ⟨a1, a2.must e⟩
  · exact ⟨rfl, b3⟩
theorem R.selMs (h : R r s t) (hr : Hq r) (e : (s.selMs rm x).2.b = false) : (t.selMs rm x).1 = (s.selMs rm x).1 ∧ R r (s.selMs rm x).2 (t.selMs rm x).2 := by
  have hi := h.isq hr (qt_5 (ts := [zba]) (by decide))
  unfold Rd.selMs at e ⊢
  rw [hi]
  split
  · rename_i hc
    rw [if_pos hc] at e
    exact h.braces rm hr e
  · exact ⟨rfl, by show R r ⟨s.l, s.n, s.b || _⟩ ⟨t.l, t.n, t.b || _⟩; rw [h.b]; exact h.set _⟩
theorem R.selector (h : R r s t) (hr : Hq r) (hl : s.l ≠ []) (e : (s.selector rm).2.b = false) : (t.selector rm).1 = (s.selector rm).1 ∧ R r (s.selector rm).2 (t.selector rm).2 := by
  have hp := h.pk hl
  have e0 := e
  unfold Rd.selector at e
  simp only at e
  have e3 := zau zdm e
  have e2 := zau selWin_b e3
  have e1 : s.selName.2.b = false := zau (fun q => selMs_b rm q) e2
  have hn : t.selName.1 = s.selName.1 ∧ R r s.selName.2 t.selName.2 := by
    unfold Rd.selName at e1 ⊢
    rw [hp.1, hp.2]
    split
    · rename_i hc
      rw [if_pos hc] at e1
      exact h.any (by decide) e1
    · exact ⟨rfl, h⟩
  obtain ⟨m1, m2⟩ := hn.2.selMs rm hr e2
  obtain ⟨w1, w2⟩ := m2.selWin hr e3
  unfold Rd.selector
  simp only
  rw [hn.1, m1, w1]
  exact ⟨rfl, w2.node⟩
theorem Loc.mono {m m' a b : Nat} {p p' : Rd → Nd × Rd} (h : Loc r m m' p p') (ha : a ≤ m) (hb : b ≤ m') : Loc r a b p p' := fun s t h1 h2 => h s t (by omega) (by omega)
theorem R.aggr (h : R r s t) (hr : Hq r) {ex ex' : Rd → Nd × Rd} (hb : Bad ex) {m m' : Nat} (hs : s.l.length ≤ m) (ht : t.l.length ≤ m') (hx : ∀ a b, a < m → b < m' → Loc r a b ex ex') (e : (s.aggr ex).2.b = false) : (t.aggr ex').1 = (s.aggr ex).1 ∧ R r (s.aggr ex).2 (t.aggr ex').2 := by
  unfold Rd.aggr at e ⊢
  simp only at e ⊢
  have e6 := zau zbd (zau zdm e)
  have e5 := hb.no e6
  have e3 : ((s.any 1).2.mode tBy zbP |>.2.2.must zao).b = false := by
    by_cases hn : zbr (s.any 1).1 = true
    · rw [if_pos hn, if_pos hn] at e5; exact zau zeC (zau zbd e5)
    · rw [if_neg hn, if_neg hn] at e5; exact e5
  have e2 := zau zbd e3
  have e1 : (s.any 1).2.b = false := zau mode_b e2
  obtain ⟨a1, a2⟩ := h.any (by decide) e1
  obtain ⟨c1, c2, c3⟩ := a2.mode hr qt_by e2
  have c4 := c3.must e3
  have l1 := any_len (s := s) (by decide) e1
  have l2 := (zc6 (s.any 1).2 tBy zbP).len
  have l3 := must_len e3
  have t1 := a2.len; have t2 := c3.len; have t3 := c4.len; have t0 := h.len
  rw [a1, c1, c2]
  by_cases hn : zbr (s.any 1).1 = true
  · rw [if_pos hn, if_pos hn] at e5
    simp only [if_pos hn] at e e6 ⊢
    obtain ⟨n1, n2⟩ := c4.number (k := 2) (by decide) (zau zbd e5)
    have n3 := n2.must e5
    have l4 := must_len e5
    have l5 := (zbE ((s.any 1).2.mode tBy zbP |>.2.2.must zao) 2).len
    have t4 := n3.len
    obtain ⟨x1, x2⟩ := hx _ _ (by omega) (by omega) _ _ (Nat.le_refl _) (Nat.le_refl _) n3 e6
    rw [n1, x1]
    exact ⟨rfl, (x2.must (zau zdm e)).node⟩
  · rw [if_neg hn, if_neg hn] at e5
    simp only [if_neg hn] at e e6 ⊢
    obtain ⟨x1, x2⟩ := hx _ _ (by omega) (by omega) _ _ (Nat.le_refl _) (Nat.le_refl _) c4 e6
    rw [x1]
    exact ⟨rfl, (x2.must (zau zdm e)).node⟩
theorem loc_prim (hr : Hq r) {ex ex' : Rd → Nd × Rd} (hb : Bad ex) {m m' : Nat} (hx : ∀ a b, a < m → b < m' → Loc r a b ex ex') : Loc r m m' (fun s => s.prim rm ex) (fun s => s.prim rm ex') := fun s t hs ht h e => by
  have h0 : s.b = false := (prim_b rm ex).no e
  have hn : ¬ s.b = true := by rw [h0]; decide
  simp only [Rd.prim] at e ⊢
  rw [if_neg hn] at e ⊢
  rw [if_neg (show ¬ t.b = true by rw [h.b]; exact hn)]
  by_cases hl : s.l = []
  · exfalso
    have hp : s.pk = zbs := pk_0 (by rw [hl]; rfl)
    rw [if_neg (by rw [hp]; decide), if_neg (by rw [zdC hl (by decide)]; decide), if_neg (by rw [hp]; rintro ⟨a, _⟩; exact absurd a (by decide)), if_neg (by rw [hp]; rintro ⟨a, _⟩; exact absurd a (by decide)), sel_nil rm hl] at e
    cases e
  · have hp := h.pk hl
    have hi := h.is (k := 5) (ts := [zao]) hl
    have t0 := h.len
    rw [hp.1, hp.2, hi]
    split
    · rename_i hc
      rw [if_pos hc] at e
      obtain ⟨n1, n2⟩ := h.number (k := 2) (by decide) (zau zdm e)
      rw [n1]; exact ⟨rfl, n2.node⟩
    · rename_i hc
      rw [if_neg hc] at e
      split
      · rename_i hd
        rw [if_pos hd] at e
        have e1 := zau zbd e
        have e2 := hb.no e1
        have r1 := h.must e2
        have l1 := must_len e2
        have t1 := r1.len
        obtain ⟨x1, x2⟩ := hx _ _ (by omega) (by omega) _ _ (Nat.le_refl _) (Nat.le_refl _) r1 e1
        exact ⟨x1, x2.must e⟩
      · rename_i hd
        rw [if_neg hd] at e
        split
        · rename_i hf
          rw [if_pos hf] at e
          exact h.aggr hr hb hs ht hx e
        · rename_i hf
          rw [if_neg hf] at e
          split
          · rename_i hg
            rw [if_pos hg] at e
            simp only at e ⊢
            have e1 := zau zdm (zau zbd e)
            have e2 := hb.no e1
            have e3 := zau zbd e2
            obtain ⟨a1, a2⟩ := h.any (by decide) e3
            have r1 := a2.must e2
            have l0 := any_len (s := s) (by decide) e3
            have l1 := must_len e2
            have t1 := r1.len
            obtain ⟨x1, x2⟩ := hx _ _ (by omega) (by omega) _ _ (Nat.le_refl _) (Nat.le_refl _) r1 e1
            rw [a1, x1]
            exact ⟨rfl, x2.node.must e⟩
          · rename_i hg
            rw [if_neg hg] at e
            exact h.selector rm hr hl e
theorem loc_unaryF (hr : Hq r) {ex ex' : Rd → Nd × Rd} {m m' : Nat} (hp : Loc r m m' (fun s => s.prim rm ex) (fun s => s.prim rm ex')) : ∀ (F F' : Nat) (s t : Rd), s.l.length < F → F ≤ F' → s.l.length ≤ m → t.l.length ≤ m' → R r s t → (zaW rm ex F s).2.b = false → (zaW rm ex' F' t).1 = (zaW rm ex F s).1 ∧ R r (zaW rm ex F s).2 (zaW rm ex' F' t).2
  | 0, _, s, _, h, _, _, _, _, _ => absurd h (Nat.not_lt_zero _)
  | F + 1, 0, _, _, _, h, _, _, _, _ => absurd h (Nat.not_succ_le_zero _)
  | F + 1, F' + 1, s, t, hF, hF', hm, hm', h, e => by
    obtain ⟨b1, b2, b3⟩ := h.takeq hr (qt_5 (ts := [zca]) (by decide))
    have k1 := (zad s 5 [zca]).len
    have k2 := (zad t 5 [zca]).len
    unfold zaW at e ⊢
    rw [b2]
    split
    · rename_i hc
      rw [if_pos hc] at e
      simp only at e ⊢
      have hg := zaN (by decide) hc
      obtain ⟨d1, d2⟩ := loc_unaryF hr hp F F' _ _ (by omega) (by omega) (by omega) (by omega) b3 (zau zdm e)
      rw [d1]; exact ⟨rfl, d2.node⟩
    · rename_i hc
      rw [if_neg hc] at e
      exact hp _ _ (by omega) (by omega) b3 e
theorem loc_prod (hr : Hq r) {ex ex' : Rd → Nd × Rd} {m m' : Nat} (hb : Bad ex) (hs : ∀ s, Stp 1 s (ex s).2) (hs' : ∀ s, Stp 1 s (ex' s).2) (hx : ∀ a b, a < m → b < m' → Loc r a b ex ex') : Loc r m m' (zel rm ex) (zel rm ex') :=
  zc7 hr (qt_5 (by decide)) (fun s h => unaryF_b rm ex _ s h) (fun s t h1 h2 h e => loc_unaryF rm hr (loc_prim rm hr hb hx) _ _ s t (Nat.lt_succ_self _) (by have := h.len; omega) h1 h2 h e) (fun s => zb9 rm hs _ s) (fun s => zb9 rm hs' _ s)
theorem loc_sum (hr : Hq r) {ex ex' : Rd → Nd × Rd} {m m' : Nat} (hb : Bad ex) (hs : ∀ s, Stp 1 s (ex s).2) (hs' : ∀ s, Stp 1 s (ex' s).2) (hx : ∀ a b, a < m → b < m' → Loc r a b ex ex') : Loc r m m' (sumP rm ex) (sumP rm ex') :=
  zc7 hr (qt_5 (by decide)) (prod_b rm ex) (loc_prod rm hr hb hs hs' hx) (fun s => prodP_stp rm hs s) (fun s => prodP_stp rm hs' s)
theorem loc_expr (hr : Hq r) : ∀ f f' : Nat, Loc r f f' (zbK rm (f + 1)) (zbK rm (f' + 1))
  | 0, f' => zc7 hr (qt_5 (by decide)) (sum_b rm _) (loc_sum rm hr (expr_b rm _) (zaE rm _) (zaE rm _) (fun a b ha _ => absurd ha (Nat.not_lt_zero _))) (fun s => zcm rm (zaE rm _) s) (fun s => zcm rm (zaE rm _) s)
  | f + 1, 0 => zc7 hr (qt_5 (by decide)) (sum_b rm _) (loc_sum rm hr (expr_b rm _) (zaE rm _) (zaE rm _) (fun a b _ hb => absurd hb (Nat.not_lt_zero _))) (fun s => zcm rm (zaE rm _) s) (fun s => zcm rm (zaE rm _) s)
  | f + 1, f' + 1 => zc7 hr (qt_5 (by decide)) (sum_b rm _) (loc_sum rm hr (expr_b rm _) (zaE rm _) (zaE rm _) (fun a b ha hb => (loc_expr hr f f').mono (by omega) (by omega))) (fun s => zcm rm (zaE rm _) s) (fun s => zcm rm (zaE rm _) s)
end
end Lp
/-
  Brackets round a query (chapter 8).
-/
set_option linter.unusedVariables false
namespace Lp
open Go
/-- words of bytes, wherever these stand -/
theorem words_er {l : List UInt8} {a : Nat} {ts : List TokD} (h : zP l 0 = some ts) : ∃ us, zP l a = some us ∧ us.map er = ts.map er := by
  have e := wordsL_by a _ l 0 rfl
  rw [h, Nat.zero_add] at e
  exact ⟨_, e, by simp only [List.map_map]; exact List.map_congr_left fun x _ => rfl⟩
theorem words_cat {l r : List UInt8} {ts us : List TokD} (hr : Stop r) (h : zP l 0 = some ts) (h2 : zP r 0 = some us) : ∃ vs, zP (l ++ r) 0 = some vs ∧ vs.map er = (ts ++ us).map er := by
  obtain ⟨u2, e1, e2⟩ := words_er (a := 0 + l.length) h2
  refine ⟨ts ++ u2, ?_, ?_⟩
  · rw [wordsL_app hr _ l 0 ts rfl h, e1]; rfl
  · rw [List.map_append, List.map_append, e2]
section
variable {rm : List MatD → Bool}
end
/-! ### a whole query -/
section
variable (rm : List MatD → Bool)
theorem bound_b {s : Rd} {w : ByteArray} (h : s.b = true) : (s.bound w).2.b = true := by
  unfold Rd.bound; rw [zc0 h]; simpa using h
theorem order_b {s : Rd} (h : s.b = true) : s.order.2.b = true := by
  unfold Rd.order; rw [zc0 h]; simpa using h
/-- what a query that was read began with, and what stood behind -/
theorem parse_parts {l : List TokD} {q : QryD} (h : zbB rm l = some q) : (zbK rm (l.length + 1) ⟨l, 0, false⟩).1 = q.root ∧ (zbK rm (l.length + 1) ⟨l, 0, false⟩).2.b = false ∧
    ((q.order = 0 ∧ q.limit = -1 ∧ q.offset = -1 ∧ (zbK rm (l.length + 1) ⟨l, 0, false⟩).2.l = []) ∨ ((q.order ≠ 0 ∨ 0 ≤ q.limit ∨ 0 ≤ q.offset) ∧ ∃ y m, (zbK rm (l.length + 1) ⟨l, 0, false⟩).2.l = y :: m ∧ y.k = 1)) := by
  unfold zbB at h
  simp only at h
  split at h
  · cases h
  · rename_i hc
    injection h with h
    have hb : (((zbK rm (l.length + 1) ⟨l, 0, false⟩).2.order.2.bound zap).2.bound zV).2.b = false := by
      cases e : (((zbK rm (l.length + 1) ⟨l, 0, false⟩).2.order.2.bound zap).2.bound zV).2.b with
      | false => rfl
      | true => exact absurd (.inl e) hc
    have hl : (((zbK rm (l.length + 1) ⟨l, 0, false⟩).2.order.2.bound zap).2.bound zV).2.l = [] := by
      rcases Nat.eq_zero_or_pos (((zbK rm (l.length + 1) ⟨l, 0, false⟩).2.order.2.bound zap).2.bound zV).2.l.length with e | e
      · exact List.length_eq_zero_iff.1 e
      · exact absurd (.inr e) hc
    have b1 := zau (fun q => bound_b q) hb
    have b2 := zau (fun q => bound_b q) b1
    have b3 := zau (fun q => order_b q) b2
    subst h
    refine ⟨rfl, b3, ?_⟩
    generalize (zbK rm (l.length + 1) ⟨l, 0, false⟩).2 = u at *
    have pos : ∀ (x : ByteArray), (0 : Int) ≤ numV x := fun x => by unfold numV; omega
    -- a word was taken, or none
    have word : ∀ (s : Rd) (ts : List ByteArray), (s.take 1 ts).2.1 = true → ∃ y m, s.l = y :: m ∧ y.k = 1 := fun s ts hq => by
      have hg := zaN (by decide) hq
      have hl : s.l ≠ [] := is_ne' (k := 1) (by decide) hg.2.2.2.2
      obtain ⟨y, m, e⟩ := List.exists_cons_of_ne_nil hl
      refine ⟨y, m, e, ?_⟩
      have := is_k hg.2.2.2.2
      unfold Rd.pk at this; rw [e] at this; exact this
    by_cases ho : (u.take 1 [zay]).2.1 = true
    · refine .inr ⟨.inl ?_, word u _ ho⟩
      show u.order.1 ≠ 0
      unfold Rd.order; simp only
      rw [if_neg (by rw [ho]; decide)]
      split
      · show (2 : Int) ≠ 0; decide
      · show (1 : Int) ≠ 0; decide
    · have ho' : (u.take 1 [zay]).2.1 = false := by simpa using ho
      have hu2 : (u.take 1 [zay]).2.2 = u := by
        unfold Rd.take at ho' ⊢; split
        · rfl
        · rename_i hc2; rw [if_neg hc2] at ho'; cases ho'
      have eo : u.order = (0, u) := by unfold Rd.order; simp only; rw [if_pos ho', hu2]
      rw [eo] at hl b1 b2 ⊢
      simp only at hl b1 b2 ⊢
      have bd : ∀ (s : Rd) (w : ByteArray), (s.take 1 [w]).2.1 = false → s.bound w = (-1, s) := fun s w hw => by
        have : (s.take 1 [w]).2.2 = s := by
          unfold Rd.take at hw ⊢; split
          · rfl
          · rename_i hc2; rw [if_neg hc2] at hw; cases hw
        unfold Rd.bound; rw [if_pos hw, this]
      have bp : ∀ (s : Rd) (w : ByteArray), ¬ (s.take 1 [w]).2.1 = false → 0 ≤ (s.bound w).1 := fun s w hw => by
        unfold Rd.bound; rw [if_neg hw]; exact pos _
      by_cases h1 : (u.take 1 [zap]).2.1 = false
      · rw [bd u zap h1] at hl b1 ⊢
        simp only at hl b1 ⊢
        by_cases h2 : (u.take 1 [zV]).2.1 = false
        · rw [bd u zV h2] at hl ⊢
          exact .inl ⟨by first | rfl | trivial, by first | rfl | trivial, by first | rfl | trivial, hl⟩
        · exact .inr ⟨.inr (.inr (bp u zV h2)), word u _ (by simpa using h2)⟩
      · exact .inr ⟨.inr (.inl (bp u zap h1)), word u _ (by simpa using h1)⟩
end
theorem readE_w {s : ByteArray} (h : zL s = 0) : ∃ ts, zP (bl8 s) 0 = some ts ∧ zbB rmD ts = some (zbQ s) ∧ s.size ≤ 600 := by
  obtain ⟨h1, h2⟩ := readE_0 h
  obtain ⟨h3, h4⟩ := zee h1
  exact ⟨_, h4, h2, by omega⟩
theorem read_words {s : ByteArray} {ts : List TokD} (hs : s.size ≤ 600) (h : zP (bl8 s) 0 = some ts) : lexL s = ts ∧ lexE s = 0 := by
  unfold lexL lexE
  rw [if_neg (by omega), if_neg (by omega), h]; exact ⟨rfl, rfl⟩
end Lp
/-
  What stands behind a query: order, limit, offset (chapter 8).
-/
set_option linter.unusedVariables false
namespace Lp
open Go
/-- a text's words, wherever these stand -/
def Lx (s : ByteArray) (W : List TokD) : Prop := ∃ vs, zP (bl8 s) 0 = some vs ∧ vs.map er = W.map er
theorem bl8_app (a b : ByteArray) : bl8 (a ++ b) = bl8 a ++ bl8 b := by simp [bl8]
theorem Lx.cat {s r : ByteArray} {W V : List TokD} (h : Lx s W) (k : Lx r V) (hr : Stop (bl8 r)) : Lx (s ++ r) (W ++ V) := by
  obtain ⟨vs, e1, e2⟩ := h
  obtain ⟨us, e3, e4⟩ := k
  obtain ⟨ws, e5, e6⟩ := words_cat hr e1 e3
  refine ⟨ws, by rw [bl8_app]; exact e5, ?_⟩
  rw [e6, List.map_append, List.map_append, e2, e4]
theorem Lx.lex {s : ByteArray} {W : List TokD} (h : Lx s W) (hs : s.size ≤ 600) : lexE s = 0 ∧ (lexL s).map er = W.map er := by
  obtain ⟨vs, e1, e2⟩ := h
  obtain ⟨a, b⟩ := read_words hs e1
  exact ⟨b, by rw [a]; exact e2⟩
theorem lx_of {s : ByteArray} {ts : List TokD} (h : lexL s = ts ∧ lexE s = 0) : Lx s ts := by
  obtain ⟨h1, h2⟩ := zee h.2
  exact ⟨_, h2, by rw [h.1]⟩
abbrev wk (t : ByteArray) : TokD := ⟨1, 0, t⟩
theorem lx_asc : Lx zer [wk zay, wk tAsc] := by
  obtain ⟨vs, a, b⟩ := lx_of (s := zer) (ts := [⟨1, 1, zay⟩, ⟨1, 7, tAsc⟩]) (zc9 (by kernel_rfl) (by decide) (by decide))
  exact ⟨vs, a, b⟩
theorem lx_desc : Lx tODesc [wk zay, wk zdp] := by
  obtain ⟨vs, a, b⟩ := lx_of (s := tODesc) (ts := [⟨1, 1, zay⟩, ⟨1, 7, zdp⟩]) (zc9 (by kernel_rfl) (by decide) (by decide))
  exact ⟨vs, a, b⟩
abbrev tLimit0 : ByteArray := ⟨#[32, 108, 105, 109, 105, 116]⟩
abbrev tOffset0 : ByteArray := ⟨#[32, 111, 102, 102, 115, 101, 116]⟩
theorem lx_limit : Lx tLimit0 [wk zap] := by
  obtain ⟨vs, a, b⟩ := lx_of (s := tLimit0) (ts := [⟨1, 1, zap⟩]) (zc9 (by kernel_rfl) (by decide) (by decide))
  exact ⟨vs, a, b⟩
theorem lx_offset : Lx tOffset0 [wk zV] := by
  obtain ⟨vs, a, b⟩ := lx_of (s := tOffset0) (ts := [⟨1, 1, zV⟩]) (zc9 (by kernel_rfl) (by decide) (by decide))
  exact ⟨vs, a, b⟩
theorem lx_dig {v : Nat} (hv : v ≤ 1000000000000) : Lx (digB v) [⟨2, 0, digB v⟩] := by
  have h := words_join1 (good_num hv) 0
  rw [joinT_o (show ¬ (2 : Int) = 3 by decide) (show ¬ (2 : Int) = 4 by decide)] at h
  exact ⟨_, h, rfl⟩
theorem lx_sp {s : ByteArray} {W : List TokD} (h : Lx s W) : Lx (tSp ++ s) W := by
  obtain ⟨vs, e1, e2⟩ := h
  obtain ⟨us, e3, e4⟩ := words_er (a := 1) e1
  refine ⟨us, ?_, e4.trans e2⟩
  rw [bl8_app]
  rw [show bl8 tSp ++ bl8 s = [32] ++ bl8 s from rfl, wordsL_blank (by intro b hb; rw [List.mem_singleton.1 hb]; exact .inl rfl)]
  exact e3
theorem lx_num {k k0 x : ByteArray} {v : Nat} (hv : v ≤ 1000000000000) (hk : k = k0 ++ tSp) (h : Lx k0 [wk x]) : Lx (k ++ digB v) [wk x, ⟨2, 0, digB v⟩] := by
  rw [hk, ByteArray.append_assoc]
  refine h.cat (lx_sp (lx_dig hv)) ?_
  rw [bl8_app]; exact zdJ _
/-! ### the parser, behind a query -/
structure St (r : List TokD) (u : Rd) : Prop where
  l : u.l.map er = r.map er
  b : u.b = false
section
variable {r : List TokD} {u : Rd} {x y : TokD} {k : Int} {ts : List ByteArray} {w : ByteArray}
theorem St.pk (h : St (x :: r) u) : u.pk.k = x.k ∧ u.pk.t = x.t := by
  have e1 := pk_er (s := u); rw [h.l] at e1
  exact er_kt (show er u.pk = er x from e1)
theorem St.yes (h : St (x :: r) u) (hk : x.k = k) (ht : hasN ts x.t = true) : u.take k ts = (x.t, true, ⟨u.l.tail, u.n, u.b⟩) ∧ St r ⟨u.l.tail, u.n, u.b⟩ := by
  obtain ⟨e2, e3⟩ := h.pk
  have hi : u.is k ts = true := by unfold Rd.is; rw [e2, e3, hk, ht]; simp
  refine ⟨by unfold Rd.take; rw [if_neg (by rw [h.b, hi]; simp), e3], ?_, h.b⟩
  show u.l.tail.map er = _
  rw [List.map_tail, h.l]; rfl
theorem St.not (h : St r u) (hn : r = [] ∨ ∃ z r', r = z :: r' ∧ (z.k ≠ k ∨ hasN ts z.t = false)) (hk : k ≠ 0) : u.take k ts = (ByteArray.empty, false, u) := by
  refine take_no (.inr ?_)
  rcases hn with rfl | ⟨z, r', rfl, hz⟩
  · exact zdC (List.map_eq_nil_iff.1 h.l) hk
  · obtain ⟨e2, e3⟩ := h.pk
    unfold Rd.is; rw [e2, e3]
    rcases hz with hz | hz
    · rw [decide_eq_false hz]; rfl
    · rw [hz, Bool.and_false]
theorem St.any (h : St (x :: r) u) (hk : x.k = k) : u.any k = (x.t, ⟨u.l.tail, u.n, u.b⟩) ∧ St r ⟨u.l.tail, u.n, u.b⟩ := by
  obtain ⟨e2, e3⟩ := h.pk
  refine ⟨by unfold Rd.any; rw [if_neg (by rw [h.b, e2, hk]; simp), e3], ?_, h.b⟩
  show u.l.tail.map er = _
  rw [List.map_tail, h.l]; rfl
theorem St.asc (h : St (wk zay :: wk tAsc :: r) u) : ∃ v, u.order = (1, v) ∧ St r v := by
  obtain ⟨a1, a2⟩ := h.yes (k := 1) (ts := [zay]) rfl (by decide)
  have b1 := a2.not (k := 1) (ts := [zdp]) (.inr ⟨_, _, rfl, .inr (by decide)⟩) (by decide)
  obtain ⟨c1, c2⟩ := a2.any (k := 1) rfl
  refine ⟨_, ?_, c2⟩
  unfold Rd.order; simp only
  rw [a1]; simp only
  rw [b1]; simp only
  rw [c1]
  rw [if_neg (by decide), if_neg (by decide)]
  simp only [ne_eq, not_true_eq_false, decide_false, Bool.or_false]
theorem St.desc (h : St (wk zay :: wk zdp :: r) u) : ∃ v, u.order = (2, v) ∧ St r v := by
  obtain ⟨a1, a2⟩ := h.yes (k := 1) (ts := [zay]) rfl (by decide)
  obtain ⟨b1, b2⟩ := a2.yes (k := 1) (ts := [zdp]) rfl (by decide)
  refine ⟨_, ?_, b2⟩
  unfold Rd.order; simp only
  rw [a1]; simp only
  rw [b1]
  rw [if_neg (by decide), if_pos rfl]
theorem St.ord0 (h : St r u) (hn : r = [] ∨ ∃ z r', r = z :: r' ∧ (z.k ≠ 1 ∨ hasN [zay] z.t = false)) : u.order = (0, u) := by
  unfold Rd.order; rw [h.not hn (by decide)]; simp
theorem St.bnd {v : Nat} (h : St (wk w :: ⟨2, 0, digB v⟩ :: r) u) : ∃ z, u.bound w = ((v : Int), z) ∧ z.l.map er = r.map er ∧ z.b = decide (2000 < (v : Int)) := by
  obtain ⟨a1, a2⟩ := h.yes (k := 1) (ts := [w]) rfl (by simp [hasN])
  obtain ⟨c1, c2⟩ := a2.any (k := 2) rfl
  have hb : u.b = false := h.b
  refine ⟨⟨u.l.tail.tail, u.n, u.b || decide (2000 < numV (digB v))⟩, ?_, c2.l, ?_⟩
  · unfold Rd.bound
    rw [a1, if_neg (by simp)]
    unfold Rd.number; rw [c1]
    show (numV (digB v), _) = _
    rw [numV_dig]
  · show (u.b || decide (2000 < numV (digB v))) = _
    rw [hb, numV_dig]; rfl
theorem St.bnd0 (h : St r u) (hn : r = [] ∨ ∃ z r', r = z :: r' ∧ (z.k ≠ 1 ∨ hasN [w] z.t = false)) : u.bound w = (-1, u) := by
  unfold Rd.bound; rw [h.not hn (by decide)]; simp
end
/-! ### all of it -/
def ordW (o : Int) : List TokD := if o = 1 then [wk zay, wk tAsc] else if o = 2 then [wk zay, wk zdp] else []
def numW (x : ByteArray) (n : Int) : List TokD := if 0 ≤ n then [wk x, ⟨2, 0, digB n.toNat⟩] else []
theorem Lx.ord {s : ByteArray} {W : List TokD} (h : Lx s W) (o : Int) : Lx (ordP o s) (W ++ ordW o) := by
  unfold ordP ordW
  split
  · exact h.cat lx_asc (zdJ _)
  · split
    · exact h.cat lx_desc (zdJ _)
    · rw [List.append_nil]; exact h
theorem Lx.lim {s : ByteArray} {W : List TokD} (h : Lx s W) {n : Int} (hn : n ≤ 1000000000000) : Lx (limP zbj n s) (W ++ numW zap n) := by
  unfold limP numW
  split
  · exact h.cat (lx_num (k0 := tLimit0) (by omega) rfl lx_limit) (zdJ _)
  · rw [List.append_nil]; exact h
theorem Lx.off {s : ByteArray} {W : List TokD} (h : Lx s W) {n : Int} (hn : n ≤ 1000000000000) : Lx (limP zc1 n s) (W ++ numW zV n) := by
  unfold limP numW
  split
  · exact h.cat (lx_num (k0 := tOffset0) (by omega) rfl lx_offset) (zdJ _)
  · rw [List.append_nil]; exact h
/-- what the parser makes of what stands behind a query, and of z -/
def endQ (u : Rd) : Int × Int × Int × Rd := (u.order.1, (u.order.2.bound zap).1, ((u.order.2.bound zap).2.bound zV).1, ((u.order.2.bound zap).2.bound zV).2)
theorem end_is {V : List TokD} (hV : V = [] ∨ ∃ r', V = wk zay :: r') {o l f : Int} (ho : o = 0 ∨ o = 1 ∨ o = 2) (hl : -1 ≤ l) (hf : -1 ≤ f) (hv : V = [] ∨ 0 < o ∨ 0 ≤ l ∨ 0 ≤ f) {u : Rd} (h : St (ordW o ++ (numW zap l ++ (numW zV f ++ V))) u) :
    if 2000 < l ∨ 2000 < f then (endQ u).2.2.2.b = true else (endQ u).1 = o ∧ (endQ u).2.1 = l ∧ (endQ u).2.2.1 = f ∧ (endQ u).2.2.2.l.map er = V.map er ∧ (endQ u).2.2.2.b = false := by
  -- order
  have h1 : ∃ v, u.order = (o, v) ∧ St (numW zap l ++ (numW zV f ++ V)) v := by
    rcases ho with rfl | rfl | rfl
    · refine ⟨u, h.ord0 ?_, h⟩
      show numW zap l ++ (numW zV f ++ V) = [] ∨ ∃ z r', numW zap l ++ (numW zV f ++ V) = z :: r' ∧ _
      unfold numW
      split
      · exact .inr ⟨_, _, rfl, .inr (by decide)⟩
      · split
        · exact .inr ⟨_, _, rfl, .inr (by decide)⟩
        · rcases hv with rfl | hv | hv | hv
          · exact .inl rfl
          · omega
          · omega
          · omega
    · exact h.asc
    · exact h.desc
  obtain ⟨v, e1, s1⟩ := h1
  unfold endQ
  rw [e1]; simp only
  -- limit
  have hlw : ¬ 0 ≤ l → numW zV f ++ V = [] ∨ ∃ z r', numW zV f ++ V = z :: r' ∧ (z.k ≠ 1 ∨ hasN [zap] z.t = false) := fun _ => by
    unfold numW; split
    · exact .inr ⟨_, _, rfl, .inr (by decide)⟩
    · rcases hV with rfl | ⟨r', rfl⟩
      · exact .inl rfl
      · exact .inr ⟨_, _, rfl, .inr (by decide)⟩
  have hfw : ¬ 0 ≤ f → V = [] ∨ ∃ z r', V = z :: r' ∧ (z.k ≠ 1 ∨ hasN [zV] z.t = false) := fun _ => by
    rcases hV with rfl | ⟨r', rfl⟩
    · exact .inl rfl
    · exact .inr ⟨_, _, rfl, .inr (by decide)⟩
  have h2 : ∃ z, v.bound zap = (l, z) ∧ z.l.map er = (numW zV f ++ V).map er ∧ z.b = decide (2000 < l) := by
    by_cases hl0 : 0 ≤ l
    · unfold numW at s1; rw [if_pos hl0] at s1
      obtain ⟨z, a, b, c⟩ := s1.bnd
      rw [show ((l.toNat : Nat) : Int) = l by omega] at a c
      exact ⟨z, a, b, c⟩
    · have e : numW zap l = [] := by unfold numW; rw [if_neg hl0]
      rw [e, List.nil_append] at s1
      refine ⟨v, ?_, s1.l, ?_⟩
      · rw [s1.bnd0 (hlw hl0), show l = -1 by omega]
      · rw [s1.b, decide_eq_false (by omega)]
  obtain ⟨z, e2, e3, e4⟩ := h2
  rw [e2]; simp only
  by_cases hl2 : 2000 < l
  · rw [if_pos (.inl hl2)]
    exact bound_b (by rw [e4, decide_eq_true hl2])
  · rw [decide_eq_false hl2] at e4
    have s2 : St (numW zV f ++ V) z := ⟨e3, e4⟩
    have h3 : ∃ y, z.bound zV = (f, y) ∧ y.l.map er = V.map er ∧ y.b = decide (2000 < f) := by
      by_cases hf0 : 0 ≤ f
      · unfold numW at s2; rw [if_pos hf0] at s2
        obtain ⟨y, a, b, c⟩ := s2.bnd
        rw [show ((f.toNat : Nat) : Int) = f by omega] at a c
        exact ⟨y, a, b, c⟩
      · have e : numW zV f = [] := by unfold numW; rw [if_neg hf0]
        rw [e, List.nil_append] at s2
        refine ⟨z, ?_, s2.l, ?_⟩
        · rw [s2.bnd0 (hfw hf0), show f = -1 by omega]
        · rw [s2.b, decide_eq_false (by omega)]
    obtain ⟨y, e5, e6, e7⟩ := h3
    rw [e5]; simp only
    by_cases hf2 : 2000 < f
    · rw [if_pos (.inr hf2), e7, decide_eq_true hf2]
    · rw [if_neg (by omega)]
      exact ⟨trivial, trivial, trivial, e6, by rw [e7, decide_eq_false hf2]⟩
theorem parse_endQ (rm : List MatD → Bool) {L : List TokD} {n : Nd} {u : Rd} (e : zbK rm (L.length + 1) ⟨L, 0, false⟩ = (n, u)) : zbB rm L = if (endQ u).2.2.2.b = true ∨ 0 < (endQ u).2.2.2.l.length then none else some ⟨n, (endQ u).1, (endQ u).2.1, (endQ u).2.2.1⟩ := by
  unfold zbB; simp only
  rw [e]; rfl
theorem ordW_hq (o : Int) {V : List TokD} (h : Hq V) : Hq (ordW o ++ V) := by
  unfold ordW; split
  · exact fun y e => by injection e with e; subst e; exact .inr ⟨rfl, .inl rfl⟩
  · split
    · exact fun y e => by injection e with e; subst e; exact .inr ⟨rfl, .inl rfl⟩
    · exact h
theorem numW_hq {x : ByteArray} (hx : x = zap ∨ x = zV) (n : Int) {V : List TokD} (h : Hq V) : Hq (numW x n ++ V) := by
  unfold numW; split
  · exact fun y e => by injection e with e; subst e; exact .inr ⟨rfl, .inr hx⟩
  · exact h
/-- a query that is whole, and what is put behind it -/
theorem parse_tail {l L V : List TokD} {q : QryD} {o li f : Int} (h : zbB rmD l = some q) (h0 : ¬ (q.order ≠ 0 ∨ 0 ≤ q.limit ∨ 0 ≤ q.offset)) (hV : V = [] ∨ ∃ r', V = wk zay :: r') (ho : o = 0 ∨ o = 1 ∨ o = 2) (hl : -1 ≤ li) (hf : -1 ≤ f) (hv : V = [] ∨ 0 < o ∨ 0 ≤ li ∨ 0 ≤ f)
    (hL : L.map er = (l ++ (ordW o ++ (numW zap li ++ (numW zV f ++ V)))).map er) : zbB rmD L = if 2000 < li ∨ 2000 < f ∨ V ≠ [] then none else some ⟨q.root, o, li, f⟩ := by
  obtain ⟨h1, h2, h3⟩ := parse_parts rmD h
  rcases h3 with ⟨_, _, _, k4⟩ | ⟨k1, _⟩
  · have hq : Hq (ordW o ++ (numW zap li ++ (numW zV f ++ V))) := ordW_hq o (numW_hq (.inl rfl) li (numW_hq (.inr rfl) f (by
      rcases hV with rfl | ⟨r', rfl⟩
      · exact fun y e => by cases e
      · exact fun y e => by injection e with e; subst e; exact .inr ⟨rfl, .inl rfl⟩)))
    have hR : R (ordW o ++ (numW zap li ++ (numW zV f ++ V))) ⟨l, 0, false⟩ ⟨L, 0, false⟩ := ⟨hL, rfl, rfl⟩
    obtain ⟨a1, a2⟩ := loc_expr rmD hq l.length L.length _ _ (Nat.le_refl _) (Nat.le_refl _) hR h2
    have s1 : St (ordW o ++ (numW zap li ++ (numW zV f ++ V))) (zbK rmD (L.length + 1) ⟨L, 0, false⟩).2 := ⟨by rw [a2.l, k4, List.nil_append], a2.b.trans h2⟩
    have e := end_is hV ho hl hf hv s1
    rw [parse_endQ rmD (n := q.root) (Prod.ext (a1.trans h1) rfl)]
    by_cases hc : 2000 < li ∨ 2000 < f
    · rw [if_pos hc] at e
      rw [if_pos (.inl e), if_pos (by rcases hc with hc | hc; exact .inl hc; exact .inr (.inl hc))]
    · rw [if_neg hc] at e
      obtain ⟨e1, e2, e3, e4, e5⟩ := e
      have e6 := congrArg List.length e4
      rw [List.length_map, List.length_map] at e6
      rcases hV with rfl | ⟨r', rfl⟩
      · rw [if_neg (by rw [e5, e6]; simp), if_neg (by rintro (k | k | k); exact hc (.inl k); exact hc (.inr k); exact k rfl), e1, e2, e3]
      · rw [if_pos (.inr (by rw [e6]; simp)), if_pos (.inr (.inr (by simp)))]
  · exact absurd k1 h0
theorem read_none {s : ByteArray} (hE : lexE s = 0) (h : zbB rmD (lexL s) = none) : zL s = 2 := by unfold zL; rw [if_pos hE, h]; rfl
theorem read_some {s : ByteArray} {q : QryD} (hE : lexE s = 0) (h : zbB rmD (lexL s) = some q) : zL s = 0 ∧ zbQ s = q := by unfold zL zbQ; rw [if_pos hE, if_pos hE, h]; exact ⟨rfl, rfl⟩
def zU (s : ByteArray) (o l f : Int) : ByteArray := limP zc1 f (limP zbj l (ordP o s))
theorem limP_sz {k t : ByteArray} {n : Int} (hn : n ≤ 1000000000000) (hk : k.size ≤ 8) : (limP k n t).size ≤ t.size + 28 := by
  unfold limP; split
  · have := digB_le (show n.toNat ≤ 1000000000000 by omega)
    simp only [ByteArray.size_append]; omega
  · omega
theorem ordP_sz (o : Int) (t : ByteArray) : (ordP o t).size ≤ t.size + 11 := by
  have h1 : zer.size = 10 := rfl
  have h2 : tODesc.size = 11 := rfl
  unfold ordP; split
  · simp only [ByteArray.size_append]; omega
  · split
    · simp only [ByteArray.size_append]; omega
    · omega
theorem tailT_sz {s : ByteArray} {o l f : Int} (hl : l ≤ 3000) (hf : f ≤ 3000) : (zU s o l f).size ≤ s.size + 70 := by
  have h1 := limP_sz (k := zc1) (t := limP zbj l (ordP o s)) (n := f) (by omega) (by decide)
  have h2 := limP_sz (k := zbj) (t := ordP o s) (n := l) (by omega) (by decide)
  have h3 := ordP_sz o s
  unfold zU; omega
theorem read_tail {s : ByteArray} {o l f : Int} (hs : s.size ≤ 300) (h : zL s = 0) (h0 : ¬ ((zbQ s).order ≠ 0 ∨ 0 ≤ (zbQ s).limit ∨ 0 ≤ (zbQ s).offset)) (ho : o = 0 ∨ o = 1 ∨ o = 2) (hl : -1 ≤ l ∧ l ≤ 3000) (hf : -1 ≤ f ∧ f ≤ 3000) :
    (2000 < l ∨ 2000 < f → zL (zU s o l f) = 2) ∧ (¬ (2000 < l ∨ 2000 < f) → zL (zU s o l f) = 0 ∧ zbQ (zU s o l f) = ⟨(zbQ s).root, o, l, f⟩ ∧ (zL (zU s o l f ++ zer) = 2 ∨ (o = 0 ∧ l < 0 ∧ f < 0))) := by
  obtain ⟨ts, h1, h2, h3⟩ := readE_w h
  have hz := tailT_sz (s := s) (o := o) hl.2 hf.2
  have L0 : Lx s ts := ⟨ts, h1, rfl⟩
  have L1 : Lx (zU s o l f) (ts ++ ordW o ++ numW zap l ++ numW zV f) := ((L0.ord o).lim (by omega)).off (by omega)
  have L2 : Lx (zU s o l f ++ zer) (ts ++ ordW o ++ numW zap l ++ numW zV f ++ [wk zay, wk tAsc]) := L1.cat lx_asc (zdJ _)
  obtain ⟨x1, y1⟩ := L1.lex (by omega)
  obtain ⟨x2, y2⟩ := L2.lex (by have : zer.size = 10 := rfl; simp only [ByteArray.size_append]; omega)
  have p1 := parse_tail (V := []) h2 h0 (.inl rfl) ho hl.1 hf.1 (.inl rfl) (by rw [y1]; simp)
  constructor
  · intro hc
    rw [if_pos (by rcases hc with hc | hc; exact .inl hc; exact .inr (.inl hc))] at p1
    exact read_none x1 p1
  · intro hc
    rw [if_neg (by rintro (k | k | k); exact hc (.inl k); exact hc (.inr k); exact k rfl)] at p1
    obtain ⟨a, b⟩ := read_some x1 p1
    refine ⟨a, b, ?_⟩
    by_cases hv : 0 < o ∨ 0 ≤ l ∨ 0 ≤ f
    · left
      have p2 := parse_tail (V := [wk zay, wk tAsc]) h2 h0 (.inr ⟨_, rfl⟩) ho hl.1 hf.1 (.inr hv) (by rw [y2]; simp)
      rw [if_pos (.inr (.inr (by simp)))] at p2
      exact read_none x2 p2
    · right; omega
end Lp
/-
  What parse.Same says; tails again.
-/
set_option linter.unusedVariables false
namespace Lp
open Go
noncomputable def zc8 (a b : List Nd) : Bool := @decide (a = b) (Classical.propDecidable _)
theorem listB_t {a b : List Nd} (h : a = b) : true = zc8 a b := (@decide_eq_true _ (Classical.propDecidable _) h).symm
theorem listB_f {a b : List Nd} (h : a ≠ b) : false = zc8 a b := (@decide_eq_false _ (Classical.propDecidable _) h).symm
theorem listB_is {a b : List Nd} : zc8 a b = true ↔ a = b := ⟨fun h => @of_decide_eq_true _ (Classical.propDecidable _) h, fun h => (listB_t h).symm⟩
theorem eqB_and {a1 a2 b1 b2 : ByteArray} {a3 a4 b3 b4 : Int} {a5 b5 : List ByteArray} {a6 b6 : List MatD} {a7 b7 : List Nd} :
    ((((((decide (a1 = b1) && decide (a2 = b2)) && decide (a3 = b3)) && decide (a4 = b4)) && decide (a5 = b5)) && decide (a6 = b6)) && zc8 a7 b7) = (Nd.mk a1 a2 a3 a4 a5 a6 a7).eqB (Nd.mk b1 b2 b3 b4 b5 b6 b7) := by
  rw [Bool.eq_iff_iff, eqB_is]
  simp only [Bool.and_eq_true, decide_eq_true_eq, listB_is, Nd.mk.injEq]
  constructor
  · rintro ⟨⟨⟨⟨⟨⟨h1, h2⟩, h3⟩, h4⟩, h5⟩, h6⟩, h7⟩; exact ⟨h1, h2, h3, h4, h5, h6, h7⟩
  · rintro ⟨h1, h2, h3, h4, h5, h6, h7⟩; exact ⟨⟨⟨⟨⟨⟨h1, h2⟩, h3⟩, h4⟩, h5⟩, h6⟩, h7⟩
def ordO (o : Int) : Int := if o = 1 then 1 else if o = 2 then 2 else 0
theorem ordO_3 (o : Int) : ordO o = 0 ∨ ordO o = 1 ∨ ordO o = 2 := by
  unfold ordO; split
  · simp
  · split <;> simp
theorem ordO_P (o : Int) (t : ByteArray) : ordP (ordO o) t = ordP o t := by
  unfold ordO
  by_cases h1 : o = 1
  · rw [if_pos h1, h1]
  · by_cases h2 : o = 2
    · rw [if_neg h1, if_pos h2, h2]
    · rw [if_neg h1, if_neg h2]; unfold ordP; rw [if_neg h1, if_neg h2]; rfl
end Lp
