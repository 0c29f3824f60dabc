/-
  What is said of vectors (chapter 10), as plain data.
-/
import Derived.Test.YtadbniofinhadaaV2
set_option linter.unusedVariables false
namespace Lp
open Go
/-! ### rows that may be -/
theorem rowsB_iff {l : List RowD} : zbs l = true ↔ ∀ r ∈ l, zbh r = true := by rw [rowsB_ok, List.all_eq_true]
theorem right_of {l : List Lbl} (h1 : l.length ≤ 8) (h2 : NSrt l) (h3 : ∀ x ∈ l, okL x = true) : zbR l = true := by
  obtain ⟨e1, e2⟩ := tidyOk_of h1 h2 (List.Perm.refl l) h3
  unfold zbR zQ
  rw [e1, e2]
  simp [cmpLs_self]
theorem okRow_r {r : RowD} (h : zbh r = true) : zbR r.ls = true ∧ zaJ r.v = true := by unfold zbh at h; rwa [Bool.and_eq_true] at h
theorem okRow_of {r : RowD} (h1 : zbR r.ls = true) (h2 : zaJ r.v = true) : zbh r = true := by unfold zbh; rw [h1, h2]; rfl
theorem rt_rows {l : List RowD} (h : rtE l = 0) : l.length ≤ 2000 ∧ zbs l = true := by
  unfold rtE at h
  cases hb : decide (l.length ≤ 2000) && zbs l
  · rw [hb] at h; cases h
  · rw [Bool.and_eq_true, decide_eq_true_eq] at hb; exact hb
theorem tidyRs_rows (l : List RowD) : ∀ r ∈ zw l, zbh r = true := by
  have key : ∀ (m out : List RowD), (∀ r ∈ out, zbh r = true) → ∀ r ∈ m.foldl zbl out, zbh r = true := by
    intro m
    induction m with
    | nil => intro out h; exact h
    | cons x m ih =>
      intro out h
      refine ih (zbl out x) ?_
      unfold zbl
      split
      · rename_i hc
        intro r hr
        have h1 := (rt_rows hc.2.2).2
        rw [rowsB_iff] at h1
        exact h1 r ((rt_strict hc.2.2).2.mem_iff.1 hr)
      · exact h
  exact key l [] (fun _ h => by cases h)
theorem vr_rows {a : List RowD} (h : z8 a = true) : ∀ r ∈ a, zbh r = true := rowsB_iff.1 (zbk.1 h).2.1
theorem vr_strict {a : List RowD} (h : z8 a = true) : zaW cL a := (zbk.1 h).2.2
theorem vr_of {a : List RowD} (h1 : a.length ≤ 2000) (h2 : ∀ r ∈ a, zbh r = true) (h3 : zaW cL a) : z8 a = true := zbk.2 ⟨h1, rowsB_iff.2 h2, h3⟩
theorem vr_tidy {l : List RowD} (h : zbz l = true) : z8 (zw l) = true := by
  have t := tidyRs_trs (fun r hr => lightR_row h hr)
  have := lightR_len h
  exact vr_of (by have := t.len; omega) (tidyRs_rows l) t.st
theorem vr_filter {a : List RowD} (h : z8 a = true) (p : RowD → Bool) : z8 (a.filter p) = true :=
  vr_of (Nat.le_trans (List.length_filter_le _ _) (zbk.1 h).1) (fun r hr => vr_rows h r (List.mem_filter.1 hr).1) (List.Pairwise.filter _ (vr_strict h))
theorem rt_perm {a b : List RowD} (h : z8 a = true) (hp : a.Perm b) : rtL b = a ∧ rtE b = 0 := by
  have e := strict_isort zdt (vr_strict h) hp
  have hb : ordB b = true := by unfold ordB; rw [e]; exact decide_eq_true (vr_strict h)
  have h1 : ¬ (2000 : Int) < ((b.length : Nat) : Int) := by have := (zbk.1 h).1; rw [← hp.length_eq]; omega
  have h2 : zbs b = true := rowsB_iff.2 (fun r hr => vr_rows h r (hp.mem_iff.2 hr))
  obtain ⟨e1, e2⟩ := zdJ h1 h2
  rw [← e1, ← e2]
  unfold ordL ordE; rw [hb, e]; exact ⟨rfl, rfl⟩
theorem rt_self {a : List RowD} (h : z8 a = true) : rtL a = a ∧ rtE a = 0 := rt_perm h (List.Perm.refl a)
theorem fm_filter {α : Type} {f : α → Option α} {p : α → Bool} : ∀ {l : List α}, (∀ r ∈ l, f r = if p r = true then some r else none) → l.filterMap f = l.filter p
  | [], _ => rfl
  | r :: l, h => by
    have e := h r List.mem_cons_self
    have ih := fm_filter (l := l) (fun x hx => h x (List.mem_cons_of_mem _ hx))
    by_cases hp : p r = true
    · rw [if_pos hp] at e; rw [List.filterMap_cons_some e, ih, List.filter_cons_of_pos hp]
    · rw [if_neg hp] at e; rw [List.filterMap_cons_none e, ih, List.filter_cons_of_neg hp]
theorem nd_inj {α β : Type} {f : α → β} : ∀ {l : List α}, (l.map f).Nodup → ∀ {x y : α}, x ∈ l → y ∈ l → f x = f y → x = y
  | [], _, x, y, hx, _, _ => by cases hx
  | a :: l, h, x, y, hx, hy, e => by
    rw [List.map_cons, List.nodup_cons] at h
    rcases List.mem_cons.1 hx with ex | ex <;> rcases List.mem_cons.1 hy with ey | ey
    · rw [ex, ey]
    · exact absurd (List.mem_map.2 ⟨y, ey, by rw [← e, ex]⟩) h.1
    · exact absurd (List.mem_map.2 ⟨x, ex, by rw [e, ey]⟩) h.1
    · exact nd_inj h.2 ex ey e
theorem find_self {mode : Int} {ns : List ByteArray} {a : List RowD} (h : ndT mode ns a) {r : RowD} (hr : r ∈ a) : zc2 mode ns (keyT mode ns r) a = some r := by
  obtain ⟨j, q, h1, h2, h3, h4⟩ := findT_some (mode := mode) (ns := ns) (t := keyT mode ns r) (b := a) (List.mem_map.2 ⟨r, hr, rfl⟩)
  rw [h3, nd_inj (f := keyT mode ns) h (List.mem_of_getElem? h2) hr h4]
/-! ### comparisons -/
theorem cmpB_op {op : ByteArray} (h : cmpB op = true) : opB op = true := by
  have e : doE op 1 1 = (if cmpF op 1 1 = true then 1 else 0, 0) := by unfold doE; rw [if_neg (by decide), if_pos h]
  unfold opB; rw [e]; rfl
theorem do_cmp {op : ByteArray} (h : cmpB op = true) {a b : Int} (ha : zaJ a = true) (hb : zaJ b = true) : doE op a b = (if cmpF op a b = true then 1 else 0, 0) := by
  unfold doE; rw [if_neg (by rw [ha, hb]; decide), if_pos h]
theorem one_if (c : Bool) : ((if c = true then (1 : Int) else 0) = 1) = (c = true) := by cases c <;> simp
def scP (op : ByteArray) (v : Int) (left : Bool) (r : RowD) : Bool := if left = true then cmpF op v r.v else cmpF op r.v v
theorem sc_cmp {op : ByteArray} (h : cmpB op = true) {a : List RowD} (ha : z8 a = true) {v : Int} (hv : zaJ v = true) (left : Bool) : zF op a v left = a.filter (scP op v left) ∧ zY op a v left = 0 := by
  have hg : zbJ op v a = true := by unfold zbJ; rw [cmpB_op h, ha, hv]; rfl
  have hF : ∀ r ∈ a, scF op v left r = (if scP op v left r = true then 1 else 0, 0) := fun r hr => by
    have := (okRow_r (vr_rows ha r hr)).2
    unfold scF scP
    cases left
    · exact do_cmp h this hv
    · exact do_cmp h hv this
  have h0 : zaF (scF op v left) a = 0 := firstE_0.2 (fun r hr => by rw [hF r hr])
  have ho : zcp op v left a = a.filter (scP op v left) := fm_filter (fun r hr => by
    unfold zcG; rw [if_pos h, hF r hr]; simp only [one_if])
  obtain ⟨e1, e2⟩ := rt_self (vr_filter ha (scP op v left))
  unfold zF zY
  rw [if_pos hg, if_pos hg, if_pos h0, if_pos h0, ho, e1, e2]; exact ⟨rfl, rfl⟩
theorem runes_two {s : ByteArray} {r q : Nat} (h0 : 1 < s.size) (h1 : decR s 0 = r) (hw : decW s 0 = 1) (h2 : decR s 1 = q) (h3 : s.size ≤ 1 + decW s 1) : zaE s = [(r : Int), (q : Int)] := by
  unfold zaE; rw [zbK (by omega), hw, h1, zbK (by omega), h2, zbZ (by omega)]
theorem cmpF_lt (a b : Int) : cmpF ⟨#[60]⟩ a b = decide (a < b) := by
  unfold cmpF; rw [runes_one (r := 60) (by decide) (by decide) (by decide)]
  simp [zc6]
theorem cmpF_gt (a b : Int) : cmpF ⟨#[62]⟩ a b = decide (b < a) := by
  unfold cmpF; rw [runes_one (r := 62) (by decide) (by decide) (by decide)]
  simp [zc6]
theorem cmpF_ge (a b : Int) : cmpF ⟨#[62, 61]⟩ a b = decide (b ≤ a) := by
  unfold cmpF; rw [runes_two (r := 62) (q := 61) (by decide) (by decide) (by decide) (by decide) (by decide)]
  by_cases h : b < a <;> by_cases h2 : a = b <;> simp [zc6, h, h2] <;> omega
end Lp
/-
  What is said of vectors (chapter 10): the first call, twice the same, splits.
-/
set_option linter.unusedVariables false
namespace Lp
open Go
/-! ### the first call -/
def al10 : List RowD := [⟨[⟨⟨#[97]⟩, ⟨#[49]⟩⟩], 5⟩]
theorem al10_ls : zbR [⟨⟨#[97]⟩, ⟨#[49]⟩⟩] = true :=
  right_of (by decide) (List.pairwise_singleton _ _) (fun x hx => by rw [List.mem_singleton.1 hx]; unfold okL; rw [name_a]; decide)
theorem one_vr {r : RowD} (h : zbh r = true) : z8 [r] = true :=
  vr_of (by simp) (fun x hx => by rw [List.mem_singleton.1 hx]; exact h) (List.pairwise_singleton _ _)
theorem al10_vr : z8 al10 = true := one_vr (okRow_of al10_ls (by decide))
theorem key10 : keyL 0 [] [⟨⟨#[97]⟩, ⟨#[49]⟩⟩] = [⟨⟨#[97]⟩, ⟨#[49]⟩⟩] := by decide
theorem op_plus : opB ⟨#[43]⟩ = true := by decide
theorem op_minus : opB ⟨#[45]⟩ = true := by decide
theorem nd_one (mode : Int) (ns : List ByteArray) (r : RowD) : ndT mode ns [r] := by unfold ndT zad; simp
theorem al10_m : zae ⟨#[43]⟩ al10 al10 0 [] = [⟨[⟨⟨#[97]⟩, ⟨#[49]⟩⟩], 10⟩] ∧ zaL ⟨#[43]⟩ al10 al10 0 [] = 0 := by
  have hg : zb1 ⟨#[43]⟩ al10 al10 = true := by unfold zb1; rw [op_plus, al10_vr]; rfl
  have hn : ndT 0 [] al10 ∧ ndT 0 [] al10 := ⟨nd_one _ _ _, nd_one _ _ _⟩
  have hf := find_self hn.1 (r := ⟨[⟨⟨#[97]⟩, ⟨#[49]⟩⟩], 5⟩) List.mem_cons_self
  have d : doE ⟨#[43]⟩ 5 5 = (10, 0) := by decide
  have h0 : zaF (maF ⟨#[43]⟩ 0 [] al10) al10 = 0 := firstE_0.2 (fun r hr => by rw [List.mem_singleton.1 hr]; unfold maF; rw [hf]; exact congrArg Prod.snd d)
  have ho : zcB ⟨#[43]⟩ 0 [] al10 al10 = [⟨[⟨⟨#[97]⟩, ⟨#[49]⟩⟩], 10⟩] := by
    have : zcO ⟨#[43]⟩ 0 [] al10 ⟨[⟨⟨#[97]⟩, ⟨#[49]⟩⟩], 5⟩ = some ⟨[⟨⟨#[97]⟩, ⟨#[49]⟩⟩], 10⟩ := by
      rw [maOne_op hf (by decide), d, key10]
    show List.filterMap (zcO ⟨#[43]⟩ 0 [] al10) [⟨[⟨⟨#[97]⟩, ⟨#[49]⟩⟩], 5⟩] = _
    rw [List.filterMap_cons_some this]; rfl
  obtain ⟨e1, e2⟩ := rt_self (one_vr (r := ⟨[⟨⟨#[97]⟩, ⟨#[49]⟩⟩], 10⟩) (okRow_of al10_ls (by decide)))
  unfold zae zaL
  rw [if_pos hg, if_pos hg, if_pos hn, if_pos hn, if_pos h0, if_pos h0, ho, e1, e2]; exact ⟨rfl, rfl⟩
theorem al10_s : zF ⟨#[45]⟩ al10 1 true = [⟨[⟨⟨#[97]⟩, ⟨#[49]⟩⟩], -4⟩] ∧ zY ⟨#[45]⟩ al10 1 true = 0 := by
  have hg : zbJ ⟨#[45]⟩ 1 al10 = true := by unfold zbJ; rw [op_minus, al10_vr]; rfl
  have d : doE ⟨#[45]⟩ 1 5 = (-4, 0) := by decide
  have h0 : zaF (scF ⟨#[45]⟩ 1 true) al10 = 0 := firstE_0.2 (fun r hr => by rw [List.mem_singleton.1 hr]; unfold scF; rw [if_pos rfl, d])
  have ho : zcp ⟨#[45]⟩ 1 true al10 = [⟨[⟨⟨#[97]⟩, ⟨#[49]⟩⟩], -4⟩] := by
    have : zcG ⟨#[45]⟩ 1 true ⟨[⟨⟨#[97]⟩, ⟨#[49]⟩⟩], 5⟩ = some ⟨[⟨⟨#[97]⟩, ⟨#[49]⟩⟩], -4⟩ := by
      unfold zcG; rw [if_neg (by decide)]; unfold scF; rw [if_pos rfl, d, key10]
    show List.filterMap (zcG ⟨#[45]⟩ 1 true) [⟨[⟨⟨#[97]⟩, ⟨#[49]⟩⟩], 5⟩] = _
    rw [List.filterMap_cons_some this]; rfl
  obtain ⟨e1, e2⟩ := rt_self (one_vr (r := ⟨[⟨⟨#[97]⟩, ⟨#[49]⟩⟩], -4⟩) (okRow_of al10_ls (by decide)))
  unfold zF zY
  rw [if_pos hg, if_pos hg, if_pos h0, if_pos h0, ho, e1, e2]; exact ⟨rfl, rfl⟩
theorem al10_LZ : LZ al10 := fun r hr => by
  rw [List.mem_singleton.1 hr]
  exact ⟨by decide, fun x hx => by rw [List.mem_singleton.1 hx]; decide⟩
/-! ### splits -/
structure Splits (a : List RowD) (v : Int) : Prop where
  e1 : zY ⟨#[60]⟩ a v false = 0
  e2 : zY ⟨#[62, 61]⟩ a v false = 0
  e3 : zY ⟨#[62]⟩ a v true = 0
  l3 : zF ⟨#[60]⟩ a v false = zF ⟨#[62]⟩ a v true
  t1 : rtL (zF ⟨#[60]⟩ a v false ++ zF ⟨#[62, 61]⟩ a v false) = a
  t2 : rtE (zF ⟨#[60]⟩ a v false ++ zF ⟨#[62, 61]⟩ a v false) = 0
  n1 : (zF ⟨#[60]⟩ a v false).length ≤ a.length
  n2 : (zF ⟨#[62, 61]⟩ a v false).length ≤ a.length
theorem filter_split {α : Type} (p : α → Bool) : ∀ l : List α, l.Perm (l.filter p ++ l.filter (fun x => !p x))
  | [] => List.Perm.refl _
  | x :: l => by
    have ih := filter_split p l
    by_cases h : p x = true
    · rw [List.filter_cons_of_pos h, List.filter_cons_of_neg (by simp [h])]; exact List.Perm.cons x ih
    · rw [List.filter_cons_of_neg h, List.filter_cons_of_pos (by simp [h])]; exact (List.Perm.cons x ih).trans List.perm_middle.symm
theorem splits {a : List RowD} (h : z8 a = true) {v : Int} (hv : zaJ v = true) : Splits a v := by
  obtain ⟨a1, a2⟩ := sc_cmp (op := ⟨#[60]⟩) (by decide) h hv false
  obtain ⟨b1, b2⟩ := sc_cmp (op := ⟨#[62, 61]⟩) (by decide) h hv false
  obtain ⟨c1, c2⟩ := sc_cmp (op := ⟨#[62]⟩) (by decide) h hv true
  have p1 : scP ⟨#[60]⟩ v false = scP ⟨#[62]⟩ v true := by funext r; show cmpF _ r.v v = cmpF _ v r.v; rw [cmpF_lt, cmpF_gt]
  have p2 : scP ⟨#[62, 61]⟩ v false = fun r => !scP ⟨#[60]⟩ v false r := by
    funext r; show cmpF _ r.v v = !cmpF _ r.v v
    rw [cmpF_lt, cmpF_ge]
    by_cases h : r.v < v
    · have : ¬ v ≤ r.v := by omega
      simp [h, this]
    · have : v ≤ r.v := by omega
      simp [h, this]
  have hp : a.Perm (zF ⟨#[60]⟩ a v false ++ zF ⟨#[62, 61]⟩ a v false) := by rw [a1, b1, p2]; exact filter_split _ a
  obtain ⟨t1, t2⟩ := rt_perm h hp
  exact ⟨a2, b2, c2, by rw [a1, c1, p1], t1, t2, by rw [a1]; exact List.length_filter_le _ _, by rw [b1]; exact List.length_filter_le _ _⟩
end Lp
