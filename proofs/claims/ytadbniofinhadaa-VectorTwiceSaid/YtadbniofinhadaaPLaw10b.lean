/-
  What is said of vectors (chapter 10), as plain data.
-/
import Derived.Test.YtadbniofinhadaaV2
set_option linter.unusedVariables false
namespace Lp
open Go
/-! ### rows that may be -/
theorem rowsB_iff {l : List RowD} : zbx l = true ↔ ∀ r ∈ l, zba r = true := by rw [rowsB_ok, List.all_eq_true]
theorem right_n {l : List Lbl} (h : za7 l = true) : zO l = l ∧ za0 l = 0 ∧ NSrt l ∧ (∀ x ∈ l, okL x = true) ∧ l.length ≤ 8 := by
  unfold za7 at h
  rw [Bool.and_eq_true, decide_eq_true_eq] at h
  have e := cmpLs_eq.1 h.2
  have e0 : za0 l = 0 := by have := tidyOk_E l; rw [h.1] at this; exact of_decide_eq_true this
  have hn := zdU e0
  rw [e] at hn
  exact ⟨e, e0, hn.1, hn.2, tidy_ok_len h.1⟩
theorem right_of {l : List Lbl} (h1 : l.length ≤ 8) (h2 : NSrt l) (h3 : ∀ x ∈ l, okL x = true) : za7 l = true := by
  obtain ⟨e1, e2⟩ := tidyOk_of h1 h2 (List.Perm.refl l) h3
  unfold za7 zO
  rw [e1, e2]
  simp [cmpLs_self]
theorem right_pick {l : List Lbl} (h : za7 l = true) (ns : List ByteArray) (w : Bool) : za7 (zav l ns w) = true := by
  obtain ⟨_, _, h3, h4, h5⟩ := right_n h
  exact right_of (Nat.le_trans (zbU _ _ _) h5) (List.Pairwise.filter _ h3) (fun x hx => h4 x (zcv hx))
theorem right_key {l : List Lbl} (h : za7 l = true) (mode : Int) (ns : List ByteArray) : za7 (keyL mode ns l) = true := by
  unfold keyL
  split
  · exact right_pick h _ _
  · split
    · exact right_pick (right_pick h _ _) _ _
    · exact right_pick h _ _
theorem zct {r : RowD} (h : zba r = true) : za7 r.ls = true ∧ zaL r.v = true := by unfold zba at h; rwa [Bool.and_eq_true] at h
theorem okRow_of {r : RowD} (h1 : za7 r.ls = true) (h2 : zaL r.v = true) : zba r = true := by unfold zba; rw [h1, h2]; rfl
theorem rt_rows {l : List RowD} (h : rtE l = 0) : l.length ≤ 2000 ∧ zbx l = true := by
  unfold rtE at h
  cases hb : decide (l.length ≤ 2000) && zbx l
  · rw [hb] at h; cases h
  · rw [Bool.and_eq_true, decide_eq_true_eq] at hb; exact hb
theorem tidyRs_rows (l : List RowD) : ∀ r ∈ zaG l, zba r = true := by
  have key : ∀ (m out : List RowD), (∀ r ∈ out, zba r = true) → ∀ r ∈ m.foldl zbo out, zba r = true := by
    intro m
    induction m with
    | nil => intro out h; exact h
    | cons x m ih =>
      intro out h
      refine ih (zbo out x) ?_
      unfold zbo
      split
      · rename_i hc
        intro r hr
        have h1 := (rt_rows hc.2.2).2
        rw [rowsB_iff] at h1
        exact h1 r ((rt_strict hc.2.2).2.mem_iff.1 hr)
      · exact h
  exact key l [] (fun _ h => by cases h)
theorem zcb {a : List RowD} (h : z6 a = true) : ∀ r ∈ a, zba r = true := rowsB_iff.1 (zbh.1 h).2.1
theorem zcN {a : List RowD} (h : z6 a = true) : zaT cL a := (zbh.1 h).2.2
theorem vr_of {a : List RowD} (h1 : a.length ≤ 2000) (h2 : ∀ r ∈ a, zba r = true) (h3 : zaT cL a) : z6 a = true := zbh.2 ⟨h1, rowsB_iff.2 h2, h3⟩
theorem vr_tidy {l : List RowD} (h : zbP l = true) : z6 (zaG l) = true := by
  have t := tidyRs_trs (fun r hr => lightR_row h hr)
  have := lightR_len h
  exact vr_of (by have := t.len; omega) (tidyRs_rows l) t.st
theorem vr_filter {a : List RowD} (h : z6 a = true) (p : RowD → Bool) : z6 (a.filter p) = true :=
  vr_of (Nat.le_trans (List.length_filter_le _ _) (zbh.1 h).1) (fun r hr => zcb h r (List.mem_filter.1 hr).1) (List.Pairwise.filter _ (zcN h))
theorem rt_perm {a b : List RowD} (h : z6 a = true) (hp : a.Perm b) : rtL b = a ∧ rtE b = 0 := by
  have e := strict_isort zdE (zcN h) hp
  have hb : ordB b = true := by unfold ordB; rw [e]; exact decide_eq_true (zcN h)
  have h1 : ¬ (2000 : Int) < ((b.length : Nat) : Int) := by have := (zbh.1 h).1; rw [← hp.length_eq]; omega
  have h2 : zbx b = true := rowsB_iff.2 (fun r hr => zcb h r (hp.mem_iff.2 hr))
  obtain ⟨e1, e2⟩ := zdV h1 h2
  rw [← e1, ← e2]
  unfold ordL ordE; rw [hb, e]; exact ⟨rfl, rfl⟩
theorem rt_self {a : List RowD} (h : z6 a = true) : rtL a = a ∧ rtE a = 0 := rt_perm h (List.Perm.refl a)
/-! ### what is kept of each -/
theorem fm_map {α β : Type} {f : α → Option β} {g : α → β} : ∀ {l : List α}, (∀ r ∈ l, f r = some (g r)) → l.filterMap f = l.map g
  | [], _ => rfl
  | r :: l, h => by rw [List.filterMap_cons_some (h r List.mem_cons_self), fm_map (fun x hx => h x (List.mem_cons_of_mem _ hx))]; rfl
theorem fm_filter {α : Type} {f : α → Option α} {p : α → Bool} : ∀ {l : List α}, (∀ r ∈ l, f r = if p r = true then some r else none) → l.filterMap f = l.filter p
  | [], _ => rfl
  | r :: l, h => by
    have e := h r List.mem_cons_self
    have ih := fm_filter (l := l) (fun x hx => h x (List.mem_cons_of_mem _ hx))
    by_cases hp : p r = true
    · rw [if_pos hp] at e; rw [List.filterMap_cons_some e, ih, List.filter_cons_of_pos hp]
    · rw [if_neg hp] at e; rw [List.filterMap_cons_none e, ih, List.filter_cons_of_neg hp]
theorem nd_inj {α β : Type} {f : α → β} : ∀ {l : List α}, (l.map f).Nodup → ∀ {x y : α}, x ∈ l → y ∈ l → f x = f y → x = y
  | [], _, x, y, hx, _, _ => by cases hx
  | a :: l, h, x, y, hx, hy, e => by
    rw [List.map_cons, List.nodup_cons] at h
    rcases List.mem_cons.1 hx with ex | ex <;> rcases List.mem_cons.1 hy with ey | ey
    · rw [ex, ey]
    · exact absurd (List.mem_map.2 ⟨y, ey, by rw [← e, ex]⟩) h.1
    · exact absurd (List.mem_map.2 ⟨x, ex, by rw [e, ey]⟩) h.1
    · exact nd_inj h.2 ex ey e
theorem find_self {mode : Int} {ns : List ByteArray} {a : List RowD} (h : ndT mode ns a) {r : RowD} (hr : r ∈ a) : zci mode ns (keyT mode ns r) a = some r := by
  obtain ⟨j, q, h1, h2, h3, h4⟩ := findT_some (mode := mode) (ns := ns) (t := keyT mode ns r) (b := a) (List.mem_map.2 ⟨r, hr, rfl⟩)
  rw [h3, nd_inj (f := keyT mode ns) h (List.mem_of_getElem? h2) hr h4]
theorem text_inj {a b : List Lbl} (ha : za7 a = true) (hb : za7 b = true) (h : zbR a = zbR b) : a = b := by
  obtain ⟨a1, a2, _⟩ := right_n ha
  obtain ⟨b1, b2, _⟩ := right_n hb
  have := textB_inj a2 b2 (by rw [a1, b1]; exact h)
  rwa [a1, b1] at this
theorem key_eq {mode : Int} {ns : List ByteArray} {q r : RowD} (hq : zba q = true) (hr : zba r = true) : keyT mode ns q = keyT mode ns r ↔ keyL mode ns q.ls = keyL mode ns r.ls :=
  ⟨fun h => text_inj (right_key (zct hq).1 _ _) (right_key (zct hr).1 _ _) h, fun h => by unfold keyT; rw [h]⟩
theorem find_q {mode : Int} {ns : List ByteArray} {b : List RowD} {t : ByteArray} {q : RowD} (h : zci mode ns t b = some q) : q ∈ b ∧ keyT mode ns q = t :=
  ⟨List.mem_of_find?_eq_some h, by have := List.find?_some h; exact of_decide_eq_true this⟩
theorem nd_of_keys {mode : Int} {ns : List ByteArray} {a : List RowD} (h : ∀ r ∈ a, zba r = true) : ndT mode ns a ↔ (a.map (fun r => keyL mode ns r.ls)).Nodup := by
  unfold ndT zac
  induction a with
  | nil => simp
  | cons x a ih =>
    have ih := ih (fun r hr => h r (List.mem_cons_of_mem _ hr))
    rw [List.map_cons, List.map_cons, List.nodup_cons, List.nodup_cons, ih]
    refine and_congr (not_congr ⟨fun hm => ?_, fun hm => ?_⟩) Iff.rfl
    · obtain ⟨y, hy, e⟩ := List.mem_map.1 hm
      exact List.mem_map.2 ⟨y, hy, (key_eq (h y (List.mem_cons_of_mem _ hy)) (h x List.mem_cons_self)).1 e⟩
    · obtain ⟨y, hy, e⟩ := List.mem_map.1 hm
      exact List.mem_map.2 ⟨y, hy, (key_eq (h y (List.mem_cons_of_mem _ hy)) (h x List.mem_cons_self)).2 e⟩
theorem strict_ls {a : List RowD} (h : zaT cL a) : (a.map (·.ls)).Nodup := by
  rw [List.Nodup, List.pairwise_map]
  exact List.Pairwise.imp (fun {x y} hxy e => by unfold cL at hxy; rw [e, cmpLs_self] at hxy; omega) h
/-! ### comparisons -/
theorem cmpB_op {op : ByteArray} (h : cmpB op = true) : opB op = true := by
  have e : doE op 1 1 = (if cmpF op 1 1 = true then 1 else 0, 0) := by unfold doE; rw [if_neg (by decide), if_pos h]
  unfold opB; rw [e]; rfl
theorem do_cmp {op : ByteArray} (h : cmpB op = true) {a b : Int} (ha : zaL a = true) (hb : zaL b = true) : doE op a b = (if cmpF op a b = true then 1 else 0, 0) := by
  unfold doE; rw [if_neg (by rw [ha, hb]; decide), if_pos h]
theorem one_if (c : Bool) : ((if c = true then (1 : Int) else 0) = 1) = (c = true) := by cases c <;> simp
def maP (op : ByteArray) (mode : Int) (ns : List ByteArray) (b : List RowD) (r : RowD) : Bool := match zci mode ns (keyT mode ns r) b with
  | none => false
  | some q => cmpF op r.v q.v
theorem ma_cmp {op : ByteArray} (h : cmpB op = true) {a b : List RowD} (ha : z6 a = true) (hb : z6 b = true) {mode : Int} {ns : List ByteArray} (hn : ndT mode ns a ∧ ndT mode ns b) : zD op a b mode ns = a.filter (maP op mode ns b) ∧ zW op a b mode ns = 0 := by
  have hg : zbz op a b = true := by unfold zbz; rw [cmpB_op h, ha, hb]; rfl
  have h0 : zaI (maF op mode ns b) a = 0 := firstE_0.2 (fun r hr => by
    unfold maF
    cases hf : zci mode ns (keyT mode ns r) b with
    | none => rfl
    | some q => simp only; rw [do_cmp h (zct (zcb ha r hr)).2 (zct (zcb hb q (find_q hf).1)).2])
  have ho : zcr op mode ns b a = a.filter (maP op mode ns b) := fm_filter (fun r hr => by
    unfold zcJ maP
    cases hf : zci mode ns (keyT mode ns r) b with
    | none => rfl
    | some q =>
      simp only
      rw [if_pos h, do_cmp h (zct (zcb ha r hr)).2 (zct (zcb hb q (find_q hf).1)).2]
      simp only [one_if])
  obtain ⟨e1, e2⟩ := rt_self (vr_filter ha (maP op mode ns b))
  unfold zD zW
  rw [if_pos hg, if_pos hg, if_pos hn, if_pos hn, if_pos h0, if_pos h0, ho, e1, e2]; exact ⟨rfl, rfl⟩
theorem runes_two {s : ByteArray} {r q : Nat} (h0 : 1 < s.size) (h1 : decR s 0 = r) (hw : decW s 0 = 1) (h2 : decR s 1 = q) (h3 : s.size ≤ 1 + decW s 1) : zaH s = [(r : Int), (q : Int)] := by
  unfold zaH; rw [zby (by omega), hw, h1, zby (by omega), h2, zb6 (by omega)]
theorem cmpF_eq (a b : Int) : cmpF ⟨#[61, 61]⟩ a b = decide (a = b) := by
  unfold cmpF; rw [runes_two (r := 61) (q := 61) (by decide) (by decide) (by decide) (by decide) (by decide)]
  simp [zdy]
theorem cmpF_ne (a b : Int) : cmpF ⟨#[33, 61]⟩ a b = decide (a ≠ b) := by
  unfold cmpF; rw [runes_two (r := 33) (q := 61) (by decide) (by decide) (by decide) (by decide) (by decide)]
  simp [zdy]
end Lp
/-
  What is said of vectors (chapter 10): the first call, twice the same, splits.
-/
set_option linter.unusedVariables false
namespace Lp
open Go
/-! ### the first call -/
def al10 : List RowD := [⟨[⟨⟨#[97]⟩, ⟨#[49]⟩⟩], 5⟩]
theorem al10_ls : za7 [⟨⟨#[97]⟩, ⟨#[49]⟩⟩] = true :=
  right_of (by decide) (List.pairwise_singleton _ _) (fun x hx => by rw [List.mem_singleton.1 hx]; unfold okL; rw [name_a]; decide)
theorem one_vr {r : RowD} (h : zba r = true) : z6 [r] = true :=
  vr_of (by simp) (fun x hx => by rw [List.mem_singleton.1 hx]; exact h) (List.pairwise_singleton _ _)
theorem al10_vr : z6 al10 = true := one_vr (okRow_of al10_ls (by decide))
theorem key10 : keyL 0 [] [⟨⟨#[97]⟩, ⟨#[49]⟩⟩] = [⟨⟨#[97]⟩, ⟨#[49]⟩⟩] := by decide
theorem op_plus : opB ⟨#[43]⟩ = true := by decide
theorem op_minus : opB ⟨#[45]⟩ = true := by decide
theorem nd_one (mode : Int) (ns : List ByteArray) (r : RowD) : ndT mode ns [r] := by unfold ndT zac; simp
theorem al10_m : zD ⟨#[43]⟩ al10 al10 0 [] = [⟨[⟨⟨#[97]⟩, ⟨#[49]⟩⟩], 10⟩] ∧ zW ⟨#[43]⟩ al10 al10 0 [] = 0 := by
  have hg : zbz ⟨#[43]⟩ al10 al10 = true := by unfold zbz; rw [op_plus, al10_vr]; rfl
  have hn : ndT 0 [] al10 ∧ ndT 0 [] al10 := ⟨nd_one _ _ _, nd_one _ _ _⟩
  have hf := find_self hn.1 (r := ⟨[⟨⟨#[97]⟩, ⟨#[49]⟩⟩], 5⟩) List.mem_cons_self
  have d : doE ⟨#[43]⟩ 5 5 = (10, 0) := by decide
  have h0 : zaI (maF ⟨#[43]⟩ 0 [] al10) al10 = 0 := firstE_0.2 (fun r hr => by rw [List.mem_singleton.1 hr]; unfold maF; rw [hf]; exact congrArg Prod.snd d)
  have ho : zcr ⟨#[43]⟩ 0 [] al10 al10 = [⟨[⟨⟨#[97]⟩, ⟨#[49]⟩⟩], 10⟩] := by
    have : zcJ ⟨#[43]⟩ 0 [] al10 ⟨[⟨⟨#[97]⟩, ⟨#[49]⟩⟩], 5⟩ = some ⟨[⟨⟨#[97]⟩, ⟨#[49]⟩⟩], 10⟩ := by
      rw [maOne_op hf (by decide), d, key10]
    show List.filterMap (zcJ ⟨#[43]⟩ 0 [] al10) [⟨[⟨⟨#[97]⟩, ⟨#[49]⟩⟩], 5⟩] = _
    rw [List.filterMap_cons_some this]; rfl
  obtain ⟨e1, e2⟩ := rt_self (one_vr (r := ⟨[⟨⟨#[97]⟩, ⟨#[49]⟩⟩], 10⟩) (okRow_of al10_ls (by decide)))
  unfold zD zW
  rw [if_pos hg, if_pos hg, if_pos hn, if_pos hn, if_pos h0, if_pos h0, ho, e1, e2]; exact ⟨rfl, rfl⟩
theorem al10_s : zar ⟨#[45]⟩ al10 1 true = [⟨[⟨⟨#[97]⟩, ⟨#[49]⟩⟩], -4⟩] ∧ zaW ⟨#[45]⟩ al10 1 true = 0 := by
  have hg : zb5 ⟨#[45]⟩ 1 al10 = true := by unfold zb5; rw [op_minus, al10_vr]; rfl
  have d : doE ⟨#[45]⟩ 1 5 = (-4, 0) := by decide
  have h0 : zaI (scF ⟨#[45]⟩ 1 true) al10 = 0 := firstE_0.2 (fun r hr => by rw [List.mem_singleton.1 hr]; unfold scF; rw [if_pos rfl, d])
  have ho : zcH ⟨#[45]⟩ 1 true al10 = [⟨[⟨⟨#[97]⟩, ⟨#[49]⟩⟩], -4⟩] := by
    have : zdb ⟨#[45]⟩ 1 true ⟨[⟨⟨#[97]⟩, ⟨#[49]⟩⟩], 5⟩ = some ⟨[⟨⟨#[97]⟩, ⟨#[49]⟩⟩], -4⟩ := by
      unfold zdb; rw [if_neg (by decide)]; unfold scF; rw [if_pos rfl, d, key10]
    show List.filterMap (zdb ⟨#[45]⟩ 1 true) [⟨[⟨⟨#[97]⟩, ⟨#[49]⟩⟩], 5⟩] = _
    rw [List.filterMap_cons_some this]; rfl
  obtain ⟨e1, e2⟩ := rt_self (one_vr (r := ⟨[⟨⟨#[97]⟩, ⟨#[49]⟩⟩], -4⟩) (okRow_of al10_ls (by decide)))
  unfold zar zaW
  rw [if_pos hg, if_pos hg, if_pos h0, if_pos h0, ho, e1, e2]; exact ⟨rfl, rfl⟩
theorem al10_LZ : LZ al10 := fun r hr => by
  rw [List.mem_singleton.1 hr]
  exact ⟨by decide, fun x hx => by rw [List.mem_singleton.1 hx]; decide⟩
/-! ### rows without a metric -/
def noMet (r : RowD) : Bool := decide (getL r.ls metB = ByteArray.empty)
def zbm (l : List RowD) : List RowD := l.filter noMet
theorem mfree_snoc {l : List RowD} {k : Nat} {x : RowD} (hx : l[k]? = some x) (h : getL x.ls metB = ByteArray.empty) : zbm (l.take (k + 1)) = zbm (l.take k) ++ [x] := by
  rw [zah hx]; unfold zbm; rw [List.filter_append]; simp [noMet, h]
theorem mfree_skip {l : List RowD} {k : Nat} {x : RowD} (hx : l[k]? = some x) (h : ¬ getL x.ls metB = ByteArray.empty) : zbm (l.take (k + 1)) = zbm (l.take k) := by
  rw [zah hx]; unfold zbm; rw [List.filter_append]; simp [noMet, h]
theorem met_none {l : List Lbl} (h : za7 l = true) (hg : getL l metB = ByteArray.empty) : zav l [metB] true = [] ∧ zav l [metB] false = l := by
  obtain ⟨_, _, h3, h4, _⟩ := right_n h
  have e : zav l [metB] true = [] := by
    rcases pick_get (n := metB) h3 with ⟨e, _⟩ | e
    · exact e
    · exfalso
      have hm : (⟨metB, getL l metB⟩ : Lbl) ∈ l := zcv (ns := [metB]) (w := true) (by rw [e]; exact List.mem_cons_self)
      have := h4 _ hm
      rw [hg] at this
      rw [zc9 rfl] at this
      cases this
  refine ⟨e, ?_⟩
  unfold zav at e ⊢
  rw [List.filter_eq_nil_iff] at e
  rw [List.filter_eq_self]
  intro x hx
  have := e x hx
  cases hh : hasN [metB] x.n
  · rfl
  · rw [hh] at this; exact absurd rfl this
theorem mfree_key {l : List RowD} (h : z6 l = true) {r : RowD} (hr : r ∈ zbm l) (ns : List ByteArray) : keyL 0 ns r.ls = r.ls := by
  obtain ⟨h1, h2⟩ := List.mem_filter.1 hr
  exact (met_none (zct (zcb h r h1)).1 (of_decide_eq_true h2)).2
theorem mfree_nd {l : List RowD} (h : z6 l = true) : ndT 0 [] (zbm l) := by
  have hv : z6 (zbm l) = true := vr_filter h _
  rw [nd_of_keys (zcb hv), List.map_congr_left (fun r hr => mfree_key h hr [])]
  exact strict_ls (zcN hv)
/-- rows with other numbers -/
theorem vr_map {a : List RowD} (h : z6 a = true) (g : RowD → Int) (hg : ∀ r ∈ a, zaL (g r) = true) : z6 (a.map (fun r => ⟨r.ls, g r⟩)) = true := by
  refine vr_of (by rw [List.length_map]; exact (zbh.1 h).1) (fun r hr => ?_) ?_
  · obtain ⟨q, hq, rfl⟩ := List.mem_map.1 hr
    exact okRow_of (zct (zcb h q hq)).1 (hg q hq)
  · unfold zaT; rw [List.pairwise_map]; exact zcN h
structure Twice (a : List RowD) : Prop where
  e1 : zW ⟨#[45]⟩ a a 0 [] = 0
  e2 : zW ⟨#[61, 61]⟩ a a 0 [] = 0
  e3 : zW ⟨#[33, 61]⟩ a a 0 [] = 0
  l1 : zD ⟨#[45]⟩ a a 0 [] = a.map (fun r => ⟨r.ls, 0⟩)
  l2 : zD ⟨#[61, 61]⟩ a a 0 [] = a
  l3 : zD ⟨#[33, 61]⟩ a a 0 [] = []
theorem do_minus {a b : Int} (ha : zaL a = true) (hb : zaL b = true) : doE ⟨#[45]⟩ a b = zbB (a - b) := by
  unfold doE; rw [if_neg (by rw [ha, hb]; decide), if_neg (by decide), if_neg (by decide), if_pos rfl]
theorem twice {l : List RowD} (h : z6 l = true) : Twice (zbm l) := by
  have hv : z6 (zbm l) = true := vr_filter h _
  have hn := mfree_nd h
  have hf : ∀ r ∈ zbm l, zci 0 [] (keyT 0 [] r) (zbm l) = some r := fun r hr => find_self hn hr
  have hp : ∀ op r, r ∈ zbm l → maP op 0 [] (zbm l) r = cmpF op r.v r.v := fun op r hr => by unfold maP; rw [hf r hr]
  obtain ⟨a1, a2⟩ := ma_cmp (op := ⟨#[61, 61]⟩) (by decide) hv hv ⟨hn, hn⟩
  obtain ⟨b1, b2⟩ := ma_cmp (op := ⟨#[33, 61]⟩) (by decide) hv hv ⟨hn, hn⟩
  have hd : ∀ r ∈ zbm l, doE ⟨#[45]⟩ r.v r.v = (0, 0) := fun r hr => by
    have := (zct (zcb hv r hr)).2
    rw [do_minus this this, Int.sub_self]; decide
  have hg : zbz ⟨#[45]⟩ (zbm l) (zbm l) = true := by unfold zbz; rw [op_minus, hv]; rfl
  have h0 : zaI (maF ⟨#[45]⟩ 0 [] (zbm l)) (zbm l) = 0 := firstE_0.2 (fun r hr => by unfold maF; rw [hf r hr]; simp only; rw [hd r hr])
  have ho : zcr ⟨#[45]⟩ 0 [] (zbm l) (zbm l) = (zbm l).map (fun r => ⟨r.ls, 0⟩) := fm_map (fun r hr => by rw [maOne_op (hf r hr) (by decide), hd r hr, mfree_key h hr])
  obtain ⟨c1, c2⟩ := rt_self (vr_map hv (fun _ => 0) (fun _ _ => by decide))
  refine ⟨?_, a2, b2, ?_, ?_, ?_⟩
  · unfold zW; rw [if_pos hg, if_pos ⟨hn, hn⟩, if_pos h0, ho, c2]
  · unfold zD; rw [if_pos hg, if_pos ⟨hn, hn⟩, if_pos h0, ho, c1]
  · rw [a1, List.filter_eq_self]; intro r hr; rw [hp _ r hr, cmpF_eq]; simp
  · rw [b1, List.filter_eq_nil_iff]; intro r hr; rw [hp _ r hr, cmpF_ne]; simp
end Lp
