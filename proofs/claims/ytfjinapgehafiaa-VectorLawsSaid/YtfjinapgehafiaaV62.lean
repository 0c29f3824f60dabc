/-
  Vectors (chapter 10): rows under labels, and what is reckoned with them, as plain data.
-/
import Derived.Test.YtfjinapgehafiaaPRef
set_option linter.unusedVariables false
namespace Lp
open Go
theorem tidyOk_E (l : List Lbl) : decide (za0 l = 0) = zad l := by
  unfold za0; cases zad l <;> rfl
theorem rightB_eq (l : List Lbl) : (decide (za0 l = 0) && decide (z2 (zQ l) l = 0)) = zbe l := by
  unfold zbe; rw [tidyOk_E]
def zba (r : RowD) : Bool := zbe r.ls && zax r.v
theorem rowsB_ok (l : List RowD) : zbu l = l.all zba := rfl
theorem okRow_len {r : RowD} (h : zba r = true) : r.ls.length ≤ 8 := by
  unfold zba zbe at h
  simp only [Bool.and_eq_true] at h
  exact tidy_ok_len h.1.1
def zdG (l : List RowD) : Nat → Option RowD
  | 0 => none
  | k + 1 => l[k]?
def ltP (p : Option RowD) (x : RowD) : Bool := match p with
  | none => true
  | some q => decide (cL q x < 0)
def ascB : Option RowD → List RowD → Bool
  | _, [] => true
  | p, r :: l => zba r && (ltP p r && ascB (some r) l)
def zbH (l : List RowD) (k : Nat) : Bool := ascB (zdG l k) (l.drop k)
def z1 (l : List RowD) : Bool := decide (l.length ≤ 2000) && zbH l 0
theorem ascAt_next {l : List RowD} {k : Nat} {x : RowD} (h : l[k]? = some x) : zbH l k = (zba x && (ltP (zdG l k) x && zbH l (k + 1))) := by
  unfold zbH
  rw [drop_at h]
  show (zba x && (ltP (zdG l k) x && ascB (some x) (l.drop (k + 1)))) = _
  rw [show zdG l (k + 1) = some x from h]
theorem ascAt_end {l : List RowD} {k : Nat} (h : l.length ≤ k) : zbH l k = true := by
  unfold zbH; rw [List.drop_eq_nil_iff.2 h]; rfl
theorem prevR_pos {l : List RowD} {k : Nat} {y : RowD} (h : (0 : Int) < ((k : Nat) : Int)) (hy : l[k - 1]? = some y) : zdG l k = some y := by
  cases k with
  | zero => simp at h
  | succ k => simpa [zdG] using hy
theorem prevR_zero {l : List RowD} {k : Nat} (h : ¬ (0 : Int) < ((k : Nat) : Int)) : zdG l k = none := by
  have : k = 0 := by omega
  subst this; rfl
section
variable {l : List RowD} {k : Nat} {x : RowD}
theorem vr_long (h : (2000 : Int) < ((l.length : Nat) : Int)) : false = z1 l := by
  have : ¬ l.length ≤ 2000 := by omega
  simp [z1, this]
theorem vr_bad1 (hk : zbH l 0 = zbH l k) (hx : l[k]? = some x) (h : zba x = false) : false = z1 l := by simp [z1, hk, ascAt_next hx, h]
theorem vr_bad2 (hk : zbH l 0 = zbH l k) (hx : l[k]? = some x) {y : RowD} (h : zdG l k = some y) (hn : 0 ≤ z2 y.ls x.ls) : false = z1 l := by
  have : ¬ cL y x < 0 := by unfold cL; omega
  simp [z1, hk, ascAt_next hx, h, ltP, this]
theorem vr_good (hk : zbH l 0 = zbH l k) (hx : l.length ≤ k) (h : ¬ (2000 : Int) < ((l.length : Nat) : Int)) : true = z1 l := by
  have : l.length ≤ 2000 := by omega
  simp [z1, hk, ascAt_end hx, this]
theorem vr_step0 (hk : zbH l 0 = zbH l k) (hx : l[k]? = some x) (h : zba x = true) (hp : zdG l k = none) : zbH l 0 = zbH l (k + 1) := by rw [hk, ascAt_next hx, h, hp]; rfl
theorem vr_step (hk : zbH l 0 = zbH l k) (hx : l[k]? = some x) (h : zba x = true) {y : RowD} (hp : zdG l k = some y) (hn : ¬ 0 ≤ z2 y.ls x.ls) : zbH l 0 = zbH l (k + 1) := by
  have : cL y x < 0 := by unfold cL; omega
  rw [hk, ascAt_next hx, h, hp]; simp [ltP, this]
end
theorem ascB_iff : ∀ (l : List RowD) (p : Option RowD), ascB p l = true ↔ (∀ r ∈ l, zba r = true) ∧ zaI cL l ∧ (∀ q, p = some q → ∀ r ∈ l, cL q r < 0)
  | [], p => by
    constructor
    · intro _; exact ⟨fun _ h => (by cases h), List.Pairwise.nil, fun _ _ _ h => (by cases h)⟩
    · intro _; rfl
  | r :: l, p => by
    show (zba r && (ltP p r && ascB (some r) l)) = true ↔ _
    rw [Bool.and_eq_true, Bool.and_eq_true, ascB_iff l (some r)]
    constructor
    · rintro ⟨h1, h2, h3, h4, h5⟩
      refine ⟨fun y hy => ?_, List.pairwise_cons.2 ⟨fun y hy => h5 r rfl y hy, h4⟩, fun q hq y hy => ?_⟩
      · rcases List.mem_cons.1 hy with e | e
        · rw [e]; exact h1
        · exact h3 y e
      · subst hq
        have hqr : cL q r < 0 := of_decide_eq_true h2
        rcases List.mem_cons.1 hy with e | e
        · rw [e]; exact hqr
        · exact (zcJ.tr q r y).lt1 hqr (by have := h5 r rfl y e; omega)
    · rintro ⟨h1, h2, h3⟩
      have h2' := List.pairwise_cons.1 h2
      refine ⟨h1 r List.mem_cons_self, ?_, fun y hy => h1 y (List.mem_cons_of_mem _ hy), h2'.2, fun q hq y hy => by injection hq with hq; subst hq; exact h2'.1 y hy⟩
      cases p with
      | none => rfl
      | some q => exact decide_eq_true (h3 q rfl r List.mem_cons_self)
theorem zbk {l : List RowD} : z1 l = true ↔ l.length ≤ 2000 ∧ zbu l = true ∧ zaI cL l := by
  unfold z1
  rw [Bool.and_eq_true, decide_eq_true_eq, rowsB_ok, List.all_eq_true]
  show _ ∧ ascB none l = true ↔ _
  rw [ascB_iff]
  constructor
  · rintro ⟨h1, h2, h3, _⟩; exact ⟨h1, h2, h3⟩
  · rintro ⟨h1, h2, h3⟩; exact ⟨h1, h2, h3, fun _ h => (by cases h)⟩

/-! ### tidy -/
theorem cmpRow0 : zH 0 = cL := by funext a b; rfl
/-- how far the look for twins has come -/
def zde (s : List RowD) (i : Nat) : Prop := ∀ j x y, j + 1 < i → s[j]? = some x → s[j + 1]? = some y → cL x y ≠ 0
theorem zde.one (s : List RowD) : zde s 1 := fun j x y h => by omega
theorem zde.next {s : List RowD} {i : Nat} {x y : RowD} (h : zde s i) (hi : 1 ≤ i) (hx : s[i - 1]? = some x) (hy : s[i]? = some y) (hn : ¬ z2 x.ls y.ls = 0) : zde s (i + 1) := fun j a b hj ha hb => by
  rcases Nat.lt_or_ge (j + 1) i with e | e
  · exact h j a b e ha hb
  · have : j + 1 = i := by omega
    subst this
    simp only [Nat.add_sub_cancel] at hx
    rw [ha] at hx; rw [hb] at hy; injection hx with hx; injection hy with hy; subst hx; subst hy; exact hn
theorem strict_of {s : List RowD} (h : Srt cL s) (hn : zde s s.length) : zaI cL s := by
  induction s with
  | nil => exact List.Pairwise.nil
  | cons x r ih =>
    have h' := List.pairwise_cons.1 h
    have hr : zaI cL r := ih h'.2 (fun j a b hj ha hb => hn (j + 1) a b (by simp; omega) (by simpa using ha) (by simpa using hb))
    refine List.pairwise_cons.2 ⟨fun y hy => ?_, hr⟩
    cases r with
    | nil => cases hy
    | cons z r =>
      have e1 : cL x z ≤ 0 := h'.1 z List.mem_cons_self
      have e2 : cL x z ≠ 0 := hn 0 x z (by simp) rfl rfl
      rcases List.mem_cons.1 hy with e | e
      · rw [e]; omega
      · exact (zcJ.tr x z y).lt1 (by omega) (by have := (List.pairwise_cons.1 hr).1 y e; omega)
section
variable {l : List RowD} {i : Nat} {x y : RowD}
theorem td_rows {n : Nat} (h : zbu (l.take n) = true) (hn : l.length ≤ n) : zbu l = true := by rwa [List.take_of_length_le hn] at h
theorem td_twin (h1 : ¬ (2000 : Int) < ((l.length : Nat) : Int)) (h2 : zbu l = true) (hi : 1 ≤ i) (hx : (zN (zH 0) l)[i - 1]? = some x) (hy : (zN (zH 0) l)[i]? = some y) (e : z2 x.ls y.ls = 0) : [] = rtL l ∧ 6 = rtE l := by
  have hb : ordB l = false := by
    rcases ek : ordB l with _ | _
    · rfl
    · exfalso
      have hst : (zN cL l).Pairwise (fun a b => cL a b < 0) := by unfold ordB at ek; exact of_decide_eq_true ek
      rw [← cmpRow0] at hst
      obtain ⟨p1, q1⟩ := List.getElem?_eq_some_iff.1 hx
      obtain ⟨p2, q2⟩ := List.getElem?_eq_some_iff.1 hy
      have := List.pairwise_iff_getElem.1 hst (i - 1) i p1 p2 (by omega)
      rw [q1, q2] at this
      have e' : zH 0 x y = z2 x.ls y.ls := rfl
      omega
  obtain ⟨a, b⟩ := zdZ h1 h2
  obtain ⟨c, d⟩ := ord_no hb
  exact ⟨c.trans a, d.trans b⟩
theorem td_good (h1 : ¬ (2000 : Int) < ((l.length : Nat) : Int)) (h2 : zbu l = true) (hn : zde (zN (zH 0) l) i) (hi : (zN (zH 0) l).length ≤ i) : zN (zH 0) l = rtL l ∧ 0 = rtE l := by
  have hst : zaI cL (zN cL l) := by
    rw [cmpRow0] at hn hi
    exact strict_of (zaA zcJ _ l rfl).srt (fun j a b hj ha hb => hn j a b (by omega) ha hb)
  have hb : ordB l = true := by unfold ordB; exact decide_eq_true hst
  obtain ⟨a, b⟩ := zdZ h1 h2
  rw [← a, ← b]
  unfold ordL ordE; rw [hb, cmpRow0]; exact ⟨rfl, rfl⟩
end
theorem rowsB_snoc' {l : List RowD} {k : Nat} {x : RowD} (hx : l[k]? = some x) (h : zbu (l.take k) = true) (hr : zba x = true) : zbu (l.take (k + 1)) = true := by
  rw [rowsB_ok] at *; exact zbL hx h hr
theorem rt_bad' {l : List RowD} {i : Nat} {x : RowD} (hx : l[i]? = some x) (h : zba x = false) : [] = rtL l ∧ 1 = rtE l := zdb hx h

/-! ### keys, ops -/
def metB : ByteArray := ⟨#[109, 101, 116, 114, 105, 99]⟩
def keyL (mode : Int) (ns : List ByteArray) (l : List Lbl) : List Lbl :=
  if mode = 1 then zaQ l ns true else if mode = 2 then zaQ (zaQ l ns false) [metB] false else zaQ l [metB] false
theorem keyL_len (mode : Int) (ns : List ByteArray) (l : List Lbl) : (keyL mode ns l).length ≤ l.length := by
  unfold keyL
  split
  · exact zbV _ _ _
  · split
    · exact Nat.le_trans (zbV _ _ _) (zbV _ _ _)
    · exact zbV _ _ _
theorem zcX {l : List Lbl} {ns : List ByteArray} {w : Bool} {x : Lbl} (h : x ∈ zaQ l ns w) : x ∈ l := (List.mem_filter.1 h).1
theorem keyL_mem {mode : Int} {ns : List ByteArray} {l : List Lbl} {x : Lbl} (h : x ∈ keyL mode ns l) : x ∈ l := by
  unfold keyL at h
  split at h
  · exact zcX h
  · split at h
    · exact zcX (zcX h)
    · exact zcX h
/-- rows whose labels are few and short enough to be put in words -/
def LZ (l : List RowD) : Prop := ∀ r ∈ l, r.ls.length ≤ 1000 ∧ ∀ x ∈ r.ls, x.n.size ≤ 100000 ∧ x.v.size ≤ 100000
theorem LZ.key {l : List RowD} (h : LZ l) {r : RowD} (hr : r ∈ l) (mode : Int) (ns : List ByteArray) : (keyL mode ns r.ls).length ≤ 1000 ∧ ∀ x ∈ keyL mode ns r.ls, x.n.size ≤ 100000 ∧ x.v.size ≤ 100000 :=
  ⟨Nat.le_trans (keyL_len _ _ _) (h r hr).1, fun x hx => (h r hr).2 x (keyL_mem hx)⟩
theorem light_LZ {l : List RowD} (h : ∀ r ∈ l, zaH r.ls = true) : LZ l := fun r hr =>
  ⟨by have := lightL_len (h r hr); omega, fun x hx => by have := light_sizes (h r hr) x hx; omega⟩
def opB (op : ByteArray) : Bool := decide ((doE op 1 1).2 = 0)
/-- the first error, if there is one -/
def zaG (f : RowD → Int × Int) : List RowD → Int
  | [] => 0
  | r :: l => if (f r).2 ≠ 0 then (f r).2 else zaG f l
section
variable {f : RowD → Int × Int} {l : List RowD} {k : Nat} {x : RowD}
theorem firstE_app (f : RowD → Int × Int) (a b : List RowD) (h : zaG f a = 0) : zaG f (a ++ b) = zaG f b := by
  induction a with
  | nil => rfl
  | cons y r ih =>
    unfold zaG at h
    split at h
    · contradiction
    · show (if _ then _ else zaG f (r ++ b)) = _
      rw [if_neg (by assumption)]; exact ih h
theorem za8 (hx : l[k]? = some x) (h : zaG f (l.take k) = 0) (e : (f x).2 = 0) : zaG f (l.take (k + 1)) = 0 := by
  rw [zak hx, firstE_app f _ _ h]; unfold zaG; rw [if_neg (by omega)]; rfl
theorem firstE_at (hx : l[k]? = some x) (h : zaG f (l.take k) = 0) (e : ¬ (f x).2 = 0) : zaG f l = (f x).2 := by
  have : l = l.take k ++ x :: l.drop (k + 1) := by rw [← zaW hx, List.take_append_drop]
  rw [this, firstE_app f _ _ h]; unfold zaG; rw [if_pos e]
theorem zdu : zaG f l = 0 ↔ ∀ r ∈ l, (f r).2 = 0 := by
  induction l with
  | nil => constructor; (intro _ r hr; cases hr); (intro _; rfl)
  | cons y r ih =>
    unfold zaG
    constructor
    · intro h
      split at h
      · contradiction
      · intro z hz
        rcases List.mem_cons.1 hz with e | e
        · rw [e]; omega
        · exact ih.1 h z e
    · intro h
      rw [if_neg (by have := h y List.mem_cons_self; omega)]
      exact ih.2 (fun z hz => h z (List.mem_cons_of_mem _ hz))
end
/-! ### each number and one more -/
def scF (op : ByteArray) (v : Int) (left : Bool) (r : RowD) : Int × Int := if left = true then doE op v r.v else doE op r.v v
def zdf (op : ByteArray) (v : Int) (left : Bool) (r : RowD) : Option RowD :=
  if cmpB op = true then (if (scF op v left r).1 = 1 then some r else none) else some ⟨keyL 0 [] r.ls, (scF op v left r).1⟩
def zcM (op : ByteArray) (v : Int) (left : Bool) (l : List RowD) : List RowD := l.filterMap (zdf op v left)
def zb8 (op : ByteArray) (v : Int) (l : List RowD) : Bool := opB op && (z1 l && zax v)
def zaq (op : ByteArray) (l : List RowD) (v : Int) (left : Bool) : List RowD :=
  if zb8 op v l = true then (if zaG (scF op v left) l = 0 then rtL (zcM op v left l) else []) else []
def zaV (op : ByteArray) (l : List RowD) (v : Int) (left : Bool) : Int :=
  if zb8 op v l = true then (if zaG (scF op v left) l = 0 then rtE (zcM op v left l) else zaG (scF op v left) l) else 1
section
variable {op : ByteArray} {v : Int} {left : Bool} {l : List RowD} {k : Nat} {x : RowD}
theorem scOut_add {y : RowD} (hx : l[k]? = some x) (h : zdf op v left x = some y) : zcM op v left (l.take (k + 1)) = zcM op v left (l.take k) ++ [y] := by
  rw [zak hx]; unfold zcM; rw [List.filterMap_append]; simp [h]
theorem scOut_not (hx : l[k]? = some x) (h : zdf op v left x = none) : zcM op v left (l.take (k + 1)) = zcM op v left (l.take k) := by
  rw [zak hx]; unfold zcM; rw [List.filterMap_append]; simp [h]
theorem scOut_len (op : ByteArray) (v : Int) (left : Bool) (l : List RowD) : (zcM op v left l).length ≤ l.length := List.length_filterMap_le _ _
theorem zdR (h : zb8 op v l = false) : [] = zaq op l v left ∧ 1 = zaV op l v left := by unfold zaq zaV; rw [if_neg (by rw [h]; decide), if_neg (by rw [h]; decide)]; exact ⟨rfl, rfl⟩
theorem zco (h : zb8 op v l = true) (hx : l[k]? = some x) (h0 : zaG (scF op v left) (l.take k) = 0) (e : ¬ (scF op v left x).2 = 0) : [] = zaq op l v left ∧ (scF op v left x).2 = zaV op l v left := by
  unfold zaq zaV; rw [if_pos h, if_pos h, firstE_at hx h0 e, if_neg e, if_neg e]; exact ⟨rfl, rfl⟩
theorem sc_ok (h : zb8 op v l = true) (h0 : zaG (scF op v left) (l.take k) = 0) (hk : l.length ≤ k) : rtL (zcM op v left (l.take k)) = zaq op l v left ∧ rtE (zcM op v left (l.take k)) = zaV op l v left := by
  rw [List.take_of_length_le hk] at *
  unfold zaq zaV; rw [if_pos h, if_pos h, if_pos h0, if_pos h0]; exact ⟨rfl, rfl⟩
end
/-! ### rows that have the same key -/
def keyT (mode : Int) (ns : List ByteArray) (r : RowD) : ByteArray := zbS (keyL mode ns r.ls)
def z9 (mode : Int) (ns : List ByteArray) (l : List RowD) : List ByteArray := l.map (keyT mode ns)
def ndT (mode : Int) (ns : List ByteArray) (l : List RowD) : Prop := (z9 mode ns l).Nodup
instance (mode : Int) (ns : List ByteArray) (l : List RowD) : Decidable (ndT mode ns l) := inferInstanceAs (Decidable (List.Nodup _))
theorem keyTs_snoc {mode : Int} {ns : List ByteArray} {l : List RowD} {k : Nat} {x : RowD} (hx : l[k]? = some x) : z9 mode ns (l.take (k + 1)) = z9 mode ns (l.take k) ++ [keyT mode ns x] := by
  rw [zak hx]; unfold z9; rw [List.map_append]; rfl
theorem ndT_bad {mode : Int} {ns : List ByteArray} {l : List RowD} {k : Nat} {x : RowD} (hx : l[k]? = some x) (h : keyT mode ns x ∈ z9 mode ns (l.take k)) : ¬ ndT mode ns l := by
  intro hn
  have : l = l.take (k + 1) ++ l.drop (k + 1) := (List.take_append_drop _ _).symm
  unfold ndT at hn
  rw [this] at hn
  unfold z9 at hn h
  rw [List.map_append, List.nodup_append] at hn
  have h1 := hn.1
  rw [zak hx, List.map_append, List.nodup_append] at h1
  exact h1.2.2 _ h _ (by simp) rfl
theorem nd_snoc {t : ByteArray} {ks : List ByteArray} (h : ks.Nodup) (hn : t ∉ ks) : (ks ++ [t]).Nodup := by
  rw [List.nodup_append]
  exact ⟨h, by simp, fun a ha b hb e => hn (by simp at hb; rw [← hb, ← e]; exact ha)⟩
/-- the row of a key's text -/
def zcu (mode : Int) (ns : List ByteArray) (t : ByteArray) (b : List RowD) : Option RowD := b.find? (fun q => decide (keyT mode ns q = t))
theorem findT_none {mode : Int} {ns : List ByteArray} {t : ByteArray} {b : List RowD} (h : t ∉ z9 mode ns b) : zcu mode ns t b = none := by
  unfold zcu
  rw [List.find?_eq_none]
  intro q hq e
  exact h (List.mem_map.2 ⟨q, hq, of_decide_eq_true e⟩)
theorem findT_some {mode : Int} {ns : List ByteArray} {t : ByteArray} {b : List RowD} (h : t ∈ z9 mode ns b) : ∃ (j : Nat) (q : RowD), (z9 mode ns b)[j]? = some t ∧ b[j]? = some q ∧ zcu mode ns t b = some q ∧ keyT mode ns q = t := by
  induction b with
  | nil => cases h
  | cons y r ih =>
    by_cases e : keyT mode ns y = t
    · exact ⟨0, y, by simp [z9, e], rfl, by unfold zcu; rw [List.find?_cons_of_pos (by simp [e])], e⟩
    · have : t ∈ z9 mode ns r := by
        rcases List.mem_cons.1 (show t ∈ keyT mode ns y :: z9 mode ns r from h) with h | h
        · exact absurd h.symm e
        · exact h
      obtain ⟨j, q, h1, h2, h3, h4⟩ := ih this
      refine ⟨j + 1, q, by simpa [z9] using h1, by simpa using h2, ?_, h4⟩
      unfold zcu at *
      rw [List.find?_cons_of_neg (by simp [e])]; exact h3
def maF (op : ByteArray) (mode : Int) (ns : List ByteArray) (b : List RowD) (r : RowD) : Int × Int := match zcu mode ns (keyT mode ns r) b with
  | none => (0, 0)
  | some q => doE op r.v q.v
def zbI (op : ByteArray) (mode : Int) (ns : List ByteArray) (b : List RowD) (r : RowD) : Option RowD := match zcu mode ns (keyT mode ns r) b with
  | none => none
  | some q => if cmpB op = true then (if (doE op r.v q.v).1 = 1 then some r else none) else some ⟨keyL mode ns r.ls, (doE op r.v q.v).1⟩
def zbA (op : ByteArray) (mode : Int) (ns : List ByteArray) (b a : List RowD) : List RowD := a.filterMap (zbI op mode ns b)
def zbB (op : ByteArray) (a b : List RowD) : Bool := opB op && (z1 a && z1 b)
def zq (op : ByteArray) (a b : List RowD) (mode : Int) (ns : List ByteArray) : List RowD :=
  if zbB op a b = true then (if ndT mode ns a ∧ ndT mode ns b then (if zaG (maF op mode ns b) a = 0 then rtL (zbA op mode ns b a) else []) else []) else []
def zP (op : ByteArray) (a b : List RowD) (mode : Int) (ns : List ByteArray) : Int :=
  if zbB op a b = true then (if ndT mode ns a ∧ ndT mode ns b then (if zaG (maF op mode ns b) a = 0 then rtE (zbA op mode ns b a) else zaG (maF op mode ns b) a) else 6) else 1
section
variable {op : ByteArray} {mode : Int} {ns : List ByteArray} {a b : List RowD} {k : Nat} {x : RowD}
theorem maOut_add {y : RowD} (hx : a[k]? = some x) (h : zbI op mode ns b x = some y) : zbA op mode ns b (a.take (k + 1)) = zbA op mode ns b (a.take k) ++ [y] := by
  rw [zak hx]; unfold zbA; rw [List.filterMap_append]; simp [h]
theorem maOut_not (hx : a[k]? = some x) (h : zbI op mode ns b x = none) : zbA op mode ns b (a.take (k + 1)) = zbA op mode ns b (a.take k) := by
  rw [zak hx]; unfold zbA; rw [List.filterMap_append]; simp [h]
theorem maOut_len (op : ByteArray) (mode : Int) (ns : List ByteArray) (b a : List RowD) : (zbA op mode ns b a).length ≤ a.length := List.length_filterMap_le _ _
theorem zdT (h : zbB op a b = false) : [] = zq op a b mode ns ∧ 1 = zP op a b mode ns := by unfold zq zP; rw [if_neg (by rw [h]; decide), if_neg (by rw [h]; decide)]; exact ⟨rfl, rfl⟩
theorem zaU (h : zbB op a b = true) (hn : ¬ (ndT mode ns a ∧ ndT mode ns b)) : [] = zq op a b mode ns ∧ 6 = zP op a b mode ns := by
  unfold zq zP; rw [if_pos h, if_pos h, if_neg hn, if_neg hn]; exact ⟨rfl, rfl⟩
theorem zdS (h : zbB op a b = true) (hn : ndT mode ns a ∧ ndT mode ns b) (hx : a[k]? = some x) (h0 : zaG (maF op mode ns b) (a.take k) = 0) (e : ¬ (maF op mode ns b x).2 = 0) : [] = zq op a b mode ns ∧ (maF op mode ns b x).2 = zP op a b mode ns := by
  unfold zq zP; rw [if_pos h, if_pos h, if_pos hn, if_pos hn, firstE_at hx h0 e, if_neg e, if_neg e]; exact ⟨rfl, rfl⟩
theorem ma_ok (h : zbB op a b = true) (hn : ndT mode ns a ∧ ndT mode ns b) (h0 : zaG (maF op mode ns b) (a.take k) = 0) (hk : a.length ≤ k) : rtL (zbA op mode ns b (a.take k)) = zq op a b mode ns ∧ rtE (zbA op mode ns b (a.take k)) = zP op a b mode ns := by
  rw [List.take_of_length_le hk] at *
  unfold zq zP; rw [if_pos h, if_pos h, if_pos hn, if_pos hn, if_pos h0, if_pos h0]; exact ⟨rfl, rfl⟩
theorem maF_none (h : keyT mode ns x ∉ z9 mode ns b) : maF op mode ns b x = (0, 0) ∧ zbI op mode ns b x = none := by unfold maF zbI; rw [findT_none h]; exact ⟨rfl, rfl⟩
theorem zaD {q : RowD} (h : zcu mode ns (keyT mode ns x) b = some q) : maF op mode ns b x = doE op x.v q.v := by unfold maF; rw [h]
theorem maOne_cmp {q : RowD} (h : zcu mode ns (keyT mode ns x) b = some q) (h1 : cmpB op = true) (h2 : (doE op x.v q.v).1 = 1) : zbI op mode ns b x = some x := by unfold zbI; rw [h]; simp [h1, h2]
theorem maOne_no {q : RowD} (h : zcu mode ns (keyT mode ns x) b = some q) (h1 : cmpB op = true) (h2 : ¬ (doE op x.v q.v).1 = 1) : zbI op mode ns b x = none := by unfold zbI; rw [h]; simp [h1, h2]
theorem zds {q : RowD} (h : zcu mode ns (keyT mode ns x) b = some q) (h1 : cmpB op = false) : zbI op mode ns b x = some ⟨keyL mode ns x.ls, (doE op x.v q.v).1⟩ := by unfold zbI; rw [h]; simp [h1]
end
end Lp
/- Walks, printed by a program of mine. -/
set_option linter.unusedSimpArgs false
set_option linter.unusedVariables false
namespace Lp
open Go Go.RowKit Go.Proofs

namespace HdYtfjinapgehafiaaV62
theorem zdI : ∀ w, ((#[⟨"Labels", 27, 0, false, "", "", 0⟩, ⟨"V", 3, 1, false, "", "", 24⟩] : Array Field).mapM fun f => do pure (f.offset, ← Go.sizeOf f.type) : Sem (Array (Nat × Nat))).run Try.prog w = .ok ([(0, 1), (1, 1)] : List (Nat × Nat)).toArray w := fun _ => by kernel_rfl
theorem zao (b o : Nat) : ∀ w, (Instr.fieldAt 30 (.pointer (some ⟨b, o, none⟩)) 0).run Try.prog w = .ok (.pointer (some ⟨b, o + 0, none⟩)) w := fun _ => by kernel_rfl
theorem zaE (b o : Nat) : ∀ w, (Instr.fieldAt 30 (.pointer (some ⟨b, o, none⟩)) 1).run Try.prog w = .ok (.pointer (some ⟨b, o + 1, none⟩)) w := fun _ => by kernel_rfl
theorem za4 : ∃ i, Try.prog.info? 30 = some i ∧ i.zero = some (.agg #[(.slice none 0 0), (.int .i64 0)]) ∧ i.size = 2 ∧ i.bytes = 32 := zbG (by kernel_rfl)
theorem zbm : Try.prog.underlying 22 = some (.slice 30) := by kernel_rfl
end HdYtfjinapgehafiaaV62
open HdYtfjinapgehafiaaV62

set_option maxHeartbeats 4000000 in
set_option maxRecDepth 100000 in
theorem vorder_c (a : RowD) (b : RowD)  :
    CD Try.prog 32 [] [RowD.d a, RowD.d b] (isR (dI (z2 a.ls b.ls))) := by
  refine zL Try.func32 rfl (N := 10) rfl rfl (fun C => ?_)
  refine JD.keep [0, 1] [(0, RowD.d a), (1, RowD.d b)] rfl ?_
  refine JD.bd 0 rfl (fun bd0 => ?_)
  refine JD.bd 1 rfl (fun bd1 => ?_)
  refine zh _ _ rfl rfl rfl (zc rfl (zl rfl rfl (zdv rfl (CellD.agg)) ?_))
  rintro _ _ ⟨g1, rfl, rfl⟩
  refine zl rfl rfl (zdv rfl (CellD.agg)) ?_
  rintro _ _ ⟨g2, rfl, rfl⟩
  refine za rfl rfl (ze rfl) (zg rfl (zf (zh _ _ rfl rfl rfl (zc rfl (za rfl rfl (zA rfl zao rfl) (za rfl rfl (zR rfl (i := 1) rfl Try.isAgg27 rfl) (za rfl rfl (zA rfl zao rfl) (za rfl rfl (zR rfl (i := 0) rfl Try.isAgg27 rfl) (zl rfl rfl (zt [] _ [] rfl rfl (.cons ArgC.id (.cons ArgC.id .nil)) zo Try.call48 (Compare2_c a.ls b.ls) (.inl rfl)) ?_)))))))))
  rintro _ _ ⟨_, ⟨rfl, rfl⟩, rfl⟩
  refine OpsD.norm [.bx g2 30 (RowD.d b), .bx g1 30 (RowD.d a)] rfl (za rfl rfl (ze rfl) (zg rfl (zf (JD.keep [4] [(4, dI (z2 a.ls b.ls))] rfl (zB rfl ?_)))))
  exact zx Try.results32 (.cons (zs rfl) .nil) rfl HSub.none ⟨rfl, rfl⟩

set_option maxHeartbeats 4000000 in
set_option maxRecDepth 100000 in
theorem zd8 (s : ByteArray)  :
    CD Try.prog 25 [] [.s s] (isR (dB (opB s))) := by
  refine zL Try.func25 rfl (N := 12) rfl rfl (fun C => ?_)
  refine JD.keep [0] [(0, .s s)] rfl ?_
  refine JD.bd 0 rfl (fun bd0 => ?_)
  have sz0 : s.size ≤ 9223372036854775807 := bd0
  refine zh _ _ rfl rfl rfl (zc rfl (za rfl rfl (ze rfl) (zg rfl (zf (zh _ _ rfl rfl rfl (zc rfl (za rfl rfl (zb rfl) (zl rfl rfl (zt [] _ [] rfl rfl (.cons ArgC.id (.cons ArgC.id (.cons ArgC.id .nil))) zo Try.call28 (Do_c s 1 1) (.inl rfl)) ?_))))))))
  rintro _ _ ⟨_, ⟨rfl, rfl⟩, rfl⟩
  refine OpsD.norm [] rfl (za rfl rfl (zb rfl) (za rfl rfl (zF rfl rfl) (za rfl rfl (zF rfl rfl) (za rfl rfl (ze rfl) (za rfl rfl (ze rfl) (zg rfl (zf (zh _ _ rfl rfl rfl (zc rfl (za rfl rfl (zb rfl) (za rfl rfl (zY rfl rfl rfl) (za rfl rfl (ze rfl) (zg rfl (zf (JD.keep [2] [(2, dB (decide ((doE s 1 1).2 = (0 : Int))))] rfl (zB rfl ?_))))))))))))))))
  exact zx Try.results25 (.cons (zM (zs rfl) (Cv.eq (congrArg (fun b => D.v (.bool b)) (by rfl)))) .nil) rfl HSub.none ⟨rfl, rfl⟩

set_option maxHeartbeats 4000000 in
set_option maxRecDepth 100000 in
theorem single_c (r : RowD)  :
    CD Try.prog 31 [] [RowD.d r] (isR (dB (zba r))) := by
  refine zL Try.func31 rfl (N := 11) rfl rfl (fun C => ?_)
  refine JD.keep [0] [(0, RowD.d r)] rfl ?_
  refine JD.bd 0 rfl (fun bd0 => ?_)
  refine zh _ _ rfl rfl rfl (zc rfl (zl rfl rfl (zdv rfl (CellD.agg)) ?_))
  rintro _ _ ⟨g1, rfl, rfl⟩
  refine za rfl rfl (ze rfl) (zg rfl (zf (zh _ _ rfl rfl rfl (JD.keep [1] [(1, dP g1 0)] rfl ?_))))
  refine zaj 2 (((decide (za0 r.ls = 0) && decide (z2 (zQ r.ls) r.ls = 0)) && zax r.v)) [.bx g1 30 (RowD.d r)] (fun _ hQ2 => ?_) ?_
  · skip
    rcases Bool.eq_false_or_eq_true ((decide (za0 r.ls = 0) && decide (z2 (zQ r.ls) r.ls = 0))) with hg3 | hg3
    · skip
      refine zc rfl (za rfl rfl (zA rfl zao rfl) (za rfl rfl (zR rfl (i := 0) rfl Try.isAgg27 rfl) (zl rfl rfl (zt [] _ [] rfl rfl (.cons ArgC.id .nil) zo Try.call47 (right_c r.ls) (.inl rfl)) ?_)))
      rintro _ _ ⟨_, ⟨rfl, rfl⟩, rfl⟩
      refine OpsD.norm [.bx g1 30 (RowD.d r)] rfl (OpsD.sub ((5, dB true) :: [(1, dP g1 0), (3, dP g1 0), (4, .sh 2 (r.ls.map Lbl.d))]) ⟨se rfl (congrArg (fun b => D.v (.bool b)) hg3), sk rfl, sk rfl, sk rfl, trivial⟩ (za rfl rfl (zb rfl) (zi rfl rfl rfl rfl rfl (zA rfl zaE rfl) (zi rfl rfl rfl rfl rfl (zR rfl (i := 0) rfl Try.isAgg3 rfl) (zaT rfl rfl rfl rfl rfl (zt [] _ [] rfl rfl (.cons ArgC.id .nil) zo Try.call33 (zc4 r.v) (.inl rfl)) ?_)))))
      rintro _ _ ⟨_, ⟨rfl, rfl⟩, rfl⟩
      refine OpsD.norm [.bx g1 30 (RowD.d r)] rfl (za rfl rfl (zr rfl rfl) (za rfl rfl (ze rfl) (zg rfl ?_)))
      exact PD.sub ((2, dB ((decide (za0 r.ls = 0) && decide (z2 (zQ r.ls) r.ls = 0)) && zax r.v)) :: [(1, dP g1 0)]) ⟨sc rfl (Cv.eq (congrArg (fun b => D.v (.bool b)) (by first | (simp [hg3]; done) | (simp_all; done)))), sk rfl, trivial⟩ hQ2
    · skip
      refine zc rfl (za rfl rfl (zA rfl zao rfl) (za rfl rfl (zR rfl (i := 0) rfl Try.isAgg27 rfl) (zl rfl rfl (zt [] _ [] rfl rfl (.cons ArgC.id .nil) zo Try.call47 (right_c r.ls) (.inl rfl)) ?_)))
      rintro _ _ ⟨_, ⟨rfl, rfl⟩, rfl⟩
      refine OpsD.norm [.bx g1 30 (RowD.d r)] rfl (OpsD.sub ((5, dB false) :: [(1, dP g1 0), (3, dP g1 0), (4, .sh 2 (r.ls.map Lbl.d))]) ⟨se rfl (congrArg (fun b => D.v (.bool b)) hg3), sk rfl, sk rfl, sk rfl, trivial⟩ (za rfl rfl (zb rfl) (zj rfl rfl rfl rfl rfl (by decide) (zj rfl rfl rfl rfl rfl (by decide) (zj rfl rfl rfl rfl rfl (by decide) (za rfl rfl (zm rfl rfl) (za rfl rfl (ze rfl) (zg rfl ?_))))))))
      exact PD.sub ((2, dB ((decide (za0 r.ls = 0) && decide (z2 (zQ r.ls) r.ls = 0)) && zax r.v)) :: [(1, dP g1 0)]) ⟨sc rfl (Cv.eq (congrArg (fun b => D.v (.bool b)) (by first | (simp [hg3]; done) | (simp_all; done)))), sk rfl, trivial⟩ hQ2
  · skip
    refine zf (zB rfl ?_)
    exact zx Try.results31 (.cons (zM (zs rfl) (Cv.eq (congrArg (fun b => D.v (.bool b)) (by unfold zba; rw [rightB_eq])))) .nil) rfl HSub.none ⟨rfl, rfl⟩

set_option maxHeartbeats 4000000 in
set_option maxRecDepth 100000 in
theorem vown_c (r : RowD) (hl : r.ls.length ≤ 1000000) :
    CD Try.prog 45 [] [RowD.d r] (isR (RowD.d r)) := by
  refine zL Try.func45 rfl (N := 9) rfl rfl (fun C => ?_)
  refine JD.keep [0] [(0, RowD.d r)] rfl ?_
  refine JD.bd 0 rfl (fun bd0 => ?_)
  refine zh _ _ rfl rfl rfl (zc rfl (zl rfl rfl (zdv rfl (CellD.agg)) ?_))
  rintro _ _ ⟨g1, rfl, rfl⟩
  refine zl rfl rfl (zaN (zv := (.agg #[(.slice none 0 0), (.int .i64 0)])) Try.zeroValue30 ⟨rfl, rfl, trivial⟩ (Cv.vagg (by decide))) ?_
  rintro _ _ ⟨g2, rfl, rfl⟩
  refine zg rfl (zf (zh _ _ rfl rfl rfl (JD.keep [0, 1, 2] [(0, RowD.d r), (1, dP g1 0), (2, dP g2 0)] rfl (JD.norm [.bx g2 30 (.agg [dZ, dI 0]), .bx g1 30 (RowD.d r)] rfl (zai 5 [(3, dP g1 0, none), (4, .sh 2 (r.ls.map Lbl.d), none), (5, .sh 2 (r.ls.map Lbl.d), none), (6, dP g1 1, none), (7, dI r.v, none)] [.bx g2 30 (.agg [dZ, dI 0]), .bx g1 30 (RowD.d r)] (Hn := [.bx g2 30 (.agg [dZ, dI 0]), .bx g1 30 (RowD.d r)]) zaz rfl rfl rfl rfl HSub.rfl' rfl ⟨sa_p rfl rfl rfl (zA rfl zao rfl), sa_p rfl rfl rfl (zR rfl (i := 1) rfl Try.isAgg27 rfl), sa_q rfl rfl rfl (zb0 rfl (.cons Cv.rfl' .nil) Try.call60 (cloneL_c r.ls (by omega)) isOwn_share), sa_p rfl rfl rfl (zA rfl zaE rfl), sa_p rfl rfl rfl (zR rfl (i := 1) rfl Try.isAgg3 rfl), trivial⟩ (OpsD.keep [0, 1, 2, 3, 4, 5, 6, 7] [(0, RowD.d r), (1, dP g1 0), (2, dP g2 0), (3, dP g1 0), (4, .sh 2 (r.ls.map Lbl.d)), (5, .sh 2 (r.ls.map Lbl.d)), (6, dP g1 1), (7, dI r.v)] rfl ?_))))))
  refine za rfl rfl (zdd [0, 1] [.tmp 5, .tmp 7] (zv := (.agg #[(.slice none 0 0), (.int .i64 0)])) rfl rfl (.cons CellD.sh (.cons (CellD.v rfl) .nil)) (Try.runUnderlying30) Try.zeroValue30 zdI ⟨rfl, rfl, trivial⟩ rfl) (zl rfl rfl (zab (i := 0) (X' := .agg [.sh 2 (r.ls.map Lbl.d), dI r.v]) rfl rfl rfl (CellD.agg) Try.sizeOf30 rfl rfl rfl) ?_)
  rintro _ _ ⟨rfl, rfl⟩
  refine OpsD.norm [.bx g2 30 (.agg [.sh 2 (r.ls.map Lbl.d), dI r.v]), .bx g1 30 (RowD.d r)] rfl (zg rfl (zf (zB rfl ?_)))
  exact zx Try.results45 (.cons (ro_cell (i := 0) rfl rfl Try.isAgg30 Try.sizeOf30 rfl rfl) .nil) rfl HSub.none ⟨rfl, rfl⟩

set_option maxHeartbeats 4000000 in
set_option maxRecDepth 100000 in
theorem zef (mode : Int) (names : List ByteArray) (l : List Lbl) (hl : l.length ≤ 1000000) :
    CD Try.prog 10 [] [dI mode, .sh 1 (names.map D.s), .sh 2 (l.map Lbl.d)] (zd0 2 33 ((keyL mode names l).map Lbl.d)) := by
  refine zL Try.func10 rfl (N := 23) rfl rfl (fun C => ?_)
  refine JD.keep [0, 1, 2] [(0, dI mode), (1, .sh 1 (names.map D.s)), (2, .sh 2 (l.map Lbl.d))] rfl ?_
  refine JD.bd 1 rfl (fun bd1 => ?_)
  have nl1 := zae bd1
  refine JD.bd 2 rfl (fun bd2 => ?_)
  have nl2 := zae bd2
  have hp1 := zbV l names false
  refine zh _ _ rfl rfl rfl (zc rfl (za rfl rfl (ze rfl) (zg rfl (zf (zh _ _ rfl rfl rfl (zh _ _ rfl rfl rfl (zc rfl (za rfl rfl (zb rfl) (zg rfl (zf (zy _ rfl rfl (zh _ _ rfl rfl rfl (zc rfl (za rfl rfl (zY rfl rfl rfl) (za rfl rfl (ze rfl) (zg rfl (zf ?_)))))))))))))))))
  refine zu _ _ rfl rfl rfl rfl (fun hc1 => ?_) (fun hc1 => ?_)
  · replace hc1 := of_decide_eq_true hc1
    refine zh _ _ rfl rfl rfl (zc rfl (za rfl rfl (zb rfl) (za rfl rfl (zb rfl) (zl rfl rfl (zt [] _ [] rfl rfl (.cons ArgC.id (.cons ArgC.id .nil)) zo Try.call23 (only_c l names (by omega)) (.inl rfl)) ?_))))
    rintro _ _ ⟨_, ⟨v2, rfl, rfl⟩, rfl⟩
    refine OpsD.norm [.sl v2 2 33 ((zaQ l names true).map Lbl.d)] rfl (za rfl rfl (ze rfl) (zg rfl (zf (zB rfl (zn (zp (PD.subH (HSub.less (zcK (i := 0) rfl)) (PD.subH (HSub.turn (h' := .sl v2 2 33 ((keyL mode names l).map Lbl.d)) rfl (Hp.eq_sl (show List.map Lbl.d (zaQ l names true) = List.map Lbl.d (keyL mode names l) from congrArg _ (by unfold keyL metB; simp [*])))) ?_))))))))
    exact zdc Try.results10 (.cons (zs rfl) .nil) rfl ⟨_, rfl, rfl⟩
  · replace hc1 := of_decide_eq_false hc1
    refine zh _ _ rfl rfl rfl (zc rfl (za rfl rfl (zY rfl rfl rfl) (za rfl rfl (ze rfl) (zg rfl (zf ?_)))))
    refine zu _ _ rfl rfl rfl rfl (fun hc3 => ?_) (fun hc3 => ?_)
    · replace hc3 := of_decide_eq_true hc3
      refine zh _ _ rfl rfl rfl (zc rfl (za rfl rfl (zb rfl) (za rfl rfl (zb rfl) (zl rfl rfl (zt [] _ [] rfl rfl (.cons ArgC.id (.cons ArgC.id .nil)) zo Try.call24 (without_c l names (by omega)) (.inl rfl)) ?_))))
      rintro _ _ ⟨_, ⟨v4, rfl, rfl⟩, rfl⟩
      refine OpsD.norm [.sl v4 2 33 ((zaQ l names false).map Lbl.d)] rfl (zl rfl rfl (z5 [.const (.string (⟨#[109, 101, 116, 114, 105, 99]⟩ : ByteArray))] rfl rfl (.cons (CellD.v rfl) .nil) rfl Try.runUnderlying23 Try.sizeOf9 Try.zeroValue9 rfl rfl rfl rfl) ?_)
      rintro _ _ ⟨g5, rfl, rfl⟩
      refine OpsD.subH (HSub.turn (h' := .sl (vS g5 1 1) 1 9 ([(⟨#[109, 101, 116, 114, 105, 99]⟩ : ByteArray)].map D.s)) rfl (Hp.cvs_sl (.cons (Cv.str (by first | decide | (unfold maxLen; omega))) .nil))) (zl rfl rfl (zt [] _ [.sl v4 2 33 ((zaQ l names false).map Lbl.d), .sl (vS g5 1 1) 1 9 ([(⟨#[109, 101, 116, 114, 105, 99]⟩ : ByteArray)].map D.s)] rfl rfl (.cons (ArgC.own (j := 0) rfl rfl) (.cons (ArgC.own (j := 1) rfl rfl) .nil)) (za3 (j := 1) rfl (za3 (j := 0) rfl zo)) Try.call24 (without_c (zaQ l names false) [(⟨#[109, 101, 116, 114, 105, 99]⟩ : ByteArray)] (by omega)) (.inr (isOwn_flat (flatL_map (fun _ => rfl) _)))) ?_)
      rintro _ _ ⟨_, ⟨v6, rfl, rfl⟩, rfl⟩
      refine OpsD.norm [.sl v6 2 33 ((zaQ (zaQ l names false) [(⟨#[109, 101, 116, 114, 105, 99]⟩ : ByteArray)] false).map Lbl.d), .sl (vS g5 1 1) 1 9 ([(⟨#[109, 101, 116, 114, 105, 99]⟩ : ByteArray)].map D.s), .sl v4 2 33 ((zaQ l names false).map Lbl.d)] rfl (za rfl rfl (ze rfl) (zg rfl (zf (JD.keep [2, 6] [(2, .sh 2 (l.map Lbl.d)), (6, .ov v6)] rfl (zB rfl (zn (zp (PD.subH (HSub.less (zcK (i := 0) rfl)) (PD.subH (HSub.turn (h' := .sl v6 2 33 ((keyL mode names l).map Lbl.d)) rfl (Hp.eq_sl (show List.map Lbl.d (zaQ (zaQ l names false) [(⟨#[109, 101, 116, 114, 105, 99]⟩ : ByteArray)] false) = List.map Lbl.d (keyL mode names l) from congrArg _ (by unfold keyL metB; simp [*])))) ?_)))))))))
      exact zdc Try.results10 (.cons (zs rfl) .nil) rfl ⟨_, rfl, rfl⟩
    · replace hc3 := of_decide_eq_false hc3
      refine zz rfl (zD (zf (zh _ _ rfl rfl rfl (zc rfl (za rfl rfl (zb rfl) (zl rfl rfl (z5 [.const (.string (⟨#[109, 101, 116, 114, 105, 99]⟩ : ByteArray))] rfl rfl (.cons (CellD.v rfl) .nil) rfl Try.runUnderlying23 Try.sizeOf9 Try.zeroValue9 rfl rfl rfl rfl) ?_))))))
      rintro _ _ ⟨g7, rfl, rfl⟩
      refine OpsD.subH (HSub.turn (h' := .sl (vS g7 1 1) 1 9 ([(⟨#[109, 101, 116, 114, 105, 99]⟩ : ByteArray)].map D.s)) rfl (Hp.cvs_sl (.cons (Cv.str (by first | decide | (unfold maxLen; omega))) .nil))) (zl rfl rfl (zt [] _ [.sl (vS g7 1 1) 1 9 ([(⟨#[109, 101, 116, 114, 105, 99]⟩ : ByteArray)].map D.s)] rfl rfl (.cons ArgC.id (.cons (ArgC.own (j := 0) rfl rfl) .nil)) (za3 (j := 0) rfl zo) Try.call24 (without_c l [(⟨#[109, 101, 116, 114, 105, 99]⟩ : ByteArray)] (by omega)) (.inr (isOwn_flat (flatL_map (fun _ => rfl) _)))) ?_)
      rintro _ _ ⟨_, ⟨v8, rfl, rfl⟩, rfl⟩
      refine OpsD.norm [.sl v8 2 33 ((zaQ l [(⟨#[109, 101, 116, 114, 105, 99]⟩ : ByteArray)] false).map Lbl.d), .sl (vS g7 1 1) 1 9 ([(⟨#[109, 101, 116, 114, 105, 99]⟩ : ByteArray)].map D.s)] rfl (za rfl rfl (ze rfl) (zg rfl (zf (JD.keep [6] [(6, .ov v8)] rfl (zB rfl (PD.subH (HSub.less (zcK (i := 0) rfl)) (PD.subH (HSub.turn (h' := .sl v8 2 33 ((keyL mode names l).map Lbl.d)) rfl (Hp.eq_sl (show List.map Lbl.d (zaQ l [(⟨#[109, 101, 116, 114, 105, 99]⟩ : ByteArray)] false) = List.map Lbl.d (keyL mode names l) from congrArg _ (by unfold keyL metB; simp [*])))) ?_)))))))
      exact zdc Try.results10 (.cons (zs rfl) .nil) rfl ⟨_, rfl, rfl⟩

set_option maxHeartbeats 4000000 in
set_option maxRecDepth 100000 in
theorem zbZ (l : List RowD)  :
    CD Try.prog 15 [] [.sh 2 (l.map RowD.d)] (isR (dB (z1 l))) := by
  refine zL Try.func15 rfl (N := 33) rfl rfl (fun C => ?_)
  refine JD.keep [0] [(0, .sh 2 (l.map RowD.d))] rfl ?_
  refine JD.bd 0 rfl (fun bd0 => ?_)
  have nl0 := zae bd0
  refine zh _ _ rfl rfl rfl (zc rfl (za rfl rfl (ze rfl) (zg rfl (zf (zh _ _ rfl rfl rfl (zh _ _ rfl rfl rfl (zc rfl (za rfl rfl (zb rfl) (za rfl rfl (zar (n := l.length) rfl Try.runUnderlying22 (by simp only [lm, lc, ln])) (za rfl rfl (zaM rfl rfl rfl) (zg rfl (zf ?_))))))))))))
  refine zu _ _ rfl rfl rfl rfl (fun hc1 => ?_) (fun hc1 => ?_)
  · replace hc1 := of_decide_eq_true hc1
    refine zh _ _ rfl rfl rfl (zc rfl (za rfl rfl (ze rfl) (zg rfl (zf (zB rfl (zp ?_))))))
    exact zx Try.results15 (.cons (zM (zs rfl) (Cv.eq (congrArg (fun b => D.v (.bool b)) (by exact vr_long hc1)))) .nil) rfl HSub.none ⟨rfl, rfl⟩
  · replace hc1 := of_decide_eq_false hc1
    refine zz rfl (zf (zh _ _ rfl rfl rfl (zh _ _ rfl rfl rfl (zc rfl (za rfl rfl (zb rfl) (za rfl rfl (zar (n := l.length) rfl Try.runUnderlying22 (by simp only [lm, lc, ln])) (za rfl rfl (zb rfl) (zg rfl (zf (zy _ rfl rfl (z7 (fun (g : Nat) => [(0, .sh 2 (l.map RowD.d)), (8, .sh 2 (l.map RowD.d)), (9, dN l.length), (10, dN g)]) (fun (g : Nat) => []) (fun (g : Nat) => (zbH l 0 = zbH l g)) (fun (g : Nat) => l.length - g) _ 0 rfl rfl ⟨sk rfl, sk rfl, sk rfl, sk rfl, trivial⟩ HSub.rfl' rfl ?_)))))))))))
    rintro k hk
    refine JD.keep [0, 8, 9, 10] [(0, .sh 2 (l.map RowD.d)), (8, .sh 2 (l.map RowD.d)), (9, dN l.length), (10, dN k)] rfl (JD.norm [] rfl (zh _ _ rfl rfl rfl (zc rfl (za rfl rfl (zaa rfl rfl rfl) (zg rfl (zf (zh _ _ rfl rfl rfl ?_)))))))
    refine zu _ _ rfl rfl rfl rfl (fun hc2 => ?_) (fun hc2 => ?_)
    · replace hc2 := of_decide_eq_true hc2
      refine zz rfl (zf (zh _ _ rfl rfl rfl (zy _ rfl rfl (zh _ _ rfl rfl rfl (zc rfl (za rfl rfl (zb rfl) ?_))))))
      obtain ⟨x1, hx1⟩ := zV l k (by omega)
      refine za rfl rfl (zJ (k := k) rfl rfl Try.runUnderlying22 Try.sizeOf30 (by first | rfl | omega) (zw hx1)) (za rfl rfl (zaL (d := RowD.d x1) rfl Try.isAgg30 Try.sizeOf30 rfl rfl) (zl rfl rfl (zaN (zv := (.agg #[(.slice none 0 0), (.int .i64 0)])) Try.zeroValue30 ⟨rfl, rfl, trivial⟩ (Cv.vagg (by decide))) ?_))
      rintro _ _ ⟨g3, rfl, rfl⟩
      refine za rfl rfl (ze rfl) (zl rfl rfl (zab (i := 0) (X' := RowD.d x1) rfl rfl rfl (CellD.agg) Try.sizeOf30 rfl rfl rfl) ?_)
      rintro _ _ ⟨rfl, rfl⟩
      refine OpsD.norm [.bx g3 30 (RowD.d x1)] rfl (zg rfl (zf (zh _ _ rfl rfl rfl ?_)))
      rcases Bool.eq_false_or_eq_true (zba x1) with hg4 | hg4
      · skip
        by_cases hg5 : (0 : Int) < ((k : Nat) : Int)
        · skip
          refine JD.keep [0, 3, 4, 8, 9, 10, 11, 12, 13, 14] [(0, .sh 2 (l.map RowD.d)), (3, dN k), (4, dP g3 0), (8, .sh 2 (l.map RowD.d)), (9, dN l.length), (10, dN k), (11, dB (decide (((k : Nat) : Int) < ((l.length : Nat) : Int)))), (12, dN k), (13, .el (RowD.d x1) 0), (14, RowD.d x1)] rfl (JD.norm [.bx g3 30 (RowD.d x1)] rfl ?_)
          obtain ⟨x2, hx2⟩ := zV l (k - 1) (by omega)
          refine zai 13 [(15, RowD.d x1, none), (16, dB true, none), (17, dB false, none), (18, dB false, none), (19, dN k, none), (20, dB true, none), (21, dB true, none), (22, .sh 2 (l.map RowD.d), none), (23, dN k, none), (24, dN (k - 1), none), (25, .el (RowD.d x2) 0, none), (26, RowD.d x2, none), (27, RowD.d x1, none)] [.bx g3 30 (RowD.d x1)] (Hn := [.bx g3 30 (RowD.d x1)]) zaz rfl rfl rfl rfl HSub.rfl' rfl ⟨sa_p rfl rfl rfl (za2 (d := RowD.d x1) rfl (i := 0) rfl Try.isAgg30 Try.sizeOf30 rfl rfl), sa_q rfl rfl rfl ((zb0 rfl (.cons Cv.rfl' .nil) Try.call31 (single_c x1) zbx).cv (Cv.eq (congrArg (fun b => D.v (.bool b)) hg4))), sa_p rfl rfl rfl (zag (q := true) rfl), sa_p rfl rfl rfl (zb rfl), zX rfl rfl rfl rfl rfl rfl (zb rfl).qu, zX rfl rfl rfl rfl rfl rfl (zaM rfl rfl (decide_eq_true hg5)).qu, zX rfl rfl rfl rfl rfl rfl (zb rfl).qu, zX rfl rfl rfl rfl rfl rfl (zb rfl).qu, zX rfl rfl rfl rfl rfl rfl (zb rfl).qu, zX rfl rfl rfl rfl rfl rfl (zaR (c := ((k - 1 : Nat) : Int)) rfl rfl (zT (by omega) (by omega))).qu, zX rfl rfl rfl rfl rfl rfl (zJ (k := k - 1) rfl rfl Try.runUnderlying22 Try.sizeOf30 (by first | rfl | omega) (zw hx2)).qu, zX rfl rfl rfl rfl rfl rfl (zaL (d := RowD.d x2) rfl Try.isAgg30 Try.sizeOf30 rfl rfl).qu, zX rfl rfl rfl rfl rfl rfl (za2 (d := RowD.d x1) rfl (i := 0) rfl Try.isAgg30 Try.sizeOf30 rfl rfl).qu, trivial⟩ ?_
          refine OpsD.keep [0, 3, 4, 8, 9, 10, 11, 12, 13, 14, 15, 16, 17, 18, 19, 20, 21, 22, 23, 24, 25, 26, 27] [(0, .sh 2 (l.map RowD.d)), (3, dN k), (4, dP g3 0), (8, .sh 2 (l.map RowD.d)), (9, dN l.length), (10, dN k), (11, dB (decide (((k : Nat) : Int) < ((l.length : Nat) : Int)))), (12, dN k), (13, .el (RowD.d x1) 0), (14, RowD.d x1), (15, RowD.d x1), (16, dB true), (17, dB false), (18, dB false), (19, dN k), (20, dB true), (21, dB true), (22, .sh 2 (l.map RowD.d)), (23, dN k), (24, dN (k - 1)), (25, .el (RowD.d x2) 0), (26, RowD.d x2), (27, RowD.d x1)] rfl (zaT rfl rfl rfl rfl rfl (zt [] _ [] rfl rfl (.cons ArgC.id (.cons ArgC.id .nil)) zo Try.call32 (vorder_c x2 x1) (.inl rfl)) ?_)
          rintro _ _ ⟨_, ⟨rfl, rfl⟩, rfl⟩
          refine OpsD.norm [.bx g3 30 (RowD.d x1)] rfl (zi rfl rfl rfl rfl rfl (zac rfl rfl rfl) (zi rfl rfl rfl rfl rfl (zr rfl rfl) (za rfl rfl (zm rfl rfl) (zg rfl (zf ?_)))))
          refine zu _ _ rfl rfl rfl rfl (fun hc6 => ?_) (fun hc6 => ?_)
          · replace hc6 := of_decide_eq_true hc6
            refine zh _ _ rfl rfl rfl (zc rfl (za rfl rfl (ze rfl) (zg rfl (zf (zB rfl (zn (zp (zZ (zn (zp ?_))))))))))
            exact zx Try.results15 (.cons (zM (zs rfl) (Cv.eq (congrArg (fun b => D.v (.bool b)) (by exact vr_bad2 hk hx1 (prevR_pos hg5 hx2) hc6)))) .nil) rfl HSub.none ⟨rfl, rfl⟩
          · replace hc6 := of_decide_eq_false hc6
            refine zz rfl (zD (zf (zc rfl (za rfl rfl (z8 (c := ((k + 1 : Nat) : Int)) rfl rfl (zT (by omega) (by omega))) (za rfl rfl (zb rfl) (zg rfl ?_))))))
            exact zS (k + 1) ⟨sk rfl, sk rfl, sk rfl, sk rfl, trivial⟩ HSub.none (vr_step hk hx1 hg4 (prevR_pos hg5 hx2) hc6) (by omega)
        · skip
          refine JD.keep [0, 3, 4, 8, 9, 10, 11, 12, 13, 14] [(0, .sh 2 (l.map RowD.d)), (3, dN k), (4, dP g3 0), (8, .sh 2 (l.map RowD.d)), (9, dN l.length), (10, dN k), (11, dB (decide (((k : Nat) : Int) < ((l.length : Nat) : Int)))), (12, dN k), (13, .el (RowD.d x1) 0), (14, RowD.d x1)] rfl (JD.norm [.bx g3 30 (RowD.d x1)] rfl ?_)
          refine zai 13 [(15, RowD.d x1, none), (16, dB true, none), (17, dB false, none), (18, dB false, none), (19, dN k, none), (20, dB false, none), (21, dB false, none), (22, .v undef, none), (23, .v undef, none), (24, .v undef, none), (25, .v undef, none), (26, .v undef, none), (27, .v undef, none)] [.bx g3 30 (RowD.d x1)] (Hn := [.bx g3 30 (RowD.d x1)]) zaz rfl rfl rfl rfl HSub.rfl' rfl ⟨sa_p rfl rfl rfl (za2 (d := RowD.d x1) rfl (i := 0) rfl Try.isAgg30 Try.sizeOf30 rfl rfl), sa_q rfl rfl rfl ((zb0 rfl (.cons Cv.rfl' .nil) Try.call31 (single_c x1) zbx).cv (Cv.eq (congrArg (fun b => D.v (.bool b)) hg4))), sa_p rfl rfl rfl (zag (q := true) rfl), sa_p rfl rfl rfl (zb rfl), zX rfl rfl rfl rfl rfl rfl (zb rfl).qu, zX rfl rfl rfl rfl rfl rfl (zaM rfl rfl (decide_eq_false hg5)).qu, zX rfl rfl rfl rfl rfl rfl (zb rfl).qu, sa_s rfl rfl rfl rfl rfl rfl (by decide), sa_s rfl rfl rfl rfl rfl rfl (by decide), sa_s rfl rfl rfl rfl rfl rfl (by decide), sa_s rfl rfl rfl rfl rfl rfl (by decide), sa_s rfl rfl rfl rfl rfl rfl (by decide), sa_s rfl rfl rfl rfl rfl rfl (by decide), trivial⟩ ?_
          refine OpsD.keep [0, 3, 4, 8, 9, 10, 11, 12, 13, 14, 15, 16, 17, 18, 19, 20, 21, 22, 23, 24, 25, 26, 27] [(0, .sh 2 (l.map RowD.d)), (3, dN k), (4, dP g3 0), (8, .sh 2 (l.map RowD.d)), (9, dN l.length), (10, dN k), (11, dB (decide (((k : Nat) : Int) < ((l.length : Nat) : Int)))), (12, dN k), (13, .el (RowD.d x1) 0), (14, RowD.d x1), (15, RowD.d x1), (16, dB true), (17, dB false), (18, dB false), (19, dN k), (20, dB false), (21, dB false), (22, .v undef), (23, .v undef), (24, .v undef), (25, .v undef), (26, .v undef), (27, .v undef)] rfl (zj rfl rfl rfl rfl rfl (by decide) (zj rfl rfl rfl rfl rfl (by decide) (zi rfl rfl rfl rfl rfl (zm rfl rfl) (za rfl rfl (zm rfl rfl) (zg rfl (zf (zaC _ rfl rfl rfl (zz rfl (zD (zf (zc rfl (za rfl rfl (z8 (c := ((k + 1 : Nat) : Int)) rfl rfl (zT (by omega) (by omega))) (za rfl rfl (zb rfl) (zg rfl ?_))))))))))))))
          exact zS (k + 1) ⟨sk rfl, sk rfl, sk rfl, sk rfl, trivial⟩ HSub.none (vr_step0 hk hx1 hg4 (prevR_zero hg5)) (by omega)
      · skip
        refine JD.keep [0, 3, 4, 8, 9, 10, 11, 12, 13, 14] [(0, .sh 2 (l.map RowD.d)), (3, dN k), (4, dP g3 0), (8, .sh 2 (l.map RowD.d)), (9, dN l.length), (10, dN k), (11, dB (decide (((k : Nat) : Int) < ((l.length : Nat) : Int)))), (12, dN k), (13, .el (RowD.d x1) 0), (14, RowD.d x1)] rfl (JD.norm [.bx g3 30 (RowD.d x1)] rfl ?_)
        refine zai 13 [(15, RowD.d x1, none), (16, dB false, none), (17, dB true, none), (18, dB true, none), (19, .v undef, none), (20, .v undef, none), (21, .v undef, none), (22, .v undef, none), (23, .v undef, none), (24, .v undef, none), (25, .v undef, none), (26, .v undef, none), (27, .v undef, none)] [.bx g3 30 (RowD.d x1)] (Hn := [.bx g3 30 (RowD.d x1)]) zaz rfl rfl rfl rfl HSub.rfl' rfl ⟨sa_p rfl rfl rfl (za2 (d := RowD.d x1) rfl (i := 0) rfl Try.isAgg30 Try.sizeOf30 rfl rfl), sa_q rfl rfl rfl ((zb0 rfl (.cons Cv.rfl' .nil) Try.call31 (single_c x1) zbx).cv (Cv.eq (congrArg (fun b => D.v (.bool b)) hg4))), sa_p rfl rfl rfl (zag (q := false) rfl), sa_p rfl rfl rfl (zb rfl), sa_s rfl rfl rfl rfl rfl rfl (by decide), sa_s rfl rfl rfl rfl rfl rfl (by decide), sa_s rfl rfl rfl rfl rfl rfl (by decide), sa_s rfl rfl rfl rfl rfl rfl (by decide), sa_s rfl rfl rfl rfl rfl rfl (by decide), sa_s rfl rfl rfl rfl rfl rfl (by decide), sa_s rfl rfl rfl rfl rfl rfl (by decide), sa_s rfl rfl rfl rfl rfl rfl (by decide), sa_s rfl rfl rfl rfl rfl rfl (by decide), trivial⟩ ?_
        refine OpsD.keep [0, 3, 4, 8, 9, 10, 11, 12, 13, 14, 15, 16, 17, 18, 19, 20, 21, 22, 23, 24, 25, 26, 27] [(0, .sh 2 (l.map RowD.d)), (3, dN k), (4, dP g3 0), (8, .sh 2 (l.map RowD.d)), (9, dN l.length), (10, dN k), (11, dB (decide (((k : Nat) : Int) < ((l.length : Nat) : Int)))), (12, dN k), (13, .el (RowD.d x1) 0), (14, RowD.d x1), (15, RowD.d x1), (16, dB false), (17, dB true), (18, dB true), (19, .v undef), (20, .v undef), (21, .v undef), (22, .v undef), (23, .v undef), (24, .v undef), (25, .v undef), (26, .v undef), (27, .v undef)] rfl (zj rfl rfl rfl rfl rfl (by decide) (zj rfl rfl rfl rfl rfl (by decide) (zj rfl rfl rfl rfl rfl (by decide) (za rfl rfl (zr rfl rfl) (zg rfl (zf (zau _ rfl rfl rfl (zh _ _ rfl rfl rfl (zc rfl (za rfl rfl (ze rfl) (zg rfl (zf (zB rfl (zn (zp (zZ (zn (zp ?_))))))))))))))))))
        exact zx Try.results15 (.cons (zM (zs rfl) (Cv.eq (congrArg (fun b => D.v (.bool b)) (by exact vr_bad1 hk hx1 hg4)))) .nil) rfl HSub.none ⟨rfl, rfl⟩
    · replace hc2 := of_decide_eq_false hc2
      refine z3 rfl (zK (zI (zE (zf (zh _ _ rfl rfl rfl (zc rfl (za rfl rfl (ze rfl) (zg rfl (zf (zB rfl ?_))))))))))
      exact zx Try.results15 (.cons (zM (zs rfl) (Cv.eq (congrArg (fun b => D.v (.bool b)) (by exact vr_good hk (by omega) (by omega))))) .nil) rfl HSub.none ⟨rfl, rfl⟩

set_option maxHeartbeats 4000000 in
set_option maxRecDepth 100000 in
theorem vTidy_c (l : List RowD)  :
    CD Try.prog 30 [] [.sh 2 (l.map RowD.d)] (fun r H' => ∃ v0_, r = .tup [.ov v0_, dI (rtE l)] ∧ H' = [.sl v0_ 2 30 ((rtL l).map RowD.d)]) := by
  refine zL Try.func30 rfl (N := 46) rfl rfl (fun C => ?_)
  refine JD.keep [0] [(0, .sh 2 (l.map RowD.d))] rfl ?_
  refine JD.bd 0 rfl (fun bd0 => ?_)
  have nl0 := zae bd0
  refine zh _ _ rfl rfl rfl (zc rfl (za rfl rfl (ze rfl) (za rfl rfl (ze rfl) (zg rfl (zf (zh _ _ rfl rfl rfl (zh _ _ rfl rfl rfl (zc rfl (za rfl rfl (zb rfl) (za rfl rfl (zar (n := l.length) rfl Try.runUnderlying22 (by simp only [lm, lc, ln])) (za rfl rfl (zaM rfl rfl rfl) (zg rfl (zf ?_)))))))))))))
  refine zu _ _ rfl rfl rfl rfl (fun hc1 => ?_) (fun hc1 => ?_)
  · replace hc1 := of_decide_eq_true hc1
    refine zh _ _ rfl rfl rfl (zc rfl (za rfl rfl (ze rfl) (za rfl rfl (ze rfl) (zg rfl (zf (zB rfl (zp (PD.subH (HSub.nil 2 30) (PD.norm [.sl (.slice none 0 0) 2 30 ((rtL l).map RowD.d)] (by have hw : [] = rtL l := (by first | exact (zcN hc1).1 | exact (zcN hc1).2); rw [show ([] : List D) = List.map RowD.d (rtL l) from congrArg (List.map RowD.d) hw]) ?_)))))))))
    exact zx Try.results30 (.cons (zM (zs rfl) (Cv.ov rfl)) (.cons (zM (zs rfl) (Cv.eq (congrArg (fun n => D.v (.int .i64 n)) (by first | exact (zcN hc1).1 | exact (zcN hc1).2)))) .nil)) rfl (HSub.fst 1 rfl) ⟨(.slice none 0 0), rfl, rfl⟩
  · replace hc1 := of_decide_eq_false hc1
    refine zz rfl (zf (zh _ _ rfl rfl rfl (zc rfl (za rfl rfl (ze rfl) (zg rfl (zf (zh _ _ rfl rfl rfl (zh _ _ rfl rfl rfl (zc rfl (za rfl rfl (zb rfl) (za rfl rfl (zar (n := l.length) rfl Try.runUnderlying22 (by simp only [lm, lc, ln])) (za rfl rfl (zb rfl) (zg rfl (zf (zy _ rfl rfl (z7 (fun (g : Nat × Value × List RowD) => [(11, .sh 2 (l.map RowD.d)), (12, dN l.length), (13, dN g.1), (4, .ov g.2.1)]) (fun (g : Nat × Value × List RowD) => [.sl g.2.1 2 30 (g.2.2.map RowD.d)]) (fun (g : Nat × Value × List RowD) => (g.1 ≤ l.length) ∧ (g.2.2 = l.take g.1) ∧ (zbu (l.take g.1) = true)) (fun (g : Nat × Value × List RowD) => l.length - g.1) _ (0, .slice none 0 0, []) rfl rfl ⟨sk rfl, sk rfl, sk rfl, sc rfl (Cv.ov rfl), trivial⟩ (HSub.nil 2 30) ⟨Nat.zero_le _, rfl, rfl⟩ ?_))))))))))))))))
    rintro ⟨k, ov, o⟩ ⟨hkl, ho, hw⟩
    replace hkl : k ≤ l.length := hkl
    replace ho : o = l.take k := ho
    replace hw : zbu (l.take k) = true := hw
    refine JD.keep [11, 12, 13, 4] [(11, .sh 2 (l.map RowD.d)), (12, dN l.length), (13, dN k), (4, .ov ov)] rfl (JD.norm [.sl ov 2 30 (o.map RowD.d)] rfl ?_)
    have hol : o.length ≤ 2000 := by rw [ho, List.length_take]; omega
    refine zh _ _ rfl rfl rfl (zc rfl (za rfl rfl (zaa rfl rfl rfl) (zg rfl (zf (zh _ _ rfl rfl rfl ?_)))))
    refine zu _ _ rfl rfl rfl rfl (fun hc2 => ?_) (fun hc2 => ?_)
    · replace hc2 := of_decide_eq_true hc2
      refine zz rfl (zf (zh _ _ rfl rfl rfl (zy _ rfl rfl (zh _ _ rfl rfl rfl (zc rfl ?_)))))
      obtain ⟨x1, hx1⟩ := zV l k (by omega)
      refine za rfl rfl (zJ (k := k) rfl rfl Try.runUnderlying22 Try.sizeOf30 (by first | rfl | omega) (zw hx1)) (za rfl rfl (zaL (d := RowD.d x1) rfl Try.isAgg30 Try.sizeOf30 rfl rfl) (zl rfl rfl (zaN (zv := (.agg #[(.slice none 0 0), (.int .i64 0)])) Try.zeroValue30 ⟨rfl, rfl, trivial⟩ (Cv.vagg (by decide))) ?_))
      rintro _ _ ⟨g3, rfl, rfl⟩
      refine zl rfl rfl (zab (i := 0) (X' := RowD.d x1) rfl rfl rfl (CellD.agg) Try.sizeOf30 rfl rfl rfl) ?_
      rintro _ _ ⟨rfl, rfl⟩
      refine OpsD.norm [.bx g3 30 (RowD.d x1), .sl ov 2 30 (o.map RowD.d)] rfl (zg rfl (zf (zh _ _ rfl rfl rfl (zh _ _ rfl rfl rfl (zc rfl (za rfl rfl (za2 (d := RowD.d x1) rfl (i := 0) rfl Try.isAgg30 Try.sizeOf30 rfl rfl) (zl rfl rfl (zt [] _ [] rfl rfl (.cons ArgC.id .nil) zo Try.call31 (single_c x1) (.inl rfl)) ?_)))))))
      rintro _ _ ⟨_, ⟨rfl, rfl⟩, rfl⟩
      refine OpsD.norm [.bx g3 30 (RowD.d x1), .sl ov 2 30 (o.map RowD.d)] rfl (za rfl rfl (zag rfl) (zg rfl (zf ?_)))
      refine zu _ _ rfl rfl rfl rfl (fun hc4 => ?_) (fun hc4 => ?_)
      · simp only [Bool.and_eq_true, Bool.or_eq_true, Bool.not_eq_true', Bool.not_eq_false', Bool.and_eq_false_iff, Bool.or_eq_false_iff, decide_eq_true_eq, decide_eq_false_iff_not, Decidable.not_not, ne_eq] at hc4
        refine zh _ _ rfl rfl rfl (zc rfl (za rfl rfl (ze rfl) (za rfl rfl (ze rfl) (zg rfl (zf (zB rfl (zp (zn (zp (zZ (zn (zp (PD.subH (HSub.nil 2 30) (PD.norm [.sl (.slice none 0 0) 2 30 ((rtL l).map RowD.d), .bx g3 30 (RowD.d x1), .sl ov 2 30 (o.map RowD.d)] (by have hw : [] = rtL l := (by first | exact (rt_bad' hx1 hc4).1 | exact (rt_bad' hx1 hc4).2); rw [show ([] : List D) = List.map RowD.d (rtL l) from congrArg (List.map RowD.d) hw]) ?_))))))))))))))
        exact zx Try.results30 (.cons (zM (zs rfl) (Cv.ov rfl)) (.cons (zM (zs rfl) (Cv.eq (congrArg (fun n => D.v (.int .i64 n)) (by first | exact (rt_bad' hx1 hc4).1 | exact (rt_bad' hx1 hc4).2)))) .nil)) rfl (HSub.fst 1 rfl) ⟨(.slice none 0 0), rfl, rfl⟩
      · simp only [Bool.and_eq_true, Bool.or_eq_true, Bool.not_eq_true', Bool.not_eq_false', Bool.and_eq_false_iff, Bool.or_eq_false_iff, decide_eq_true_eq, decide_eq_false_iff_not, Decidable.not_not, ne_eq] at hc4
        refine zz rfl (zf (zc rfl (za rfl rfl (zb rfl) (za rfl rfl (za2 (d := RowD.d x1) rfl (i := 0) rfl Try.isAgg30 Try.sizeOf30 rfl rfl) (zl rfl rfl (zt [] _ [] rfl rfl (.cons ArgC.id .nil) zo Try.call45 (vown_c x1 (by have h := okRow_len hc4; omega)) (.inl rfl)) ?_)))))
        rintro _ _ ⟨_, ⟨rfl, rfl⟩, rfl⟩
        refine OpsD.norm [.bx g3 30 (RowD.d x1), .sl ov 2 30 (o.map RowD.d)] rfl (zl rfl rfl (z5 [.tmp 22] rfl rfl (.cons CellD.agg .nil) rfl Try.runUnderlying22 Try.sizeOf30 Try.zeroValue30 rfl rfl rfl rfl) ?_)
        rintro _ _ ⟨g5, rfl, rfl⟩
        refine zl rfl rfl (z4 (f := RowD.d) (l := o) (l' := [x1]) (i := 2) rfl rfl rfl (SrcD.own (j := 0) rfl rfl) zbm za4 rfl rfl (by unfold maxLen; (try simp only [la, lc, ln, lm, lt', ld, ls, lr]); omega) (by (try simp only [la, lc, ln, lm, lt', ld, ls, lr]); omega)) ?_
        rintro _ _ ⟨v6, rfl, rfl⟩
        refine OpsD.norm [.sl (vS g5 1 1) 2 30 ([RowD.d x1]), .bx g3 30 (RowD.d x1), .sl v6 2 30 ((o ++ [x1]).map RowD.d)] rfl (za rfl rfl (ze rfl) (zg rfl (zD (zf (zc rfl (za rfl rfl (z8 (c := ((k + 1 : Nat) : Int)) rfl rfl (zT (by omega) (by omega))) (za rfl rfl (zb rfl) (zg rfl (PD.subH (HSub.perm (zO (i := 2) rfl)) (PD.norm [.sl v6 2 30 ((o ++ [x1]).map RowD.d), .sl (vS g5 1 1) 2 30 ([RowD.d x1]), .bx g3 30 (RowD.d x1)] rfl (PD.subH (HSub.fst 1 rfl) (PD.norm [.sl v6 2 30 ((o ++ [x1]).map RowD.d)] rfl ?_))))))))))))
        exact zS (k + 1, v6, (o ++ [x1])) ⟨sk rfl, sk rfl, sk rfl, sk rfl, trivial⟩ HSub.rfl' ⟨by show k + 1 ≤ l.length; omega, by rw [ho, zak hx1], rowsB_snoc' hx1 hw hc4⟩ (by omega)
    · replace hc2 := of_decide_eq_false hc2
      have hrow := td_rows hw (by omega)
      obtain rfl : l = o := by rw [ho, List.take_of_length_le (by omega)]
      have hil := zcz (c := zH 0) _ l rfl
      refine z3 rfl (zK (zI (zE (zf (zh _ _ rfl rfl rfl (zc rfl (za rfl rfl (zb rfl) (zl rfl rfl (zt [.sl ov 2 30 (l.map RowD.d)] [] [] rfl rfl (.cons ArgC.id (.cons ArgC.id .nil)) zo Try.call46 (sortstR_c ov l 0 (by omega)) (.inl rfl)) ?_))))))))
      rintro _ _ ⟨_, ⟨rfl, rfl⟩, rfl⟩
      refine OpsD.norm [.sl ov 2 30 ((zN (zH 0) l).map RowD.d)] rfl (zg rfl (zf (zh _ _ rfl rfl rfl (zh _ _ rfl rfl rfl (zc rfl (za rfl rfl (ze rfl) (zg rfl (zf (zy _ rfl rfl (z7 (fun (g : Nat) => [(4, .ov ov), (7, dN g)]) (fun (g : Nat) => [.sl ov 2 30 ((zN (zH 0) l).map RowD.d)]) (fun (g : Nat) => (1 ≤ g) ∧ (zde (zN (zH 0) l) g)) (fun (g : Nat) => l.length - g) _ 1 rfl rfl ⟨sk rfl, sk rfl, trivial⟩ HSub.rfl' ⟨Nat.le_refl _, zde.one _⟩ ?_))))))))))
      rintro i ⟨hi, hn⟩
      refine JD.keep [4, 7] [(4, .ov ov), (7, dN i)] rfl (JD.norm [.sl ov 2 30 ((zN (zH 0) l).map RowD.d)] rfl (zh _ _ rfl rfl rfl (zh _ _ rfl rfl rfl (zc rfl (za rfl rfl (zb rfl) (za rfl rfl (zb rfl) (za rfl rfl (z6 (n := (zN (zH 0) l).length) (j := 0) rfl rfl Try.runUnderlying22 (List.length_map _)) (za rfl rfl (zaa rfl rfl rfl) (zg rfl (zf ?_))))))))))
      refine zu _ _ rfl rfl rfl rfl (fun hc7 => ?_) (fun hc7 => ?_)
      · replace hc7 := of_decide_eq_true hc7
        refine zz rfl (zf (zh _ _ rfl rfl rfl (zy _ rfl rfl (zh _ _ rfl rfl rfl (JD.keep [4, 7, 28, 29, 30, 31] [(4, .ov ov), (7, dN i), (28, dN i), (29, .ov ov), (30, dN ((zN (zH 0) l).length)), (31, dB (decide (((i : Nat) : Int) < (((zN (zH 0) l).length : Nat) : Int))))] rfl (JD.norm [.sl ov 2 30 ((zN (zH 0) l).map RowD.d)] rfl ?_))))))
        obtain ⟨x2, hx2⟩ := zV (zN (zH 0) l) (i - 1) (by omega)
        obtain ⟨x3, hx3⟩ := zV (zN (zH 0) l) i (by omega)
        refine zai 9 [(34, .ov ov, none), (35, dN i, none), (36, dN (i - 1), none), (37, .v (.pointer (some ⟨bl ov, (i - 1) * 2 + 0, none⟩)), none), (38, RowD.d x2, none), (39, .ov ov, none), (40, dN i, none), (41, .v (.pointer (some ⟨bl ov, i * 2 + 0, none⟩)), none), (42, RowD.d x3, none)] [.sl ov 2 30 ((zN (zH 0) l).map RowD.d)] (Hn := [.sl ov 2 30 ((zN (zH 0) l).map RowD.d)]) zaz rfl rfl rfl rfl HSub.rfl' rfl ⟨sa_p rfl rfl rfl (zb rfl), sa_p rfl rfl rfl (zb rfl), sa_p rfl rfl rfl (zaR (c := ((i - 1 : Nat) : Int)) rfl rfl (zT (by omega) (by omega))), sa_p rfl rfl rfl (zC (k := i - 1) (j := 0) rfl rfl rfl Try.runUnderlying22 Try.sizeOf30 (by first | rfl | omega) (zw hx2)), sa_p rfl rfl rfl (zam (d := RowD.d x2) rfl (i := 0) rfl (zw hx2) Try.isAgg30 Try.sizeOf30 rfl rfl), sa_p rfl rfl rfl (zb rfl), sa_p rfl rfl rfl (zb rfl), sa_p rfl rfl rfl (zC (k := i) (j := 0) rfl rfl rfl Try.runUnderlying22 Try.sizeOf30 (by first | rfl | omega) (zw hx3)), sa_p rfl rfl rfl (zam (d := RowD.d x3) rfl (i := 0) rfl (zw hx3) Try.isAgg30 Try.sizeOf30 rfl rfl), trivial⟩ ?_
        refine OpsD.keep [4, 7, 28, 29, 30, 31, 34, 35, 36, 37, 38, 39, 40, 41, 42] [(4, .ov ov), (7, dN i), (28, dN i), (29, .ov ov), (30, dN ((zN (zH 0) l).length)), (31, dB (decide (((i : Nat) : Int) < (((zN (zH 0) l).length : Nat) : Int)))), (34, .ov ov), (35, dN i), (36, dN (i - 1)), (37, .v (.pointer (some ⟨bl ov, (i - 1) * 2 + 0, none⟩))), (38, RowD.d x2), (39, .ov ov), (40, dN i), (41, .v (.pointer (some ⟨bl ov, i * 2 + 0, none⟩))), (42, RowD.d x3)] rfl (zl rfl rfl (zt [] _ [] rfl rfl (.cons ArgC.id (.cons ArgC.id .nil)) zo Try.call32 (vorder_c x2 x3) (.inl rfl)) ?_)
        rintro _ _ ⟨_, ⟨rfl, rfl⟩, rfl⟩
        refine OpsD.norm [.sl ov 2 30 ((zN (zH 0) l).map RowD.d)] rfl (za rfl rfl (zY rfl rfl rfl) (zg rfl (zf ?_)))
        refine zu _ _ rfl rfl rfl rfl (fun hc8 => ?_) (fun hc8 => ?_)
        · replace hc8 := of_decide_eq_true hc8
          refine zh _ _ rfl rfl rfl (zc rfl (za rfl rfl (ze rfl) (za rfl rfl (ze rfl) (zg rfl (zf (zB rfl (zn (zp (zZ (zn (zp (PD.subH (HSub.nil 2 30) (PD.norm [.sl (.slice none 0 0) 2 30 ((rtL l).map RowD.d), .sl ov 2 30 ((zN (zH 0) l).map RowD.d)] (by have hw : [] = rtL l := (by first | exact (td_twin (by omega) hrow hi hx2 hx3 hc8).1 | exact (td_twin (by omega) hrow hi hx2 hx3 hc8).2); rw [show ([] : List D) = List.map RowD.d (rtL l) from congrArg (List.map RowD.d) hw]) ?_)))))))))))))
          exact zx Try.results30 (.cons (zM (zs rfl) (Cv.ov rfl)) (.cons (zM (zs rfl) (Cv.eq (congrArg (fun n => D.v (.int .i64 n)) (by first | exact (td_twin (by omega) hrow hi hx2 hx3 hc8).1 | exact (td_twin (by omega) hrow hi hx2 hx3 hc8).2)))) .nil)) rfl (HSub.fst 1 rfl) ⟨(.slice none 0 0), rfl, rfl⟩
        · replace hc8 := of_decide_eq_false hc8
          refine zz rfl (zD (zf (zc rfl (za rfl rfl (zb rfl) (za rfl rfl (z8 (c := ((i + 1 : Nat) : Int)) rfl rfl (zT (by omega) (by omega))) (za rfl rfl (ze rfl) (zg rfl ?_)))))))
          exact zS (i + 1) ⟨sk rfl, sk rfl, trivial⟩ HSub.rfl' ⟨by show 1 ≤ i + 1; omega, hn.next hi hx2 hx3 hc8⟩ (by omega)
      · replace hc7 := of_decide_eq_false hc7
        refine z3 rfl (zK (zI (zE (zf (zh _ _ rfl rfl rfl (zc rfl (za rfl rfl (zb rfl) (za rfl rfl (ze rfl) (za rfl rfl (ze rfl) (zg rfl (zf (zB rfl (PD.norm [.sl ov 2 30 ((rtL l).map RowD.d)] (by have hw : (zN (zH 0) l) = rtL l := (by first | exact (td_good (by omega) hrow hn (by omega)).1 | exact (td_good (by omega) hrow hn (by omega)).2); rw [hw]) ?_)))))))))))))
        exact zx Try.results30 (.cons (zs rfl) (.cons (zM (zs rfl) (Cv.eq (congrArg (fun n => D.v (.int .i64 n)) (by first | exact (td_good (by omega) hrow hn (by omega)).1 | exact (td_good (by omega) hrow hn (by omega)).2)))) .nil)) rfl (HSub.fst 1 rfl) ⟨ov, rfl, rfl⟩
end Lp
