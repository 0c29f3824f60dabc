/-
  Vectors (chapter 10): rows under labels, and what is reckoned with them, as plain data.
-/
import Derived.Test.YtfjinapgehafiaaGreatPRef
set_option linter.unusedVariables false
namespace Lp
open Go
theorem tidyOk_E (l : List Lbl) : decide (zaY l = 0) = zaa l := by
  unfold zaY; cases zaa l <;> rfl
theorem rightB_eq (l : List Lbl) : (decide (zaY l = 0) && decide (z1 (zP l) l = 0)) = zba l := by
  unfold zba; rw [tidyOk_E]
def za1 (r : RowD) : Bool := zba r.ls && zU r.v
theorem zdr (l : List RowD) : zbD l = l.all za1 := rfl
theorem zci {r : RowD} (h : za1 r = true) : r.ls.length ≤ 8 := by
  unfold za1 zba at h
  simp only [Bool.and_eq_true] at h
  exact tidy_ok_len h.1.1
def zdP (l : List RowD) : Nat → Option RowD
  | 0 => none
  | k + 1 => l[k]?
def ltP (p : Option RowD) (x : RowD) : Bool := match p with
  | none => true
  | some q => decide (cL q x < 0)
def ascB : Option RowD → List RowD → Bool
  | _, [] => true
  | p, r :: l => za1 r && (ltP p r && ascB (some r) l)
def zbN (l : List RowD) (k : Nat) : Bool := ascB (zdP l k) (l.drop k)
def zT (l : List RowD) : Bool := decide (l.length ≤ 2000) && zbN l 0
theorem ascAt_next {l : List RowD} {k : Nat} {x : RowD} (h : l[k]? = some x) : zbN l k = (za1 x && (ltP (zdP l k) x && zbN l (k + 1))) := by
  unfold zbN
  rw [drop_at h]
  show (za1 x && (ltP (zdP l k) x && ascB (some x) (l.drop (k + 1)))) = _
  rw [show zdP l (k + 1) = some x from h]
theorem ascAt_end {l : List RowD} {k : Nat} (h : l.length ≤ k) : zbN l k = true := by
  unfold zbN; rw [List.drop_eq_nil_iff.2 h]; rfl
theorem prevR_pos {l : List RowD} {k : Nat} {y : RowD} (h : (0 : Int) < ((k : Nat) : Int)) (hy : l[k - 1]? = some y) : zdP l k = some y := by
  cases k with
  | zero => simp at h
  | succ k => simpa [zdP] using hy
theorem prevR_zero {l : List RowD} {k : Nat} (h : ¬ (0 : Int) < ((k : Nat) : Int)) : zdP l k = none := by
  have : k = 0 := by omega
  subst this; rfl
section
variable {l : List RowD} {k : Nat} {x : RowD}
theorem vr_long (h : (2000 : Int) < ((l.length : Nat) : Int)) : false = zT l := by
  have : ¬ l.length ≤ 2000 := by omega
  simp [zT, this]
theorem vr_bad1 (hk : zbN l 0 = zbN l k) (hx : l[k]? = some x) (h : za1 x = false) : false = zT l := by simp [zT, hk, ascAt_next hx, h]
theorem vr_bad2 (hk : zbN l 0 = zbN l k) (hx : l[k]? = some x) {y : RowD} (h : zdP l k = some y) (hn : 0 ≤ z1 y.ls x.ls) : false = zT l := by
  have : ¬ cL y x < 0 := by unfold cL; omega
  simp [zT, hk, ascAt_next hx, h, ltP, this]
theorem vr_good (hk : zbN l 0 = zbN l k) (hx : l.length ≤ k) (h : ¬ (2000 : Int) < ((l.length : Nat) : Int)) : true = zT l := by
  have : l.length ≤ 2000 := by omega
  simp [zT, hk, ascAt_end hx, this]
theorem vr_step0 (hk : zbN l 0 = zbN l k) (hx : l[k]? = some x) (h : za1 x = true) (hp : zdP l k = none) : zbN l 0 = zbN l (k + 1) := by rw [hk, ascAt_next hx, h, hp]; rfl
theorem vr_step (hk : zbN l 0 = zbN l k) (hx : l[k]? = some x) (h : za1 x = true) {y : RowD} (hp : zdP l k = some y) (hn : ¬ 0 ≤ z1 y.ls x.ls) : zbN l 0 = zbN l (k + 1) := by
  have : cL y x < 0 := by unfold cL; omega
  rw [hk, ascAt_next hx, h, hp]; simp [ltP, this]
end
theorem ascB_iff : ∀ (l : List RowD) (p : Option RowD), ascB p l = true ↔ (∀ r ∈ l, za1 r = true) ∧ zaI cL l ∧ (∀ q, p = some q → ∀ r ∈ l, cL q r < 0)
  | [], p => by
    constructor
    · intro _; exact ⟨fun _ h => (by cases h), List.Pairwise.nil, fun _ _ _ h => (by cases h)⟩
    · intro _; rfl
  | r :: l, p => by
    show (za1 r && (ltP p r && ascB (some r) l)) = true ↔ _
    rw [Bool.and_eq_true, Bool.and_eq_true, ascB_iff l (some r)]
    constructor
    · rintro ⟨h1, h2, h3, h4, h5⟩
      refine ⟨fun y hy => ?_, List.pairwise_cons.2 ⟨fun y hy => h5 r rfl y hy, h4⟩, fun q hq y hy => ?_⟩
      · rcases List.mem_cons.1 hy with e | e
        · rw [e]; exact h1
        · exact h3 y e
      · subst hq
        have hqr : cL q r < 0 := of_decide_eq_true h2
        rcases List.mem_cons.1 hy with e | e
        · rw [e]; exact hqr
        · exact (zdE.tr q r y).lt1 hqr (by have := h5 r rfl y e; omega)
    · rintro ⟨h1, h2, h3⟩
      have h2' := List.pairwise_cons.1 h2
      refine ⟨h1 r List.mem_cons_self, ?_, fun y hy => h1 y (List.mem_cons_of_mem _ hy), h2'.2, fun q hq y hy => by injection hq with hq; subst hq; exact h2'.1 y hy⟩
      cases p with
      | none => rfl
      | some q => exact decide_eq_true (h3 q rfl r List.mem_cons_self)
theorem zaH {l : List RowD} : zT l = true ↔ l.length ≤ 2000 ∧ zbD l = true ∧ zaI cL l := by
  unfold zT
  rw [Bool.and_eq_true, decide_eq_true_eq, zdr, List.all_eq_true]
  show _ ∧ ascB none l = true ↔ _
  rw [ascB_iff]
  constructor
  · rintro ⟨h1, h2, h3, _⟩; exact ⟨h1, h2, h3⟩
  · rintro ⟨h1, h2, h3⟩; exact ⟨h1, h2, h3, fun _ h => (by cases h)⟩

/-! ### tidy -/
theorem cmpRow0 : zO 0 = cL := by funext a b; rfl
/-- how far the look for twins has come -/
def zdk (s : List RowD) (i : Nat) : Prop := ∀ j x y, j + 1 < i → s[j]? = some x → s[j + 1]? = some y → cL x y ≠ 0
theorem zdk.one (s : List RowD) : zdk s 1 := fun j x y h => by omega
theorem zdk.next {s : List RowD} {i : Nat} {x y : RowD} (h : zdk s i) (hi : 1 ≤ i) (hx : s[i - 1]? = some x) (hy : s[i]? = some y) (hn : ¬ z1 x.ls y.ls = 0) : zdk s (i + 1) := fun j a b hj ha hb => by
  rcases Nat.lt_or_ge (j + 1) i with e | e
  · exact h j a b e ha hb
  · have : j + 1 = i := by omega
    subst this
    simp only [Nat.add_sub_cancel] at hx
    rw [ha] at hx; rw [hb] at hy; injection hx with hx; injection hy with hy; subst hx; subst hy; exact hn
theorem strict_of {s : List RowD} (h : Srt cL s) (hn : zdk s s.length) : zaI cL s := by
  induction s with
  | nil => exact List.Pairwise.nil
  | cons x r ih =>
    have h' := List.pairwise_cons.1 h
    have hr : zaI cL r := ih h'.2 (fun j a b hj ha hb => hn (j + 1) a b (by simp; omega) (by simpa using ha) (by simpa using hb))
    refine List.pairwise_cons.2 ⟨fun y hy => ?_, hr⟩
    cases r with
    | nil => cases hy
    | cons z r =>
      have e1 : cL x z ≤ 0 := h'.1 z List.mem_cons_self
      have e2 : cL x z ≠ 0 := hn 0 x z (by simp) rfl rfl
      rcases List.mem_cons.1 hy with e | e
      · rw [e]; omega
      · exact (zdE.tr x z y).lt1 (by omega) (by have := (List.pairwise_cons.1 hr).1 y e; omega)
section
variable {l : List RowD} {i : Nat} {x y : RowD}
theorem td_rows {n : Nat} (h : zbD (l.take n) = true) (hn : l.length ≤ n) : zbD l = true := by rwa [List.take_of_length_le hn] at h
theorem td_twin (h1 : ¬ (2000 : Int) < ((l.length : Nat) : Int)) (h2 : zbD l = true) (hi : 1 ≤ i) (hx : (zR (zO 0) l)[i - 1]? = some x) (hy : (zR (zO 0) l)[i]? = some y) (e : z1 x.ls y.ls = 0) : [] = rtL l ∧ 6 = rtE l := by
  have hb : ordB l = false := by
    rcases ek : ordB l with _ | _
    · rfl
    · exfalso
      have hst : (zR cL l).Pairwise (fun a b => cL a b < 0) := by unfold ordB at ek; exact of_decide_eq_true ek
      rw [← cmpRow0] at hst
      obtain ⟨p1, q1⟩ := List.getElem?_eq_some_iff.1 hx
      obtain ⟨p2, q2⟩ := List.getElem?_eq_some_iff.1 hy
      have := List.pairwise_iff_getElem.1 hst (i - 1) i p1 p2 (by omega)
      rw [q1, q2] at this
      have e' : zO 0 x y = z1 x.ls y.ls := rfl
      omega
  obtain ⟨a, b⟩ := zd6 h1 h2
  obtain ⟨c, d⟩ := ord_no hb
  exact ⟨c.trans a, d.trans b⟩
theorem td_good (h1 : ¬ (2000 : Int) < ((l.length : Nat) : Int)) (h2 : zbD l = true) (hn : zdk (zR (zO 0) l) i) (hi : (zR (zO 0) l).length ≤ i) : zR (zO 0) l = rtL l ∧ 0 = rtE l := by
  have hst : zaI cL (zR cL l) := by
    rw [cmpRow0] at hn hi
    exact strict_of (zaB zdE _ l rfl).srt (fun j a b hj ha hb => hn j a b (by omega) ha hb)
  have hb : ordB l = true := by unfold ordB; exact decide_eq_true hst
  obtain ⟨a, b⟩ := zd6 h1 h2
  rw [← a, ← b]
  unfold ordL ordE; rw [hb, cmpRow0]; exact ⟨rfl, rfl⟩
end
theorem rowsB_snoc' {l : List RowD} {k : Nat} {x : RowD} (hx : l[k]? = some x) (h : zbD (l.take k) = true) (hr : za1 x = true) : zbD (l.take (k + 1)) = true := by
  rw [zdr] at *; exact zbR hx h hr
theorem rt_bad' {l : List RowD} {i : Nat} {x : RowD} (hx : l[i]? = some x) (h : za1 x = false) : [] = rtL l ∧ 1 = rtE l := zdh hx h

/-! ### keys, ops -/
def metB : ByteArray := ⟨#[109, 101, 116, 114, 105, 99]⟩
def keyL (mode : Int) (ns : List ByteArray) (l : List Lbl) : List Lbl :=
  if mode = 1 then zaQ l ns true else if mode = 2 then zaQ (zaQ l ns false) [metB] false else zaQ l [metB] false
theorem keyL_len (mode : Int) (ns : List ByteArray) (l : List Lbl) : (keyL mode ns l).length ≤ l.length := by
  unfold keyL
  split
  · exact zbB _ _ _
  · split
    · exact Nat.le_trans (zbB _ _ _) (zbB _ _ _)
    · exact zbB _ _ _
theorem zc2 {l : List Lbl} {ns : List ByteArray} {w : Bool} {x : Lbl} (h : x ∈ zaQ l ns w) : x ∈ l := (List.mem_filter.1 h).1
theorem keyL_mem {mode : Int} {ns : List ByteArray} {l : List Lbl} {x : Lbl} (h : x ∈ keyL mode ns l) : x ∈ l := by
  unfold keyL at h
  split at h
  · exact zc2 h
  · split at h
    · exact zc2 (zc2 h)
    · exact zc2 h
/-- rows whose labels are few and short enough to be put in words -/
def LZ (l : List RowD) : Prop := ∀ r ∈ l, r.ls.length ≤ 1000 ∧ ∀ x ∈ r.ls, x.n.size ≤ 100000 ∧ x.v.size ≤ 100000
theorem LZ.key {l : List RowD} (h : LZ l) {r : RowD} (hr : r ∈ l) (mode : Int) (ns : List ByteArray) : (keyL mode ns r.ls).length ≤ 1000 ∧ ∀ x ∈ keyL mode ns r.ls, x.n.size ≤ 100000 ∧ x.v.size ≤ 100000 :=
  ⟨Nat.le_trans (keyL_len _ _ _) (h r hr).1, fun x hx => (h r hr).2 x (keyL_mem hx)⟩
theorem light_LZ {l : List RowD} (h : ∀ r ∈ l, zam r.ls = true) : LZ l := fun r hr =>
  ⟨by have := lightL_len (h r hr); omega, fun x hx => by have := light_sizes (h r hr) x hx; omega⟩
def opB (op : ByteArray) : Bool := decide ((doE op 1 1).2 = 0)
/-- the first error, if there is one -/
def zaD (f : RowD → Int × Int) : List RowD → Int
  | [] => 0
  | r :: l => if (f r).2 ≠ 0 then (f r).2 else zaD f l
section
variable {f : RowD → Int × Int} {l : List RowD} {k : Nat} {x : RowD}
theorem firstE_app (f : RowD → Int × Int) (a b : List RowD) (h : zaD f a = 0) : zaD f (a ++ b) = zaD f b := by
  induction a with
  | nil => rfl
  | cons y r ih =>
    unfold zaD at h
    split at h
    · contradiction
    · show (if _ then _ else zaD f (r ++ b)) = _
      rw [if_neg (by assumption)]; exact ih h
theorem zak (hx : l[k]? = some x) (h : zaD f (l.take k) = 0) (e : (f x).2 = 0) : zaD f (l.take (k + 1)) = 0 := by
  rw [z0 hx, firstE_app f _ _ h]; unfold zaD; rw [if_neg (by omega)]; rfl
theorem firstE_at (hx : l[k]? = some x) (h : zaD f (l.take k) = 0) (e : ¬ (f x).2 = 0) : zaD f l = (f x).2 := by
  have : l = l.take k ++ x :: l.drop (k + 1) := by rw [← zat hx, List.take_append_drop]
  rw [this, firstE_app f _ _ h]; unfold zaD; rw [if_pos e]
theorem firstE_0 : zaD f l = 0 ↔ ∀ r ∈ l, (f r).2 = 0 := by
  induction l with
  | nil => constructor; (intro _ r hr; cases hr); (intro _; rfl)
  | cons y r ih =>
    unfold zaD
    constructor
    · intro h
      split at h
      · contradiction
      · intro z hz
        rcases List.mem_cons.1 hz with e | e
        · rw [e]; omega
        · exact ih.1 h z e
    · intro h
      rw [if_neg (by have := h y List.mem_cons_self; omega)]
      exact ih.2 (fun z hz => h z (List.mem_cons_of_mem _ hz))
end
/-! ### each number and one more -/
def scF (op : ByteArray) (v : Int) (left : Bool) (r : RowD) : Int × Int := if left = true then doE op v r.v else doE op r.v v
def zbL (op : ByteArray) (v : Int) (left : Bool) (r : RowD) : Option RowD :=
  if cmpB op = true then (if (scF op v left r).1 = 1 then some r else none) else some ⟨keyL 0 [] r.ls, (scF op v left r).1⟩
def zcd (op : ByteArray) (v : Int) (left : Bool) (l : List RowD) : List RowD := l.filterMap (zbL op v left)
def zbi (op : ByteArray) (v : Int) (l : List RowD) : Bool := opB op && (zT l && zU v)
def zb (op : ByteArray) (l : List RowD) (v : Int) (left : Bool) : List RowD :=
  if zbi op v l = true then (if zaD (scF op v left) l = 0 then rtL (zcd op v left l) else []) else []
def zX (op : ByteArray) (l : List RowD) (v : Int) (left : Bool) : Int :=
  if zbi op v l = true then (if zaD (scF op v left) l = 0 then rtE (zcd op v left l) else zaD (scF op v left) l) else 1
section
variable {op : ByteArray} {v : Int} {left : Bool} {l : List RowD} {k : Nat} {x : RowD}
theorem zbY {y : RowD} (hx : l[k]? = some x) (h : zbL op v left x = some y) : zcd op v left (l.take (k + 1)) = zcd op v left (l.take k) ++ [y] := by
  rw [z0 hx]; unfold zcd; rw [List.filterMap_append]; simp [h]
theorem scOut_not (hx : l[k]? = some x) (h : zbL op v left x = none) : zcd op v left (l.take (k + 1)) = zcd op v left (l.take k) := by
  rw [z0 hx]; unfold zcd; rw [List.filterMap_append]; simp [h]
theorem scOut_len (op : ByteArray) (v : Int) (left : Bool) (l : List RowD) : (zcd op v left l).length ≤ l.length := List.length_filterMap_le _ _
theorem zcs (h : zbi op v l = false) : [] = zb op l v left ∧ 1 = zX op l v left := by unfold zb zX; rw [if_neg (by rw [h]; decide), if_neg (by rw [h]; decide)]; exact ⟨rfl, rfl⟩
theorem za7 (h : zbi op v l = true) (hx : l[k]? = some x) (h0 : zaD (scF op v left) (l.take k) = 0) (e : ¬ (scF op v left x).2 = 0) : [] = zb op l v left ∧ (scF op v left x).2 = zX op l v left := by
  unfold zb zX; rw [if_pos h, if_pos h, firstE_at hx h0 e, if_neg e, if_neg e]; exact ⟨rfl, rfl⟩
theorem zeq (h : zbi op v l = true) (h0 : zaD (scF op v left) (l.take k) = 0) (hk : l.length ≤ k) : rtL (zcd op v left (l.take k)) = zb op l v left ∧ rtE (zcd op v left (l.take k)) = zX op l v left := by
  rw [List.take_of_length_le hk] at *
  unfold zb zX; rw [if_pos h, if_pos h, if_pos h0, if_pos h0]; exact ⟨rfl, rfl⟩
end
/-! ### rows that have the same key -/
def keyT (mode : Int) (ns : List ByteArray) (r : RowD) : ByteArray := zcv (keyL mode ns r.ls)
def zaF (mode : Int) (ns : List ByteArray) (l : List RowD) : List ByteArray := l.map (keyT mode ns)
def ndT (mode : Int) (ns : List ByteArray) (l : List RowD) : Prop := (zaF mode ns l).Nodup
instance (mode : Int) (ns : List ByteArray) (l : List RowD) : Decidable (ndT mode ns l) := inferInstanceAs (Decidable (List.Nodup _))
theorem keyTs_snoc {mode : Int} {ns : List ByteArray} {l : List RowD} {k : Nat} {x : RowD} (hx : l[k]? = some x) : zaF mode ns (l.take (k + 1)) = zaF mode ns (l.take k) ++ [keyT mode ns x] := by
  rw [z0 hx]; unfold zaF; rw [List.map_append]; rfl
theorem ndT_bad {mode : Int} {ns : List ByteArray} {l : List RowD} {k : Nat} {x : RowD} (hx : l[k]? = some x) (h : keyT mode ns x ∈ zaF mode ns (l.take k)) : ¬ ndT mode ns l := by
  intro hn
  have : l = l.take (k + 1) ++ l.drop (k + 1) := (List.take_append_drop _ _).symm
  unfold ndT at hn
  rw [this] at hn
  unfold zaF at hn h
  rw [List.map_append, List.nodup_append] at hn
  have h1 := hn.1
  rw [z0 hx, List.map_append, List.nodup_append] at h1
  exact h1.2.2 _ h _ (by simp) rfl
theorem nd_snoc {t : ByteArray} {ks : List ByteArray} (h : ks.Nodup) (hn : t ∉ ks) : (ks ++ [t]).Nodup := by
  rw [List.nodup_append]
  exact ⟨h, by simp, fun a ha b hb e => hn (by simp at hb; rw [← hb, ← e]; exact ha)⟩
/-- the row of a key's text -/
def zbH (mode : Int) (ns : List ByteArray) (t : ByteArray) (b : List RowD) : Option RowD := b.find? (fun q => decide (keyT mode ns q = t))
theorem findT_none {mode : Int} {ns : List ByteArray} {t : ByteArray} {b : List RowD} (h : t ∉ zaF mode ns b) : zbH mode ns t b = none := by
  unfold zbH
  rw [List.find?_eq_none]
  intro q hq e
  exact h (List.mem_map.2 ⟨q, hq, of_decide_eq_true e⟩)
theorem findT_some {mode : Int} {ns : List ByteArray} {t : ByteArray} {b : List RowD} (h : t ∈ zaF mode ns b) : ∃ (j : Nat) (q : RowD), (zaF mode ns b)[j]? = some t ∧ b[j]? = some q ∧ zbH mode ns t b = some q ∧ keyT mode ns q = t := by
  induction b with
  | nil => cases h
  | cons y r ih =>
    by_cases e : keyT mode ns y = t
    · exact ⟨0, y, by simp [zaF, e], rfl, by unfold zbH; rw [List.find?_cons_of_pos (by simp [e])], e⟩
    · have : t ∈ zaF mode ns r := by
        rcases List.mem_cons.1 (show t ∈ keyT mode ns y :: zaF mode ns r from h) with h | h
        · exact absurd h.symm e
        · exact h
      obtain ⟨j, q, h1, h2, h3, h4⟩ := ih this
      refine ⟨j + 1, q, by simpa [zaF] using h1, by simpa using h2, ?_, h4⟩
      unfold zbH at *
      rw [List.find?_cons_of_neg (by simp [e])]; exact h3
def maF (op : ByteArray) (mode : Int) (ns : List ByteArray) (b : List RowD) (r : RowD) : Int × Int := match zbH mode ns (keyT mode ns r) b with
  | none => (0, 0)
  | some q => doE op r.v q.v
def zbr (op : ByteArray) (mode : Int) (ns : List ByteArray) (b : List RowD) (r : RowD) : Option RowD := match zbH mode ns (keyT mode ns r) b with
  | none => none
  | some q => if cmpB op = true then (if (doE op r.v q.v).1 = 1 then some r else none) else some ⟨keyL mode ns r.ls, (doE op r.v q.v).1⟩
def zbM (op : ByteArray) (mode : Int) (ns : List ByteArray) (b a : List RowD) : List RowD := a.filterMap (zbr op mode ns b)
def zbl (op : ByteArray) (a b : List RowD) : Bool := opB op && (zT a && zT b)
def zp (op : ByteArray) (a b : List RowD) (mode : Int) (ns : List ByteArray) : List RowD :=
  if zbl op a b = true then (if ndT mode ns a ∧ ndT mode ns b then (if zaD (maF op mode ns b) a = 0 then rtL (zbM op mode ns b a) else []) else []) else []
def zac (op : ByteArray) (a b : List RowD) (mode : Int) (ns : List ByteArray) : Int :=
  if zbl op a b = true then (if ndT mode ns a ∧ ndT mode ns b then (if zaD (maF op mode ns b) a = 0 then rtE (zbM op mode ns b a) else zaD (maF op mode ns b) a) else 6) else 1
section
variable {op : ByteArray} {mode : Int} {ns : List ByteArray} {a b : List RowD} {k : Nat} {x : RowD}
theorem maOut_add {y : RowD} (hx : a[k]? = some x) (h : zbr op mode ns b x = some y) : zbM op mode ns b (a.take (k + 1)) = zbM op mode ns b (a.take k) ++ [y] := by
  rw [z0 hx]; unfold zbM; rw [List.filterMap_append]; simp [h]
theorem maOut_not (hx : a[k]? = some x) (h : zbr op mode ns b x = none) : zbM op mode ns b (a.take (k + 1)) = zbM op mode ns b (a.take k) := by
  rw [z0 hx]; unfold zbM; rw [List.filterMap_append]; simp [h]
theorem maOut_len (op : ByteArray) (mode : Int) (ns : List ByteArray) (b a : List RowD) : (zbM op mode ns b a).length ≤ a.length := List.length_filterMap_le _ _
theorem zcR (h : zbl op a b = false) : [] = zp op a b mode ns ∧ 1 = zac op a b mode ns := by unfold zp zac; rw [if_neg (by rw [h]; decide), if_neg (by rw [h]; decide)]; exact ⟨rfl, rfl⟩
theorem zaE (h : zbl op a b = true) (hn : ¬ (ndT mode ns a ∧ ndT mode ns b)) : [] = zp op a b mode ns ∧ 6 = zac op a b mode ns := by
  unfold zp zac; rw [if_pos h, if_pos h, if_neg hn, if_neg hn]; exact ⟨rfl, rfl⟩
theorem zcu (h : zbl op a b = true) (hn : ndT mode ns a ∧ ndT mode ns b) (hx : a[k]? = some x) (h0 : zaD (maF op mode ns b) (a.take k) = 0) (e : ¬ (maF op mode ns b x).2 = 0) : [] = zp op a b mode ns ∧ (maF op mode ns b x).2 = zac op a b mode ns := by
  unfold zp zac; rw [if_pos h, if_pos h, if_pos hn, if_pos hn, firstE_at hx h0 e, if_neg e, if_neg e]; exact ⟨rfl, rfl⟩
theorem zeu (h : zbl op a b = true) (hn : ndT mode ns a ∧ ndT mode ns b) (h0 : zaD (maF op mode ns b) (a.take k) = 0) (hk : a.length ≤ k) : rtL (zbM op mode ns b (a.take k)) = zp op a b mode ns ∧ rtE (zbM op mode ns b (a.take k)) = zac op a b mode ns := by
  rw [List.take_of_length_le hk] at *
  unfold zp zac; rw [if_pos h, if_pos h, if_pos hn, if_pos hn, if_pos h0, if_pos h0]; exact ⟨rfl, rfl⟩
theorem maF_none (h : keyT mode ns x ∉ zaF mode ns b) : maF op mode ns b x = (0, 0) ∧ zbr op mode ns b x = none := by unfold maF zbr; rw [findT_none h]; exact ⟨rfl, rfl⟩
theorem zaA {q : RowD} (h : zbH mode ns (keyT mode ns x) b = some q) : maF op mode ns b x = doE op x.v q.v := by unfold maF; rw [h]
theorem maOne_cmp {q : RowD} (h : zbH mode ns (keyT mode ns x) b = some q) (h1 : cmpB op = true) (h2 : (doE op x.v q.v).1 = 1) : zbr op mode ns b x = some x := by unfold zbr; rw [h]; simp [h1, h2]
theorem maOne_no {q : RowD} (h : zbH mode ns (keyT mode ns x) b = some q) (h1 : cmpB op = true) (h2 : ¬ (doE op x.v q.v).1 = 1) : zbr op mode ns b x = none := by unfold zbr; rw [h]; simp [h1, h2]
theorem maOne_op {q : RowD} (h : zbH mode ns (keyT mode ns x) b = some q) (h1 : cmpB op = false) : zbr op mode ns b x = some ⟨keyL mode ns x.ls, (doE op x.v q.v).1⟩ := by unfold zbr; rw [h]; simp [h1]
end
end Lp
/- Walks, printed by a program of mine. -/
set_option linter.unusedSimpArgs false
set_option linter.unusedVariables false
set_option maxHeartbeats 4000000
set_option maxRecDepth 100000
namespace Lp
open Go Go.RowKit Go.Proofs

namespace HdYtfjinapgehafiaaGreatV62
theorem zbQ : ∀ w, ((#[⟨"Labels", 50, 0, false, "", "", 0⟩, ⟨"V", 3, 1, false, "", "", 24⟩] : Array Field).mapM fun f => do pure (f.offset, ← Go.sizeOf f.type) : Sem (Array (Nat × Nat))).run Tryz.prog w = .ok ([(0, 1), (1, 1)] : List (Nat × Nat)).toArray w := fun _ => by kernel_rfl
theorem z2 (b o : Nat) : ∀ w, (Instr.fieldAt 53 (.pointer (some ⟨b, o, none⟩)) 0).run Tryz.prog w = .ok (.pointer (some ⟨b, o + 0, none⟩)) w := fun _ => by kernel_rfl
theorem zaj (b o : Nat) : ∀ w, (Instr.fieldAt 53 (.pointer (some ⟨b, o, none⟩)) 1).run Tryz.prog w = .ok (.pointer (some ⟨b, o + 1, none⟩)) w := fun _ => by kernel_rfl
theorem z9 : ∃ i, Tryz.prog.info? 53 = some i ∧ i.zero = some (.agg #[(.slice none 0 0), (.int .i64 0)]) ∧ i.size = 2 ∧ i.bytes = 32 := zaS (by kernel_rfl)
theorem zao : Tryz.prog.underlying 22 = some (.slice 53) := by kernel_rfl
end HdYtfjinapgehafiaaGreatV62
open HdYtfjinapgehafiaaGreatV62

theorem vorder_c (a : RowD) (b : RowD)  :
    CD Tryz.prog 42 [] [RowD.d a, RowD.d b] (isR (dI (z1 a.ls b.ls))) := by
  refine zy Tryz.func42 rfl (N := 10) rfl rfl (fun C => ?_)
  refine jk [0, 1] rfl ?_
  refine JD.bd 0 rfl (fun bd0 => ?_)
  refine JD.bd 1 rfl (fun bd1 => ?_)
  refine jT rfl (oE rfl (zdj rfl (CellD.agg)) ?_)
  rintro _ _ ⟨g1, rfl, rfl⟩
  refine oE rfl (zdj rfl (CellD.agg)) ?_
  rintro _ _ ⟨g2, rfl, rfl⟩
  refine oR 1 rfl (oZ rfl (jT rfl (oP rfl (zl rfl z2 rfl) (oP rfl (zz rfl (i := 1) rfl Tryz.isAgg50 rfl) (oP rfl (zl rfl z2 rfl) (oP rfl (zz rfl (i := 0) rfl Tryz.isAgg50 rfl) (oW rfl rfl acs Tryz.call106 (Compare2_c a.ls b.ls) (oR 1 rfl (oZ rfl (jk [4] rfl (zs rfl ?_)))))))))))
  exact zj Tryz.results42 (.cons (zf rfl) .nil) rfl HSub.none ⟨rfl, rfl⟩

theorem zej (s : ByteArray)  :
    CD Tryz.prog 43 [] [.s s] (isR (dB (opB s))) := by
  refine zy Tryz.func43 rfl (N := 12) rfl rfl (fun C => ?_)
  refine jk [0] rfl ?_
  refine JD.bd 0 rfl (fun bd0 => ?_)
  have sz0 : s.size ≤ 9223372036854775807 := bd0
  refine jT rfl (oR 1 rfl (oZ rfl (jT rfl (oR 1 rfl (oW rfl rfl acs Tryz.call45 (Do_c s 1 1) (oR 5 rfl (oZ rfl (jT rfl (oR 1 rfl (oP rfl (zV rfl rfl rfl) (oR 1 rfl (oZ rfl (jk [2] rfl (zs rfl ?_))))))))))))))
  exact zj Tryz.results43 (.cons (zB (zf rfl) (Cv.eq (congrArg (fun b => D.v (.bool b)) (by rfl)))) .nil) rfl HSub.none ⟨rfl, rfl⟩

theorem single_c (r : RowD)  :
    CD Tryz.prog 39 [] [RowD.d r] (isR (dB (za1 r))) := by
  refine zy Tryz.func39 rfl (N := 11) rfl rfl (fun C => ?_)
  refine jk [0] rfl ?_
  refine JD.bd 0 rfl (fun bd0 => ?_)
  refine jT rfl (oE rfl (zdj rfl (CellD.agg)) ?_)
  rintro _ _ ⟨g1, rfl, rfl⟩
  refine oR 1 rfl (oZ rfl (jS rfl (jk [1] rfl ?_)))
  refine zab 2 (((decide (zaY r.ls = 0) && decide (z1 (zP r.ls) r.ls = 0)) && zU r.v)) [.bx g1 53 (RowD.d r)] (fun _ hQ2 => ?_) ?_
  · skip
    rcases Bool.eq_false_or_eq_true ((decide (zaY r.ls = 0) && decide (z1 (zP r.ls) r.ls = 0))) with hg3 | hg3
    · skip
      refine za rfl (oP rfl (zl rfl z2 rfl) (oP rfl (zz rfl (i := 0) rfl Tryz.isAgg50 rfl) (oW rfl rfl acs Tryz.call111 (right_c r.ls) (os 5 rfl (congrArg (fun b => D.v (.bool b)) hg3) (oR 1 rfl (oG rfl (zl rfl zaj rfl) (oG rfl (zz rfl (i := 0) rfl Tryz.isAgg3 rfl) (oV rfl rfl acs Tryz.call44 (zda r.v) (oR 2 rfl (zg rfl ?_))))))))))
      exact PD.sub ((2, dB ((decide (zaY r.ls = 0) && decide (z1 (zP r.ls) r.ls = 0)) && zU r.v)) :: [(1, dP g1 0)]) ⟨sc rfl (Cv.eq (congrArg (fun b => D.v (.bool b)) (by first | (simp [hg3]; done) | (simp_all; done)))), sk rfl, trivial⟩ hQ2
    · skip
      refine za rfl (oP rfl (zl rfl z2 rfl) (oP rfl (zz rfl (i := 0) rfl Tryz.isAgg50 rfl) (oW rfl rfl acs Tryz.call111 (right_c r.ls) (os 5 rfl (congrArg (fun b => D.v (.bool b)) hg3) (oR 6 rfl (zg rfl ?_))))))
      exact PD.sub ((2, dB ((decide (zaY r.ls = 0) && decide (z1 (zP r.ls) r.ls = 0)) && zU r.v)) :: [(1, dP g1 0)]) ⟨sc rfl (Cv.eq (congrArg (fun b => D.v (.bool b)) (by first | (simp [hg3]; done) | (simp_all; done)))), sk rfl, trivial⟩ hQ2
  · skip
    refine zc (zs rfl ?_)
    exact zj Tryz.results39 (.cons (zB (zf rfl) (Cv.eq (congrArg (fun b => D.v (.bool b)) (by unfold za1; rw [rightB_eq])))) .nil) rfl HSub.none ⟨rfl, rfl⟩

theorem vown_c (r : RowD) (hl : r.ls.length ≤ 1000000) :
    CD Tryz.prog 40 [] [RowD.d r] (isR (RowD.d r)) := by
  refine zy Tryz.func40 rfl (N := 9) rfl rfl (fun C => ?_)
  refine jk [0] rfl ?_
  refine JD.bd 0 rfl (fun bd0 => ?_)
  refine jT rfl (oE rfl (zdj rfl (CellD.agg)) ?_)
  rintro _ _ ⟨g1, rfl, rfl⟩
  refine oE rfl (zaL (zv := (.agg #[(.slice none 0 0), (.int .i64 0)])) Tryz.zeroValue53 ⟨rfl, rfl, trivial⟩ (Cv.vagg (by decide))) ?_
  rintro _ _ ⟨g2, rfl, rfl⟩
  refine oZ rfl (jS rfl (jk [0, 1, 2] rfl (jn rfl (z3 5 [(3, dP g1 0, none), (4, .sh 2 (r.ls.map Lbl.d), none), (5, .sh 2 (r.ls.map Lbl.d), none), (6, dP g1 1, none), (7, dI r.v, none)] [.bx g2 53 (.agg [dZ, dI 0]), .bx g1 53 (RowD.d r)] (Hn := [.bx g2 53 (.agg [dZ, dI 0]), .bx g1 53 (RowD.d r)]) zah rfl rfl rfl rfl HSub.rfl' rfl ⟨sa_p rfl rfl rfl (zl rfl z2 rfl), sa_p rfl rfl rfl (zz rfl (i := 1) rfl Tryz.isAgg50 rfl), sa_q rfl rfl rfl (zbw rfl (.cons Cv.rfl' .nil) Tryz.call108 (cloneL_c r.ls (by omega)) isOwn_share), sa_p rfl rfl rfl (zl rfl zaj rfl), sa_p rfl rfl rfl (zz rfl (i := 1) rfl Tryz.isAgg3 rfl), trivial⟩ (ok [0, 1, 2, 3, 4, 5, 6, 7] rfl (oP rfl (zbx [0, 1] [.tmp 5, .tmp 7] (zv := (.agg #[(.slice none 0 0), (.int .i64 0)])) rfl rfl (.cons CellD.sh (.cons (CellD.v rfl) .nil)) (Tryz.runUnderlying53) Tryz.zeroValue53 zbQ ⟨rfl, rfl, trivial⟩ rfl) (oE rfl (z4 (i := 0) (X' := .agg [.sh 2 (r.ls.map Lbl.d), dI r.v]) rfl rfl rfl (CellD.agg) Tryz.sizeOf53 rfl rfl rfl) ?_)))))))
  rintro _ _ ⟨rfl, rfl⟩
  refine on rfl (oZ rfl (zs rfl ?_))
  exact zj Tryz.results40 (.cons (ro_cell (i := 0) rfl rfl Tryz.isAgg53 Tryz.sizeOf53 rfl rfl) .nil) rfl HSub.none ⟨rfl, rfl⟩

theorem zem (mode : Int) (names : List ByteArray) (l : List Lbl) (hl : l.length ≤ 1000000) :
    CD Tryz.prog 24 [] [dI mode, .sh 1 (names.map D.s), .sh 2 (l.map Lbl.d)] (zc7 2 62 ((keyL mode names l).map Lbl.d)) := by
  refine zy Tryz.func24 rfl (N := 23) rfl rfl (fun C => ?_)
  refine jk [0, 1, 2] rfl ?_
  refine JD.bd 1 rfl (fun bd1 => ?_)
  have nl1 := zZ bd1
  refine JD.bd 2 rfl (fun bd2 => ?_)
  have nl2 := zZ bd2
  have hp1 := zbB l names false
  refine jT rfl (oR 1 rfl (oZ rfl (jS rfl (jT rfl (oR 1 rfl (oZ rfl (jB rfl (jT rfl (oP rfl (zV rfl rfl rfl) (oR 1 rfl (oZ rfl ?_)))))))))))
  refine jD rfl (fun hc1 => ?_) (fun hc1 => ?_)
  · skip
    refine jT rfl (oR 2 rfl (oE rfl (zx [] _ [] rfl rfl (.cons ArgC.id (.cons ArgC.id .nil)) zo Tryz.call55 (only_c l names (by omega)) (.inl rfl)) ?_))
    rintro _ _ ⟨_, ⟨v2, rfl, rfl⟩, rfl⟩
    refine on rfl (oR 1 rfl (oZ rfl (zs rfl (zi (ze (PD.subH (HSub.less (zbu (i := 0) rfl)) (PD.subH (HSub.turn (h' := .sl v2 2 62 ((keyL mode names l).map Lbl.d)) rfl (Hp.eq_sl (show List.map Lbl.d (zaQ l names true) = List.map Lbl.d (keyL mode names l) from congrArg _ (by unfold keyL metB; simp [*])))) ?_)))))))
    exact zbP Tryz.results24 (.cons (zf rfl) .nil) rfl ⟨_, rfl, rfl⟩
  · skip
    refine jT rfl (oP rfl (zV rfl rfl rfl) (oR 1 rfl (oZ rfl ?_)))
    refine jD rfl (fun hc3 => ?_) (fun hc3 => ?_)
    · skip
      refine jT rfl (oR 2 rfl (oE rfl (zx [] _ [] rfl rfl (.cons ArgC.id (.cons ArgC.id .nil)) zo Tryz.call56 (without_c l names (by omega)) (.inl rfl)) ?_))
      rintro _ _ ⟨_, ⟨v4, rfl, rfl⟩, rfl⟩
      refine on rfl (oE rfl (zJ [.const (.string (⟨#[109, 101, 116, 114, 105, 99]⟩ : ByteArray))] rfl rfl (.cons (CellD.v rfl) .nil) rfl Tryz.runUnderlying23 Tryz.sizeOf9 Tryz.zeroValue9 rfl rfl rfl rfl) ?_)
      rintro _ _ ⟨g5, rfl, rfl⟩
      refine OpsD.subH (HSub.turn (h' := .sl (vS g5 1 1) 1 9 ([(⟨#[109, 101, 116, 114, 105, 99]⟩ : ByteArray)].map D.s)) rfl (Hp.cvs_sl (.cons (Cv.str (by first | decide | (unfold maxLen; omega))) .nil))) (oE rfl (zx [] _ [.sl v4 2 62 ((zaQ l names false).map Lbl.d), .sl (vS g5 1 1) 1 9 ([(⟨#[109, 101, 116, 114, 105, 99]⟩ : ByteArray)].map D.s)] rfl rfl (.cons (ArgC.own (j := 0) rfl rfl) (.cons (ArgC.own (j := 1) rfl rfl) .nil)) (zaf (j := 1) rfl (zaf (j := 0) rfl zo)) Tryz.call56 (without_c (zaQ l names false) [(⟨#[109, 101, 116, 114, 105, 99]⟩ : ByteArray)] (by omega)) (.inr (isOwn_flat (zc9 (fun _ => rfl) _)))) ?_)
      rintro _ _ ⟨_, ⟨v6, rfl, rfl⟩, rfl⟩
      refine on rfl (oR 1 rfl (oZ rfl (jk [2, 6] rfl (zs rfl (zi (ze (PD.subH (HSub.less (zbu (i := 0) rfl)) (PD.subH (HSub.turn (h' := .sl v6 2 62 ((keyL mode names l).map Lbl.d)) rfl (Hp.eq_sl (show List.map Lbl.d (zaQ (zaQ l names false) [(⟨#[109, 101, 116, 114, 105, 99]⟩ : ByteArray)] false) = List.map Lbl.d (keyL mode names l) from congrArg _ (by unfold keyL metB; simp [*])))) ?_))))))))
      exact zbP Tryz.results24 (.cons (zf rfl) .nil) rfl ⟨_, rfl, rfl⟩
    · skip
      refine zq rfl (zw (zc (jT rfl (oR 1 rfl (oE rfl (zJ [.const (.string (⟨#[109, 101, 116, 114, 105, 99]⟩ : ByteArray))] rfl rfl (.cons (CellD.v rfl) .nil) rfl Tryz.runUnderlying23 Tryz.sizeOf9 Tryz.zeroValue9 rfl rfl rfl rfl) ?_)))))
      rintro _ _ ⟨g7, rfl, rfl⟩
      refine OpsD.subH (HSub.turn (h' := .sl (vS g7 1 1) 1 9 ([(⟨#[109, 101, 116, 114, 105, 99]⟩ : ByteArray)].map D.s)) rfl (Hp.cvs_sl (.cons (Cv.str (by first | decide | (unfold maxLen; omega))) .nil))) (oE rfl (zx [] _ [.sl (vS g7 1 1) 1 9 ([(⟨#[109, 101, 116, 114, 105, 99]⟩ : ByteArray)].map D.s)] rfl rfl (.cons ArgC.id (.cons (ArgC.own (j := 0) rfl rfl) .nil)) (zaf (j := 0) rfl zo) Tryz.call56 (without_c l [(⟨#[109, 101, 116, 114, 105, 99]⟩ : ByteArray)] (by omega)) (.inr (isOwn_flat (zc9 (fun _ => rfl) _)))) ?_)
      rintro _ _ ⟨_, ⟨v8, rfl, rfl⟩, rfl⟩
      refine on rfl (oR 1 rfl (oZ rfl (jk [6] rfl (zs rfl (PD.subH (HSub.less (zbu (i := 0) rfl)) (PD.subH (HSub.turn (h' := .sl v8 2 62 ((keyL mode names l).map Lbl.d)) rfl (Hp.eq_sl (show List.map Lbl.d (zaQ l [(⟨#[109, 101, 116, 114, 105, 99]⟩ : ByteArray)] false) = List.map Lbl.d (keyL mode names l) from congrArg _ (by unfold keyL metB; simp [*])))) ?_))))))
      exact zbP Tryz.results24 (.cons (zf rfl) .nil) rfl ⟨_, rfl, rfl⟩

theorem zcD (l : List RowD)  :
    CD Tryz.prog 26 [] [.sh 2 (l.map RowD.d)] (isR (dB (zT l))) := by
  refine zy Tryz.func26 rfl (N := 33) rfl rfl (fun C => ?_)
  refine jk [0] rfl ?_
  refine JD.bd 0 rfl (fun bd0 => ?_)
  have nl0 := zZ bd0
  refine jT rfl (oR 1 rfl (oZ rfl (jS rfl (jT rfl (oR 1 rfl (oP rfl (zae (n := l.length) rfl Tryz.runUnderlying22 (by simp only [lm, lc, ln])) (oP rfl (zaz rfl rfl rfl) (oZ rfl ?_))))))))
  refine jD rfl (fun hc1 => ?_) (fun hc1 => ?_)
  · skip
    refine jT rfl (oR 1 rfl (oZ rfl (zs rfl (ze ?_))))
    exact zj Tryz.results26 (.cons (zB (zf rfl) (Cv.eq (congrArg (fun b => D.v (.bool b)) (by exact vr_long hc1)))) .nil) rfl HSub.none ⟨rfl, rfl⟩
  · skip
    refine zq rfl (zc (jS rfl (jT rfl (oR 1 rfl (oP rfl (zae (n := l.length) rfl Tryz.runUnderlying22 (by simp only [lm, lc, ln])) (oR 1 rfl (oZ rfl (jB rfl (jl1 (fun (a_ : Nat) => [(0, .sh 2 (l.map RowD.d)), (8, .sh 2 (l.map RowD.d)), (9, dN l.length), (10, dN a_)]) (fun a_ => []) (fun a_ => (zbN l 0 = zbN l a_)) (fun a_ => l.length - a_) 0 rfl (sa rfl) HSub.rfl' rfl ?_)))))))))
    rintro k hk
    refine ja rfl (jn rfl (jT rfl (oP rfl (zL rfl rfl rfl) (oZ rfl (jS rfl ?_)))))
    refine jD rfl (fun hc2 => ?_) (fun hc2 => ?_)
    · skip
      refine zq rfl (zc (jS rfl (jB rfl (jT rfl (oR 1 rfl ?_)))))
      obtain ⟨x1, hx1⟩ := zG l k (by omega)
      refine oP rfl (zC (k := k) rfl rfl Tryz.runUnderlying22 Tryz.sizeOf53 (by first | rfl | omega) (zt hx1)) (oP rfl (zar (d := RowD.d x1) rfl Tryz.isAgg53 Tryz.sizeOf53 rfl rfl) (oE rfl (zaL (zv := (.agg #[(.slice none 0 0), (.int .i64 0)])) Tryz.zeroValue53 ⟨rfl, rfl, trivial⟩ (Cv.vagg (by decide))) ?_))
      rintro _ _ ⟨g3, rfl, rfl⟩
      refine oR 1 rfl (oE rfl (z4 (i := 0) (X' := RowD.d x1) rfl rfl rfl (CellD.agg) Tryz.sizeOf53 rfl rfl rfl) ?_)
      rintro _ _ ⟨rfl, rfl⟩
      refine on rfl (oZ rfl (jS rfl ?_))
      rcases Bool.eq_false_or_eq_true (za1 x1) with hg4 | hg4
      · skip
        by_cases hg5 : (0 : Int) < ((k : Nat) : Int)
        · skip
          refine jk [0, 3, 4, 8, 9, 10, 11, 12, 13, 14] rfl (jn rfl ?_)
          obtain ⟨x2, hx2⟩ := zG l (k - 1) (by omega)
          refine z3 13 [(15, RowD.d x1, none), (16, dB true, none), (17, dB false, none), (18, dB false, none), (19, dN k, none), (20, dB true, none), (21, dB true, none), (22, .sh 2 (l.map RowD.d), none), (23, dN k, none), (24, dN (k - 1), none), (25, .el (RowD.d x2) 0, none), (26, RowD.d x2, none), (27, RowD.d x1, none)] [.bx g3 53 (RowD.d x1)] (Hn := [.bx g3 53 (RowD.d x1)]) zah rfl rfl rfl rfl HSub.rfl' rfl ⟨sa_p rfl rfl rfl (za0 (d := RowD.d x1) rfl (i := 0) rfl Tryz.isAgg53 Tryz.sizeOf53 rfl rfl), sa_q rfl rfl rfl ((zbw rfl (.cons Cv.rfl' .nil) Tryz.call39 (single_c x1) zbn).cv (Cv.eq (congrArg (fun b => D.v (.bool b)) hg4))), sa_p rfl rfl rfl (zaP (q := true) rfl), sa_p rfl rfl rfl (zm rfl), zM rfl rfl rfl rfl rfl rfl (zm rfl).qu, zM rfl rfl rfl rfl rfl rfl (zaz rfl rfl (decide_eq_true hg5)).qu, zM rfl rfl rfl rfl rfl rfl (zm rfl).qu, zM rfl rfl rfl rfl rfl rfl (zm rfl).qu, zM rfl rfl rfl rfl rfl rfl (zm rfl).qu, zM rfl rfl rfl rfl rfl rfl (zaG (c := ((k - 1 : Nat) : Int)) rfl rfl (zF (by omega) (by omega))).qu, zM rfl rfl rfl rfl rfl rfl (zC (k := k - 1) rfl rfl Tryz.runUnderlying22 Tryz.sizeOf53 (by first | rfl | omega) (zt hx2)).qu, zM rfl rfl rfl rfl rfl rfl (zar (d := RowD.d x2) rfl Tryz.isAgg53 Tryz.sizeOf53 rfl rfl).qu, zM rfl rfl rfl rfl rfl rfl (za0 (d := RowD.d x1) rfl (i := 0) rfl Tryz.isAgg53 Tryz.sizeOf53 rfl rfl).qu, trivial⟩ ?_
          refine ok [0, 3, 4, 8, 9, 10, 11, 12, 13, 14, 15, 16, 17, 18, 19, 20, 21, 22, 23, 24, 25, 26, 27] rfl (oV rfl rfl acs Tryz.call42 (vorder_c x2 x1) (oG rfl (z8 rfl rfl rfl) (oR 2 rfl (oZ rfl ?_))))
          refine jD rfl (fun hc6 => ?_) (fun hc6 => ?_)
          · skip
            refine jT rfl (oR 1 rfl (oZ rfl (zs rfl (zi (ze (zQ (zi (ze ?_))))))))
            exact zj Tryz.results26 (.cons (zB (zf rfl) (Cv.eq (congrArg (fun b => D.v (.bool b)) (by exact vr_bad2 hk hx1 (prevR_pos hg5 hx2) hc6)))) .nil) rfl HSub.none ⟨rfl, rfl⟩
          · skip
            refine zq rfl (zw (zc (za rfl (oP rfl (zS (c := ((k + 1 : Nat) : Int)) rfl rfl (zF (by omega) (by omega))) (oR 1 rfl (zg rfl ?_))))))
            exact pl1 (k + 1) (sa rfl) HSub.none (vr_step hk hx1 hg4 (prevR_pos hg5 hx2) hc6) (by omega)
        · skip
          refine jk [0, 3, 4, 8, 9, 10, 11, 12, 13, 14] rfl (jn rfl (z3 13 [(15, RowD.d x1, none), (16, dB true, none), (17, dB false, none), (18, dB false, none), (19, dN k, none), (20, dB false, none), (21, dB false, none), (22, .v undef, none), (23, .v undef, none), (24, .v undef, none), (25, .v undef, none), (26, .v undef, none), (27, .v undef, none)] [.bx g3 53 (RowD.d x1)] (Hn := [.bx g3 53 (RowD.d x1)]) zah rfl rfl rfl rfl HSub.rfl' rfl ⟨sa_p rfl rfl rfl (za0 (d := RowD.d x1) rfl (i := 0) rfl Tryz.isAgg53 Tryz.sizeOf53 rfl rfl), sa_q rfl rfl rfl ((zbw rfl (.cons Cv.rfl' .nil) Tryz.call39 (single_c x1) zbn).cv (Cv.eq (congrArg (fun b => D.v (.bool b)) hg4))), sa_p rfl rfl rfl (zaP (q := true) rfl), sa_p rfl rfl rfl (zm rfl), zM rfl rfl rfl rfl rfl rfl (zm rfl).qu, zM rfl rfl rfl rfl rfl rfl (zaz rfl rfl (decide_eq_false hg5)).qu, zM rfl rfl rfl rfl rfl rfl (zm rfl).qu, sa_s rfl rfl rfl rfl rfl rfl (by decide), sa_s rfl rfl rfl rfl rfl rfl (by decide), sa_s rfl rfl rfl rfl rfl rfl (by decide), sa_s rfl rfl rfl rfl rfl rfl (by decide), sa_s rfl rfl rfl rfl rfl rfl (by decide), sa_s rfl rfl rfl rfl rfl rfl (by decide), trivial⟩ (ok [0, 3, 4, 8, 9, 10, 11, 12, 13, 14, 15, 16, 17, 18, 19, 20, 21, 22, 23, 24, 25, 26, 27] rfl (oR 4 rfl (oZ rfl (jCf rfl (zq rfl (zw (zc (za rfl ?_))))))))))
          refine oP rfl (zS (c := ((k + 1 : Nat) : Int)) rfl rfl (zF (by omega) (by omega))) (oR 1 rfl (zg rfl ?_))
          exact pl1 (k + 1) (sa rfl) HSub.none (vr_step0 hk hx1 hg4 (prevR_zero hg5)) (by omega)
      · skip
        refine jk [0, 3, 4, 8, 9, 10, 11, 12, 13, 14] rfl (jn rfl (z3 13 [(15, RowD.d x1, none), (16, dB false, none), (17, dB true, none), (18, dB true, none), (19, .v undef, none), (20, .v undef, none), (21, .v undef, none), (22, .v undef, none), (23, .v undef, none), (24, .v undef, none), (25, .v undef, none), (26, .v undef, none), (27, .v undef, none)] [.bx g3 53 (RowD.d x1)] (Hn := [.bx g3 53 (RowD.d x1)]) zah rfl rfl rfl rfl HSub.rfl' rfl ⟨sa_p rfl rfl rfl (za0 (d := RowD.d x1) rfl (i := 0) rfl Tryz.isAgg53 Tryz.sizeOf53 rfl rfl), sa_q rfl rfl rfl ((zbw rfl (.cons Cv.rfl' .nil) Tryz.call39 (single_c x1) zbn).cv (Cv.eq (congrArg (fun b => D.v (.bool b)) hg4))), sa_p rfl rfl rfl (zaP (q := false) rfl), sa_p rfl rfl rfl (zm rfl), sa_s rfl rfl rfl rfl rfl rfl (by decide), sa_s rfl rfl rfl rfl rfl rfl (by decide), sa_s rfl rfl rfl rfl rfl rfl (by decide), sa_s rfl rfl rfl rfl rfl rfl (by decide), sa_s rfl rfl rfl rfl rfl rfl (by decide), sa_s rfl rfl rfl rfl rfl rfl (by decide), sa_s rfl rfl rfl rfl rfl rfl (by decide), sa_s rfl rfl rfl rfl rfl rfl (by decide), sa_s rfl rfl rfl rfl rfl rfl (by decide), trivial⟩ (ok [0, 3, 4, 8, 9, 10, 11, 12, 13, 14, 15, 16, 17, 18, 19, 20, 21, 22, 23, 24, 25, 26, 27] rfl (oR 4 rfl (oZ rfl (jCt rfl (jT rfl (oR 1 rfl (oZ rfl (zs rfl (zi (ze (zQ (zi (ze ?_)))))))))))))))
        exact zj Tryz.results26 (.cons (zB (zf rfl) (Cv.eq (congrArg (fun b => D.v (.bool b)) (by exact vr_bad1 hk hx1 hg4)))) .nil) rfl HSub.none ⟨rfl, rfl⟩
    · skip
      refine zE rfl (zr (zn (zh (zc (jT rfl (oR 1 rfl (oZ rfl (zs rfl ?_))))))))
      exact zj Tryz.results26 (.cons (zB (zf rfl) (Cv.eq (congrArg (fun b => D.v (.bool b)) (by exact vr_good hk (by omega) (by omega))))) .nil) rfl HSub.none ⟨rfl, rfl⟩

theorem vTidy_c (l : List RowD)  :
    CD Tryz.prog 14 [] [.sh 2 (l.map RowD.d)] (fun r H' => ∃ v0_, r = .tup [.ov v0_, dI (rtE l)] ∧ H' = [.sl v0_ 2 53 ((rtL l).map RowD.d)]) := by
  refine zy Tryz.func14 rfl (N := 46) rfl rfl (fun C => ?_)
  refine jk [0] rfl ?_
  refine JD.bd 0 rfl (fun bd0 => ?_)
  have nl0 := zZ bd0
  refine jT rfl (oR 2 rfl (oZ rfl (jS rfl (jT rfl (oR 1 rfl (oP rfl (zae (n := l.length) rfl Tryz.runUnderlying22 (by simp only [lm, lc, ln])) (oP rfl (zaz rfl rfl rfl) (oZ rfl ?_))))))))
  refine jD rfl (fun hc1 => ?_) (fun hc1 => ?_)
  · skip
    refine jT rfl (oR 2 rfl (oZ rfl (zs rfl (ze (PD.subH (HSub.nil 2 53) (PD.norm [.sl (.slice none 0 0) 2 53 ((rtL l).map RowD.d)] (by have hw : [] = rtL l := (by first | exact (zcO hc1).1 | exact (zcO hc1).2); rw [show ([] : List D) = List.map RowD.d (rtL l) from congrArg (List.map RowD.d) hw]) ?_))))))
    exact zj Tryz.results14 (.cons (zB (zf rfl) (Cv.ov rfl)) (.cons (zB (zf rfl) (Cv.eq (congrArg (fun n => D.v (.int .i64 n)) (by first | exact (zcO hc1).1 | exact (zcO hc1).2)))) .nil)) rfl (HSub.fst 1 rfl) ⟨(.slice none 0 0), rfl, rfl⟩
  · skip
    refine zq rfl (zc (jT rfl (oR 1 rfl (oZ rfl (jS rfl (jT rfl (oR 1 rfl (oP rfl (zae (n := l.length) rfl Tryz.runUnderlying22 (by simp only [lm, lc, ln])) (oR 1 rfl (oZ rfl (jB rfl (jl3 (fun (a_ : Nat) (b_ : Value) (c_ : List RowD) => [(11, .sh 2 (l.map RowD.d)), (12, dN l.length), (13, dN a_), (4, .ov b_)]) (fun a_ b_ c_ => [.sl b_ 2 53 (c_.map RowD.d)]) (fun a_ b_ c_ => (a_ ≤ l.length) ∧ (c_ = l.take a_) ∧ (zbD (l.take a_) = true)) (fun a_ b_ c_ => l.length - a_) 0 (.slice none 0 0) [] rfl ⟨sk rfl, sk rfl, sk rfl, sc rfl (Cv.ov rfl), trivial⟩ (HSub.nil 2 53) ⟨Nat.zero_le _, rfl, rfl⟩ ?_))))))))))))
    rintro k ov o ⟨hkl, ho, hw⟩
    refine ja rfl (jn rfl ?_)
    have hol : o.length ≤ 2000 := by rw [ho, List.length_take]; omega
    refine jT rfl (oP rfl (zL rfl rfl rfl) (oZ rfl (jS rfl ?_)))
    refine jD rfl (fun hc2 => ?_) (fun hc2 => ?_)
    · skip
      refine zq rfl (zc (jS rfl (jB rfl (jT rfl ?_))))
      obtain ⟨x1, hx1⟩ := zG l k (by omega)
      refine oP rfl (zC (k := k) rfl rfl Tryz.runUnderlying22 Tryz.sizeOf53 (by first | rfl | omega) (zt hx1)) (oP rfl (zar (d := RowD.d x1) rfl Tryz.isAgg53 Tryz.sizeOf53 rfl rfl) (oE rfl (zaL (zv := (.agg #[(.slice none 0 0), (.int .i64 0)])) Tryz.zeroValue53 ⟨rfl, rfl, trivial⟩ (Cv.vagg (by decide))) ?_))
      rintro _ _ ⟨g3, rfl, rfl⟩
      refine oE rfl (z4 (i := 0) (X' := RowD.d x1) rfl rfl rfl (CellD.agg) Tryz.sizeOf53 rfl rfl rfl) ?_
      rintro _ _ ⟨rfl, rfl⟩
      refine on rfl (oZ rfl (jS rfl (jT rfl (oP rfl (za0 (d := RowD.d x1) rfl (i := 0) rfl Tryz.isAgg53 Tryz.sizeOf53 rfl rfl) (oW rfl rfl acs Tryz.call39 (single_c x1) (oP rfl (zaP rfl) (oZ rfl ?_)))))))
      refine jC rfl (fun hc4 => ?_) (fun hc4 => ?_)
      · simp only [bA, bB, bC, bD, bE, bF, bG, bH, bI, bJ] at hc4
        refine jT rfl (oR 2 rfl (oZ rfl (zs rfl (ze (zi (ze (zQ (zi (ze (PD.subH (HSub.nil 2 53) (PD.norm [.sl (.slice none 0 0) 2 53 ((rtL l).map RowD.d), .bx g3 53 (RowD.d x1), .sl ov 2 53 (o.map RowD.d)] (by have hw : [] = rtL l := (by first | exact (rt_bad' hx1 hc4).1 | exact (rt_bad' hx1 hc4).2); rw [show ([] : List D) = List.map RowD.d (rtL l) from congrArg (List.map RowD.d) hw]) ?_)))))))))))
        exact zj Tryz.results14 (.cons (zB (zf rfl) (Cv.ov rfl)) (.cons (zB (zf rfl) (Cv.eq (congrArg (fun n => D.v (.int .i64 n)) (by first | exact (rt_bad' hx1 hc4).1 | exact (rt_bad' hx1 hc4).2)))) .nil)) rfl (HSub.fst 1 rfl) ⟨(.slice none 0 0), rfl, rfl⟩
      · simp only [bA, bB, bC, bD, bE, bF, bG, bH, bI, bJ] at hc4
        refine zq rfl (zc (za rfl (oR 1 rfl (oP rfl (za0 (d := RowD.d x1) rfl (i := 0) rfl Tryz.isAgg53 Tryz.sizeOf53 rfl rfl) (oW rfl rfl acs Tryz.call40 (vown_c x1 (by have h := zci hc4; omega)) (oE rfl (zJ [.tmp 22] rfl rfl (.cons CellD.agg .nil) rfl Tryz.runUnderlying22 Tryz.sizeOf53 Tryz.zeroValue53 rfl rfl rfl rfl) ?_))))))
        rintro _ _ ⟨g5, rfl, rfl⟩
        refine oE rfl (zK (f := RowD.d) (l := o) (l' := [x1]) (i := 2) rfl rfl rfl (SrcD.own (j := 0) rfl rfl) zao z9 rfl rfl (by unfold maxLen; (try simp only [la, lc, ln, lm, lt', ld, ls, lr]); omega) (by (try simp only [la, lc, ln, lm, lt', ld, ls, lr]); omega)) ?_
        rintro _ _ ⟨v6, rfl, rfl⟩
        refine on rfl (oR 1 rfl (zg rfl (zw (zc (za rfl (oP rfl (zS (c := ((k + 1 : Nat) : Int)) rfl rfl (zF (by omega) (by omega))) (oR 1 rfl (zg rfl (PD.subH (HSub.perm (zk (i := 2) rfl)) (pn rfl (PD.subH (HSub.fst 1 rfl) (pn rfl ?_))))))))))))
        exact pl3 (k + 1) v6 (o ++ [x1]) (sa rfl) HSub.rfl' ⟨by show k + 1 ≤ l.length; omega, by rw [ho, z0 hx1], rowsB_snoc' hx1 hw hc4⟩ (by omega)
    · skip
      have hrow := td_rows hw (by omega)
      obtain rfl : l = o := by rw [ho, List.take_of_length_le (by omega)]
      have hil := zcA (c := zO 0) _ l rfl
      refine zE rfl (zr (zn (zh (zc (jT rfl (oR 1 rfl (oE rfl (zx [.sl ov 2 53 (l.map RowD.d)] [] [] rfl rfl (.cons ArgC.id (.cons ArgC.id .nil)) zo Tryz.call41 (sortstR_c ov l 0 (by omega)) (.inl rfl)) ?_)))))))
      rintro _ _ ⟨_, ⟨rfl, rfl⟩, rfl⟩
      refine on rfl (oZ rfl (jS rfl (jT rfl (oR 1 rfl (oZ rfl (jB rfl (jl1 (fun (a_ : Nat) => [(4, .ov ov), (7, dN a_)]) (fun a_ => [.sl ov 2 53 ((zR (zO 0) l).map RowD.d)]) (fun a_ => (1 ≤ a_) ∧ (zdk (zR (zO 0) l) a_)) (fun a_ => l.length - a_) 1 rfl (sa rfl) HSub.rfl' ⟨Nat.le_refl _, zdk.one _⟩ ?_)))))))
      rintro i ⟨hi, hn⟩
      refine ja rfl (jn rfl (jS rfl (jT rfl (oR 2 rfl (oP rfl (zY (n := (zR (zO 0) l).length) (j := 0) rfl rfl Tryz.runUnderlying22 (List.length_map _)) (oP rfl (zL rfl rfl rfl) (oZ rfl ?_)))))))
      refine jD rfl (fun hc7 => ?_) (fun hc7 => ?_)
      · skip
        refine zq rfl (zc (jS rfl (jB rfl (jS rfl (jk [4, 7, 28, 29, 30, 31] rfl (jn rfl ?_))))))
        obtain ⟨x2, hx2⟩ := zG (zR (zO 0) l) (i - 1) (by omega)
        obtain ⟨x3, hx3⟩ := zG (zR (zO 0) l) i (by omega)
        refine z3 9 [(34, .ov ov, none), (35, dN i, none), (36, dN (i - 1), none), (37, .v (.pointer (some ⟨bl ov, (i - 1) * 2 + 0, none⟩)), none), (38, RowD.d x2, none), (39, .ov ov, none), (40, dN i, none), (41, .v (.pointer (some ⟨bl ov, i * 2 + 0, none⟩)), none), (42, RowD.d x3, none)] [.sl ov 2 53 ((zR (zO 0) l).map RowD.d)] (Hn := [.sl ov 2 53 ((zR (zO 0) l).map RowD.d)]) zah rfl rfl rfl rfl HSub.rfl' rfl ⟨sa_p rfl rfl rfl (zm rfl), sa_p rfl rfl rfl (zm rfl), sa_p rfl rfl rfl (zaG (c := ((i - 1 : Nat) : Int)) rfl rfl (zF (by omega) (by omega))), sa_p rfl rfl rfl (zA (k := i - 1) (j := 0) rfl rfl rfl Tryz.runUnderlying22 Tryz.sizeOf53 (by first | rfl | omega) (zt hx2)), sa_p rfl rfl rfl (zai (d := RowD.d x2) rfl (i := 0) rfl (zt hx2) Tryz.isAgg53 Tryz.sizeOf53 rfl rfl), sa_p rfl rfl rfl (zm rfl), sa_p rfl rfl rfl (zm rfl), sa_p rfl rfl rfl (zA (k := i) (j := 0) rfl rfl rfl Tryz.runUnderlying22 Tryz.sizeOf53 (by first | rfl | omega) (zt hx3)), sa_p rfl rfl rfl (zai (d := RowD.d x3) rfl (i := 0) rfl (zt hx3) Tryz.isAgg53 Tryz.sizeOf53 rfl rfl), trivial⟩ (ok [4, 7, 28, 29, 30, 31, 34, 35, 36, 37, 38, 39, 40, 41, 42] rfl (oW rfl rfl acs Tryz.call42 (vorder_c x2 x3) (oP rfl (zV rfl rfl rfl) (oZ rfl ?_))))
        refine jD rfl (fun hc8 => ?_) (fun hc8 => ?_)
        · skip
          refine jT rfl (oR 2 rfl (oZ rfl (zs rfl (zi (ze (zQ (zi (ze (PD.subH (HSub.nil 2 53) (PD.norm [.sl (.slice none 0 0) 2 53 ((rtL l).map RowD.d), .sl ov 2 53 ((zR (zO 0) l).map RowD.d)] (by have hw : [] = rtL l := (by first | exact (td_twin (by omega) hrow hi hx2 hx3 hc8).1 | exact (td_twin (by omega) hrow hi hx2 hx3 hc8).2); rw [show ([] : List D) = List.map RowD.d (rtL l) from congrArg (List.map RowD.d) hw]) ?_))))))))))
          exact zj Tryz.results14 (.cons (zB (zf rfl) (Cv.ov rfl)) (.cons (zB (zf rfl) (Cv.eq (congrArg (fun n => D.v (.int .i64 n)) (by first | exact (td_twin (by omega) hrow hi hx2 hx3 hc8).1 | exact (td_twin (by omega) hrow hi hx2 hx3 hc8).2)))) .nil)) rfl (HSub.fst 1 rfl) ⟨(.slice none 0 0), rfl, rfl⟩
        · skip
          refine zq rfl (zw (zc (za rfl (oR 1 rfl (oP rfl (zS (c := ((i + 1 : Nat) : Int)) rfl rfl (zF (by omega) (by omega))) (oR 1 rfl (zg rfl ?_)))))))
          exact pl1 (i + 1) (sa rfl) HSub.rfl' ⟨by show 1 ≤ i + 1; omega, hn.next hi hx2 hx3 hc8⟩ (by omega)
      · skip
        refine zE rfl (zr (zn (zh (zc (jT rfl (oR 3 rfl (oZ rfl (zs rfl (PD.norm [.sl ov 2 53 ((rtL l).map RowD.d)] (by have hw : (zR (zO 0) l) = rtL l := (by first | exact (td_good (by omega) hrow hn (by omega)).1 | exact (td_good (by omega) hrow hn (by omega)).2); rw [hw]) ?_)))))))))
        exact zj Tryz.results14 (.cons (zf rfl) (.cons (zB (zf rfl) (Cv.eq (congrArg (fun n => D.v (.int .i64 n)) (by first | exact (td_good (by omega) hrow hn (by omega)).1 | exact (td_good (by omega) hrow hn (by omega)).2)))) .nil)) rfl (HSub.fst 1 rfl) ⟨ov, rfl, rfl⟩
end Lp
