/-
  The document's own tidying of labels and rows, as plain data.
-/
import Derived.Test.YtfjinapgehafiaaGreatPText2
set_option linter.unusedVariables false
namespace Lp
open Go
section
variable {α : Type} {c : α → α → Int}
/-- strictly in order -/
def zax (c : α → α → Int) (l : List α) : Prop := l.Pairwise (fun a b => c a b < 0)
theorem zax.srt {l : List α} (h : zax c l) : Srt c l := List.Pairwise.imp (fun h => Int.le_of_lt h) h
/-- a list with one more at a place -/
def zdk (out : List α) (k : Nat) (x : α) : List α := (((out.take k).drop 0) ++ [x]) ++ ((out.take out.length).drop k)
theorem insAt_eq (out : List α) (k : Nat) (x : α) : zdk out k x = out.take k ++ x :: out.drop k := by unfold zdk; rw [List.take_length, List.drop_zero]; simp
theorem insAt_perm (out : List α) (k : Nat) (x : α) : (zdk out k x).Perm (out ++ [x]) := by
  rw [insAt_eq]
  refine (List.perm_middle).trans ?_
  rw [List.take_append_drop]
  exact (List.perm_append_comm (l₁ := [x]) (l₂ := out))
theorem insAt_strict {out : List α} {k : Nat} {x : α} (h : zax c out) (h1 : ∀ y ∈ out.take k, c y x < 0) (h2 : ∀ y ∈ out.drop k, c x y < 0) : zax c (zdk out k x) := by
  rw [insAt_eq]
  have e : out.take k ++ out.drop k = out := List.take_append_drop ..
  unfold zax at h ⊢
  rw [← e] at h
  obtain ⟨a1, a2, a3⟩ := List.pairwise_append.1 h
  refine List.pairwise_append.2 ⟨a1, List.pairwise_cons.2 ⟨h2, a2⟩, fun y hy z hz => ?_⟩
  rcases List.mem_cons.1 hz with e | e
  · rw [e]; exact h1 y hy
  · exact a3 y hy z e
theorem ins_perm (x : α) (l : List α) : (ins c x l).Perm (x :: l) := by
  have key : ∀ l : List α, (insB c x l).Perm (x :: l) := by
    intro l
    induction l with
    | nil => exact List.Perm.refl _
    | cons y r ih =>
      unfold insB
      split
      · exact (List.Perm.cons y ih).trans (List.Perm.swap x y r)
      · exact List.Perm.refl _
  unfold ins
  exact (List.reverse_perm _).trans ((key l.reverse).trans (List.Perm.cons x (List.reverse_perm l)))
theorem isort_prm (l : List α) : (zw c l).Perm l := by
  have key : ∀ (m r : List α), (m.foldl (fun r x => ins c x r) r).Perm (r ++ m) := by
    intro m
    induction m with
    | nil => intro r; simp
    | cons x m ih =>
      intro r
      refine (ih (ins c x r)).trans ?_
      refine (List.Perm.append_right m (ins_perm x r)).trans ?_
      show (x :: (r ++ m)).Perm (r ++ x :: m)
      exact List.perm_middle.symm
  have := key l []
  rw [List.nil_append] at this
  exact this
/-- in order, and of the same: the same, if alike is the same -/
theorem srt_perm (h : Cmp c) {a b : List α} (ha : Srt c a) (hb : Srt c b) (hp : a.Perm b) (anti : ∀ x ∈ a, ∀ y ∈ a, c x y = 0 → x = y) : a = b := by
  refine Srt.unique h _ _ ha hb (fun k => ?_)
  have hrep : ∀ m : List α, (∀ x ∈ m, ∀ y ∈ m, c x y = 0 → x = y) → ∀ z ∈ m.filter (eqv c k), m.filter (eqv c k) = List.replicate (m.filter (eqv c k)).length z := by
    intro m hm z hz
    rw [List.eq_replicate_iff]
    refine ⟨rfl, fun w hw => ?_⟩
    have h1 := List.mem_filter.1 hz
    have h2 := List.mem_filter.1 hw
    have e1 : c k z = 0 := by simpa [eqv] using h1.2
    have e2 : c k w = 0 := by simpa [eqv] using h2.2
    have e3 := h.neg k w
    have e4 := (h.tr w k z).e1 (by omega)
    exact hm w h2.1 z h1.1 (by omega)
  have hpf := hp.filter (eqv c k)
  have hl := hpf.length_eq
  rcases hz : a.filter (eqv c k) with _ | ⟨z, r⟩
  · rw [hz] at hl
    rw [List.eq_nil_of_length_eq_zero (l := b.filter (eqv c k)) (by rw [← hl]; rfl)]
  · rw [← hz]
    have hm : z ∈ a.filter (eqv c k) := by rw [hz]; exact List.mem_cons_self
    have hm2 : z ∈ b.filter (eqv c k) := hpf.mem_iff.1 hm
    rw [hrep a anti z hm, hrep b (fun x hx y hy => anti x (hp.mem_iff.2 hx) y (hp.mem_iff.2 hy)) z hm2, hl]
theorem zax.anti (h : Cmp c) {l : List α} (hs : zax c l) : ∀ x ∈ l, ∀ y ∈ l, c x y = 0 → x = y := by
  induction l with
  | nil => intro x hx; cases hx
  | cons a r ih =>
    have hs' := List.pairwise_cons.1 hs
    intro x hx y hy e
    rcases List.mem_cons.1 hx with ex | ex <;> rcases List.mem_cons.1 hy with ey | ey
    · rw [ex, ey]
    · have := hs'.1 y ey; rw [ex] at e; omega
    · have := hs'.1 x ex; have := h.neg a x; rw [ey] at e; omega
    · exact ih hs'.2 x ex y ey e
theorem strict_isort (h : Cmp c) {l m : List α} (hs : zax c l) (hp : l.Perm m) : zw c m = l := by
  have h1 := isort_prm (c := c) m
  exact (srt_perm h hs.srt (zak h _ m rfl).srt (hp.trans h1.symm) (hs.anti h)).symm
end

/-! ### labels -/
theorem NSrt.strict {l : List Lbl} (h : NSrt l) : zax zA l := List.Pairwise.imp (fun {a b} h => by unfold zA or2; rw [if_pos (by omega)]; exact h) h
/-- how far tidying has come -/
structure RT (l : List Lbl) (i : Nat) (out : List Lbl) : Prop where
  ns : NSrt out
  pm : out.Perm (l.take i)
  ok : ∀ x ∈ out, okL x = true
theorem RT.zero (l : List Lbl) : RT l 0 [] := ⟨List.Pairwise.nil, by simp, fun _ h => by cases h⟩
theorem RT.len {l out : List Lbl} {i : Nat} (h : RT l i out) (hi : i ≤ l.length) : out.length = i := by rw [h.pm.length_eq, List.length_take]; omega
theorem RT.next {l out : List Lbl} {i k : Nat} {x : Lbl} (h : RT l i out) (hx : l[i]? = some x) (hok : okL x = true) (h1 : ∀ j y, j < k → out[j]? = some y → cmpS y.n x.n < 0) (h2 : k = out.length ∨ ∃ y, out[k]? = some y ∧ ¬ cmpS y.n x.n < 0 ∧ ¬ y.n = x.n) : RT l (i + 1) (zdk out k x) := by
  have hn : ∀ y z : Lbl, cmpS y.n z.n < 0 ↔ cmpS y.n z.n < 0 := fun _ _ => Iff.rfl
  refine ⟨?_, ?_, ?_⟩
  · have := insAt_strict (c := fun a b : Lbl => cmpS a.n b.n) (out := out) (k := k) (x := x) h.ns (fun y hy => ?_) (fun y hy => ?_)
    · exact this
    · obtain ⟨j, hj⟩ := List.mem_iff_getElem?.1 hy
      rw [List.getElem?_take] at hj
      split at hj
      · exact h1 j y (by assumption) hj
      · cases hj
    · rcases h2 with e | ⟨z, hz, h3, h4⟩
      · rw [e, List.drop_length] at hy; cases hy
      · have hzx : cmpS x.n z.n < 0 := by
          have e1 := zcK z.n x.n
          have e2 : cmpS z.n x.n ≠ 0 := fun e => h4 ((zbx _ _).1 e)
          omega
        rw [zaB hz] at hy
        rcases List.mem_cons.1 hy with e | e
        · rw [e]; exact hzx
        · have hs : NSrt (out.take k ++ out.drop k) := by rw [List.take_append_drop]; exact h.ns
          have h5 := (List.pairwise_append.1 hs).2.1
          rw [zaB hz] at h5
          have h6 := (List.pairwise_cons.1 h5).1 y e
          exact (cmpS_tr x.n z.n y.n).lt1 hzx (by omega)
  · refine (insAt_perm out k x).trans ?_
    rw [zas hx]
    exact List.Perm.append_right [x] h.pm
  · intro y hy
    rcases List.mem_append.1 ((insAt_perm out k x).mem_iff.1 hy) with e | e
    · exact h.ok y e
    · rw [List.mem_singleton.1 e]; exact hok
/-- tidy: few, each may be, and names all different -/
theorem tidyOk_of {l m : List Lbl} (hl : l.length ≤ 8) (hs : NSrt m) (hp : m.Perm l) (hok : ∀ x ∈ m, okL x = true) : zY l = true ∧ zw zA l = m := by
  have e := strict_isort zbC hs.strict hp
  refine ⟨?_, e⟩
  have key : ∀ (r : List Lbl) (p : Option ByteArray), NSrt r → (∀ x ∈ r, okL x = true) → (∀ n, p = some n → ∀ x ∈ r, cmpS n x.n < 0) → zbG p r = true := by
    intro r
    induction r with
    | nil => intro _ _ _ _; rfl
    | cons x r ih =>
      intro p h1 h2 h3
      have h1' := List.pairwise_cons.1 h1
      unfold zbG
      rw [h2 x List.mem_cons_self, ih (some x.n) h1'.2 (fun y hy => h2 y (List.mem_cons_of_mem _ hy)) (fun n hn y hy => by injection hn with hn; rw [← hn]; exact h1'.1 y hy)]
      have : ¬ p = some x.n := fun hp => by have := h3 x.n hp x List.mem_cons_self; have e0 := (zbx x.n x.n).2 rfl; omega
      simp [this]
  unfold zY zcy zbo
  rw [e]
  simp only [zcT, List.drop_zero, Bool.and_eq_true, decide_eq_true_eq]
  exact ⟨hl, key m none hs hok (fun _ h => by cases h)⟩
theorem RT.done {l out : List Lbl} {i : Nat} (h : RT l i out) (hi : l.length ≤ i) (hl : l.length ≤ 8) : out = zE l ∧ true = zY l := by
  have hp := h.pm
  rw [List.take_of_length_le hi] at hp
  obtain ⟨e1, e2⟩ := tidyOk_of hl h.ns hp h.ok
  unfold zE; rw [e1, e2]; exact ⟨rfl, rfl⟩
theorem tidyL_no {l : List Lbl} (h : zY l = false) : [] = zE l ∧ false = zY l := by unfold zE; rw [h]; exact ⟨rfl, rfl⟩
theorem tidyOk_mem {l : List Lbl} (h : zY l = true) {x : Lbl} (hx : x ∈ l) : okL x = true := by
  have e : zaG l = 0 := by unfold zaG; rw [h]; rfl
  have hm : x ∈ zE l := by unfold zE; rw [h]; exact ((zak zbC _ l rfl).mem zbC x).2 hx
  exact (tidy_n e).2 x hm
theorem RT.bad1 {l : List Lbl} {i : Nat} {x : Lbl} (hx : l[i]? = some x) (h : okL x = false) : [] = zE l ∧ false = zY l := tidyL_no (by
  rcases e : zY l with _ | _
  · rfl
  · have := tidyOk_mem e (zay hx); rw [h] at this; cases this)
theorem RT.long {l : List Lbl} (h : (8 : Int) < ((l.length : Nat) : Int)) : [] = zE l ∧ false = zY l := tidyL_no (by
  have : ¬ l.length ≤ 8 := by omega
  simp [zY, this])
theorem RT.bad2 {l out : List Lbl} {i k : Nat} {x y : Lbl} (h : RT l i out) (hx : l[i]? = some x) (hy : out[k]? = some y) (e : y.n = x.n) : [] = zE l ∧ false = zY l := tidyL_no (by
  rcases ek : zY l with _ | _
  · rfl
  · exfalso
    have e0 : zaG l = 0 := by unfold zaG; rw [ek]; rfl
    have eT : zE l = zw zA l := by unfold zE; rw [ek]; rfl
    have hn := (tidy_n e0).1
    rw [eT] at hn
    have hp := isort_prm (c := zA) l
    -- the two stand at different places of l
    have hl : l = l.take i ++ (x :: l.drop (i + 1)) := by rw [← zaB hx, List.take_append_drop]
    have hyt : y ∈ l.take i := h.pm.mem_iff.1 (zay hy)
    have hnd : (l.map (·.n)).Nodup := by
      have h1 : ((zw zA l).map (·.n)).Nodup := by
        rw [List.Nodup, List.pairwise_map]
        exact List.Pairwise.imp (fun {a b} hab e => by have := (zbx a.n b.n).2 e; omega) hn
      exact (hp.map (·.n)).nodup_iff.1 h1
    rw [hl, List.map_append, List.nodup_append] at hnd
    exact hnd.2.2 y.n (List.mem_map.2 ⟨y, hyt, rfl⟩) x.n (by simp) e)

/-! ### rows -/
def cL (a b : RowD) : Int := zK a.ls b.ls
theorem zcX : Cmp cL := ⟨fun a b => zcn _ _, fun a b d => zcm _ _ _⟩
def ordB (l : List RowD) : Bool := decide ((zw cL l).Pairwise (fun a b => cL a b < 0))
def ordL (l : List RowD) : List RowD := bif ordB l then zw cL l else []
def ordE (l : List RowD) : Int := bif ordB l then 0 else 6
structure RO (l : List RowD) (i : Nat) (out : List RowD) : Prop where
  st : zax cL out
  pm : out.Perm (l.take i)
theorem RO.zero (l : List RowD) : RO l 0 [] := ⟨List.Pairwise.nil, by simp⟩
theorem RO.len {l out : List RowD} {i : Nat} (h : RO l i out) (hi : i ≤ l.length) : out.length = i := by rw [h.pm.length_eq, List.length_take]; omega
theorem RO.next {l out : List RowD} {i k : Nat} {x : RowD} (h : RO l i out) (hx : l[i]? = some x) (h1 : ∀ j y, k ≤ j → out[j]? = some y → 0 < zK y.ls x.ls) (h2 : k = 0 ∨ ∃ y, out[k - 1]? = some y ∧ ¬ 0 < zK y.ls x.ls ∧ ¬ zK y.ls x.ls = 0) (hk : k ≤ out.length) : RO l (i + 1) (zdk out k x) := by
  refine ⟨insAt_strict h.st (fun y hy => ?_) (fun y hy => ?_), ?_⟩
  · rcases h2 with e | ⟨z, hz, h3, h4⟩
    · rw [e] at hy; cases hy
    · have hzx : cL z x < 0 := by unfold cL; omega
      have hk0 : 0 < k := by
        rcases Nat.eq_zero_or_pos k with e | e
        · subst e; simp at hy
        · exact e
      have e1 : out.take k = out.take (k - 1) ++ [z] := by rw [← zas hz]; congr 1; omega
      rw [e1] at hy
      rcases List.mem_append.1 hy with e | e
      · have hs : zax cL (out.take (k - 1) ++ out.drop (k - 1)) := by rw [List.take_append_drop]; exact h.st
        have h5 := (List.pairwise_append.1 hs).2.2 y e z (by rw [zaB hz]; exact List.mem_cons_self)
        exact (zcX.tr y z x).lt1 h5 (by omega)
      · rw [List.mem_singleton.1 e]; exact hzx
  · obtain ⟨j, hj⟩ := List.mem_iff_getElem?.1 hy
    rw [List.getElem?_drop] at hj
    have := h1 (k + j) y (by omega) hj
    have e := zcX.neg y x
    unfold cL at *; omega
  · refine (insAt_perm out k x).trans ?_
    rw [zas hx]
    exact List.Perm.append_right [x] h.pm
theorem RO.done {l out : List RowD} {i : Nat} (h : RO l i out) (hi : l.length ≤ i) : out = ordL l ∧ 0 = ordE l := by
  have hp := h.pm
  rw [List.take_of_length_le hi] at hp
  have e := strict_isort zcX h.st hp
  have hb : ordB l = true := by unfold ordB; rw [e]; exact decide_eq_true h.st
  unfold ordL ordE; rw [hb, e]; exact ⟨rfl, rfl⟩
theorem ord_no {l : List RowD} (h : ordB l = false) : [] = ordL l ∧ 6 = ordE l := by unfold ordL ordE; rw [h]; exact ⟨rfl, rfl⟩
theorem RO.bad {l out : List RowD} {i k : Nat} {x y : RowD} (h : RO l i out) (hx : l[i]? = some x) (hy : out[k]? = some y) (e : zK y.ls x.ls = 0) : [] = ordL l ∧ 6 = ordE l := ord_no (by
  rcases ek : ordB l with _ | _
  · rfl
  · exfalso
    have hst : zax cL (zw cL l) := by unfold zax; unfold ordB at ek; exact of_decide_eq_true ek
    have hp := isort_prm (c := cL) l
    have hl : l = l.take i ++ (x :: l.drop (i + 1)) := by rw [← zaB hx, List.take_append_drop]
    have hyt : y ∈ l.take i := h.pm.mem_iff.1 (zay hy)
    have hnd : (l.map (·.ls)).Nodup := by
      have h1 : ((zw cL l).map (·.ls)).Nodup := by
        rw [List.Nodup, List.pairwise_map]
        exact List.Pairwise.imp (fun {a b} hab e => by unfold cL at hab; rw [e, cmpLs_self] at hab; omega) hst
      exact (hp.map (·.ls)).nodup_iff.1 h1
    rw [hl, List.map_append, List.nodup_append] at hnd
    exact hnd.2.2 y.ls (List.mem_map.2 ⟨y, hyt, rfl⟩) x.ls (by simp) (zcL.1 e))
def valB (v : Int) : Bool := decide (-1000000000000 ≤ v) && decide (v ≤ 1000000000000)
def zaI (l : List Lbl) : Bool := zY l && decide (zK (zE l) l = 0)
def zbe (l : List RowD) : Bool := l.all (fun r => zaI r.ls && valB r.v)
def rtL (l : List RowD) : List RowD := bif decide (l.length ≤ 2000) && zbe l then ordL l else []
def rtE (l : List RowD) : Int := bif decide (l.length ≤ 2000) && zbe l then ordE l else 1
theorem zb6 {l : List RowD} (h : (2000 : Int) < ((l.length : Nat) : Int)) : [] = rtL l ∧ 1 = rtE l := by
  have : ¬ l.length ≤ 2000 := by omega
  unfold rtL rtE; rw [decide_eq_false this]; exact ⟨rfl, rfl⟩
theorem zcr {l : List RowD} {i : Nat} {x : RowD} (hx : l[i]? = some x) (h : (zaI x.ls && valB x.v) = false) : [] = rtL l ∧ 1 = rtE l := by
  have : zbe l = false := by unfold zbe; rw [List.all_eq_false]; exact ⟨x, zay hx, by rw [h]; simp⟩
  unfold rtL rtE; rw [this, Bool.and_false]; exact ⟨rfl, rfl⟩
theorem zdb {l : List RowD} (h1 : ¬ (2000 : Int) < ((l.length : Nat) : Int)) (h2 : zbe l = true) : ordL l = rtL l ∧ ordE l = rtE l := by
  have : l.length ≤ 2000 := by omega
  unfold rtL rtE; rw [decide_eq_true this, h2]; exact ⟨rfl, rfl⟩
theorem rt_strict {l : List RowD} (h : rtE l = 0) : zax cL (rtL l) ∧ (rtL l).Perm l := by
  unfold rtE rtL at *
  cases hb : decide (l.length ≤ 2000) && zbe l
  · rw [hb] at h; cases h
  · rw [hb] at h
    unfold ordE at h
    simp only [cond_true] at h ⊢
    cases ho : ordB l
    · rw [ho] at h; cases h
    · unfold ordL; rw [ho]
      have hst : zax cL (zw cL l) := by unfold zax; unfold ordB at ho; exact of_decide_eq_true ho
      exact ⟨hst, isort_prm l⟩
/-- one more row, if it may be -/
def za3 (out : List RowD) (r : RowD) : List RowD :=
  if zY r.ls = true ∧ valB r.v = true ∧ rtE (out ++ [⟨zE r.ls, r.v⟩]) = 0 then rtL (out ++ [⟨zE r.ls, r.v⟩]) else out
def z8 (l : List RowD) : List RowD := l.foldl za3 []
theorem tidyRs_snoc {l : List RowD} {k : Nat} {x : RowD} (h : l[k]? = some x) : z8 (l.take (k + 1)) = za3 (z8 (l.take k)) x := by
  rw [zas h]; unfold z8; rw [List.foldl_append]; rfl
structure TRs (l out : List RowD) : Prop where
  st : zax cL out
  li : ∀ r ∈ out, zar r.ls = true
  len : out.length ≤ l.length
theorem tidyL_light {l : List Lbl} (h : zar l = true) : zar (zE l) = true := by
  have h1 := tidyL_len l
  have h2 := lightL_len h
  have hm : ∀ x ∈ zE l, x.n.size ≤ 200 ∧ x.v.size ≤ 200 := fun x hx => light_sizes h x (tidyL_mem hx)
  unfold zar
  rw [Bool.and_eq_true, List.all_eq_true]
  exact ⟨fun x hx => by have := hm x (List.mem_of_mem_take hx); simp [this], by rw [decide_eq_true_eq]; omega⟩
theorem zbZ : ∀ {l : List RowD}, (∀ r ∈ l, zar r.ls = true) → TRs l (z8 l) := by
  intro l hl
  have key : ∀ (m out : List RowD) (n : Nat), (∀ r ∈ m, zar r.ls = true) → zax cL out → (∀ r ∈ out, zar r.ls = true) → out.length ≤ n → zax cL (m.foldl za3 out) ∧ (∀ r ∈ m.foldl za3 out, zar r.ls = true) ∧ (m.foldl za3 out).length ≤ n + m.length := by
    intro m
    induction m with
    | nil => intro out n _ h1 h2 h3; exact ⟨h1, h2, by simpa using h3⟩
    | cons x m ih =>
      intro out n hm h1 h2 h3
      have hx := hm x List.mem_cons_self
      have hm' : ∀ r ∈ m, zar r.ls = true := fun r hr => hm r (List.mem_cons_of_mem _ hr)
      have step : zax cL (za3 out x) ∧ (∀ r ∈ za3 out x, zar r.ls = true) ∧ (za3 out x).length ≤ n + 1 := by
        unfold za3
        split
        · rename_i hc
          obtain ⟨s1, s2⟩ := rt_strict hc.2.2
          refine ⟨s1, fun r hr => ?_, by rw [s2.length_eq]; simp; omega⟩
          rcases List.mem_append.1 (s2.mem_iff.1 hr) with e | e
          · exact h2 r e
          · rw [List.mem_singleton.1 e]; exact tidyL_light hx
        · exact ⟨h1, h2, by omega⟩
      have := ih (za3 out x) (n + 1) hm' step.1 step.2.1 step.2.2
      refine ⟨this.1, this.2.1, ?_⟩
      have := this.2.2; simp only [List.foldl_cons, List.length_cons]; omega
  have := key l [] 0 hl List.Pairwise.nil (fun _ h => by cases h) (Nat.le_refl _)
  exact ⟨this.1, this.2.1, by have := this.2.2; unfold z8; omega⟩
theorem rowsB_snoc {l : List RowD} {k : Nat} {x : RowD} (hx : l[k]? = some x) (h : zbe (l.take k) = true) (hr : zaI x.ls = true) (hv : valB x.v = true) : zbe (l.take (k + 1)) = true := by
  unfold zbe at *; exact zbl hx h (by simp [hr, hv])
theorem light_nz {l : List Lbl} (h : zar l = true) : ∀ x ∈ l, x.n.size ≤ 1000000 := fun x hx => by have := light_sizes h x hx; omega
theorem trStep_no {out : List RowD} {r : RowD} (h : zY r.ls = false ∨ valB r.v = false) : za3 out r = out := by
  unfold za3; rw [if_neg]; rintro ⟨h1, h2, _⟩; rcases h with h | h
  · rw [h] at h1; cases h1
  · rw [h] at h2; cases h2
theorem trStep_t {out : List RowD} {r : RowD} (h1 : zY r.ls = true) (h2 : valB r.v = true) (h3 : rtE (out ++ [⟨zE r.ls, r.v⟩]) = 0) : za3 out r = rtL (out ++ [⟨zE r.ls, r.v⟩]) := by unfold za3; rw [if_pos ⟨h1, h2, h3⟩]
theorem trStep_f {out : List RowD} {r : RowD} (h3 : ¬ rtE (out ++ [⟨zE r.ls, r.v⟩]) = 0) : za3 out r = out := by unfold za3; rw [if_neg (fun h => h3 h.2.2)]
theorem trs_take {l : List RowD} (h : ∀ r ∈ l, zar r.ls = true) (k : Nat) : TRs (l.take k) (z8 (l.take k)) := zbZ (fun r hr => h r (List.mem_of_mem_take hr))
end Lp
/-
  Vectors (chapter 10): rows under labels, and what is reckoned with them, as plain data.
-/
set_option linter.unusedVariables false
namespace Lp
open Go
theorem tidyOk_E (l : List Lbl) : decide (zaG l = 0) = zY l := by
  unfold zaG; cases zY l <;> rfl
theorem rightB_eq (l : List Lbl) : (decide (zaG l = 0) && decide (zK (zE l) l = 0)) = zaI l := by
  unfold zaI; rw [tidyOk_E]
def zaX (r : RowD) : Bool := zaI r.ls && zan r.v
theorem rowsB_ok (l : List RowD) : zbe l = l.all zaX := rfl
theorem okRow_len {r : RowD} (h : zaX r = true) : r.ls.length ≤ 8 := by
  unfold zaX zaI at h
  simp only [Bool.and_eq_true] at h
  exact tidy_ok_len h.1.1
def zcS (l : List RowD) : Nat → Option RowD
  | 0 => none
  | k + 1 => l[k]?
def ltP (p : Option RowD) (x : RowD) : Bool := match p with
  | none => true
  | some q => decide (cL q x < 0)
def ascB : Option RowD → List RowD → Bool
  | _, [] => true
  | p, r :: l => zaX r && (ltP p r && ascB (some r) l)
def zbj (l : List RowD) (k : Nat) : Bool := ascB (zcS l k) (l.drop k)
def zV (l : List RowD) : Bool := decide (l.length ≤ 2000) && zbj l 0
theorem ascAt_next {l : List RowD} {k : Nat} {x : RowD} (h : l[k]? = some x) : zbj l k = (zaX x && (ltP (zcS l k) x && zbj l (k + 1))) := by
  unfold zbj
  rw [drop_at h]
  show (zaX x && (ltP (zcS l k) x && ascB (some x) (l.drop (k + 1)))) = _
  rw [show zcS l (k + 1) = some x from h]
theorem ascAt_end {l : List RowD} {k : Nat} (h : l.length ≤ k) : zbj l k = true := by
  unfold zbj; rw [List.drop_eq_nil_iff.2 h]; rfl
theorem prevR_pos {l : List RowD} {k : Nat} {y : RowD} (h : (0 : Int) < ((k : Nat) : Int)) (hy : l[k - 1]? = some y) : zcS l k = some y := by
  cases k with
  | zero => simp at h
  | succ k => simpa [zcS] using hy
theorem prevR_zero {l : List RowD} {k : Nat} (h : ¬ (0 : Int) < ((k : Nat) : Int)) : zcS l k = none := by
  have : k = 0 := by omega
  subst this; rfl
section
variable {l : List RowD} {k : Nat} {x : RowD}
theorem vr_long (h : (2000 : Int) < ((l.length : Nat) : Int)) : false = zV l := by
  have : ¬ l.length ≤ 2000 := by omega
  simp [zV, this]
theorem vr_bad1 (hk : zbj l 0 = zbj l k) (hx : l[k]? = some x) (h : zaX x = false) : false = zV l := by simp [zV, hk, ascAt_next hx, h]
theorem vr_bad2 (hk : zbj l 0 = zbj l k) (hx : l[k]? = some x) {y : RowD} (h : zcS l k = some y) (hn : 0 ≤ zK y.ls x.ls) : false = zV l := by
  have : ¬ cL y x < 0 := by unfold cL; omega
  simp [zV, hk, ascAt_next hx, h, ltP, this]
theorem vr_good (hk : zbj l 0 = zbj l k) (hx : l.length ≤ k) (h : ¬ (2000 : Int) < ((l.length : Nat) : Int)) : true = zV l := by
  have : l.length ≤ 2000 := by omega
  simp [zV, hk, ascAt_end hx, this]
theorem vr_step0 (hk : zbj l 0 = zbj l k) (hx : l[k]? = some x) (h : zaX x = true) (hp : zcS l k = none) : zbj l 0 = zbj l (k + 1) := by rw [hk, ascAt_next hx, h, hp]; rfl
theorem vr_step (hk : zbj l 0 = zbj l k) (hx : l[k]? = some x) (h : zaX x = true) {y : RowD} (hp : zcS l k = some y) (hn : ¬ 0 ≤ zK y.ls x.ls) : zbj l 0 = zbj l (k + 1) := by
  have : cL y x < 0 := by unfold cL; omega
  rw [hk, ascAt_next hx, h, hp]; simp [ltP, this]
end
theorem ascB_iff : ∀ (l : List RowD) (p : Option RowD), ascB p l = true ↔ (∀ r ∈ l, zaX r = true) ∧ zax cL l ∧ (∀ q, p = some q → ∀ r ∈ l, cL q r < 0)
  | [], p => by
    constructor
    · intro _; exact ⟨fun _ h => (by cases h), List.Pairwise.nil, fun _ _ _ h => (by cases h)⟩
    · intro _; rfl
  | r :: l, p => by
    show (zaX r && (ltP p r && ascB (some r) l)) = true ↔ _
    rw [Bool.and_eq_true, Bool.and_eq_true, ascB_iff l (some r)]
    constructor
    · rintro ⟨h1, h2, h3, h4, h5⟩
      refine ⟨fun y hy => ?_, List.pairwise_cons.2 ⟨fun y hy => h5 r rfl y hy, h4⟩, fun q hq y hy => ?_⟩
      · rcases List.mem_cons.1 hy with e | e
        · rw [e]; exact h1
        · exact h3 y e
      · subst hq
        have hqr : cL q r < 0 := of_decide_eq_true h2
        rcases List.mem_cons.1 hy with e | e
        · rw [e]; exact hqr
        · exact (zcX.tr q r y).lt1 hqr (by have := h5 r rfl y e; omega)
    · rintro ⟨h1, h2, h3⟩
      have h2' := List.pairwise_cons.1 h2
      refine ⟨h1 r List.mem_cons_self, ?_, fun y hy => h1 y (List.mem_cons_of_mem _ hy), h2'.2, fun q hq y hy => by injection hq with hq; subst hq; exact h2'.1 y hy⟩
      cases p with
      | none => rfl
      | some q => exact decide_eq_true (h3 q rfl r List.mem_cons_self)
theorem zaS {l : List RowD} : zV l = true ↔ l.length ≤ 2000 ∧ zbe l = true ∧ zax cL l := by
  unfold zV
  rw [Bool.and_eq_true, decide_eq_true_eq, rowsB_ok, List.all_eq_true]
  show _ ∧ ascB none l = true ↔ _
  rw [ascB_iff]
  constructor
  · rintro ⟨h1, h2, h3, _⟩; exact ⟨h1, h2, h3⟩
  · rintro ⟨h1, h2, h3⟩; exact ⟨h1, h2, h3, fun _ h => (by cases h)⟩

/-! ### tidy -/
theorem cmpRow0 : zD 0 = cL := by funext a b; rfl
/-- how far the look for twins has come -/
def zcs (s : List RowD) (i : Nat) : Prop := ∀ j x y, j + 1 < i → s[j]? = some x → s[j + 1]? = some y → cL x y ≠ 0
theorem zcs.one (s : List RowD) : zcs s 1 := fun j x y h => by omega
theorem zcs.next {s : List RowD} {i : Nat} {x y : RowD} (h : zcs s i) (hi : 1 ≤ i) (hx : s[i - 1]? = some x) (hy : s[i]? = some y) (hn : ¬ zK x.ls y.ls = 0) : zcs s (i + 1) := fun j a b hj ha hb => by
  rcases Nat.lt_or_ge (j + 1) i with e | e
  · exact h j a b e ha hb
  · have : j + 1 = i := by omega
    subst this
    simp only [Nat.add_sub_cancel] at hx
    rw [ha] at hx; rw [hb] at hy; injection hx with hx; injection hy with hy; subst hx; subst hy; exact hn
theorem strict_of {s : List RowD} (h : Srt cL s) (hn : zcs s s.length) : zax cL s := by
  induction s with
  | nil => exact List.Pairwise.nil
  | cons x r ih =>
    have h' := List.pairwise_cons.1 h
    have hr : zax cL r := ih h'.2 (fun j a b hj ha hb => hn (j + 1) a b (by simp; omega) (by simpa using ha) (by simpa using hb))
    refine List.pairwise_cons.2 ⟨fun y hy => ?_, hr⟩
    cases r with
    | nil => cases hy
    | cons z r =>
      have e1 : cL x z ≤ 0 := h'.1 z List.mem_cons_self
      have e2 : cL x z ≠ 0 := hn 0 x z (by simp) rfl rfl
      rcases List.mem_cons.1 hy with e | e
      · rw [e]; omega
      · exact (zcX.tr x z y).lt1 (by omega) (by have := (List.pairwise_cons.1 hr).1 y e; omega)
section
variable {l : List RowD} {i : Nat} {x y : RowD}
theorem td_rows {n : Nat} (h : zbe (l.take n) = true) (hn : l.length ≤ n) : zbe l = true := by rwa [List.take_of_length_le hn] at h
theorem td_twin (h1 : ¬ (2000 : Int) < ((l.length : Nat) : Int)) (h2 : zbe l = true) (hi : 1 ≤ i) (hx : (zw (zD 0) l)[i - 1]? = some x) (hy : (zw (zD 0) l)[i]? = some y) (e : zK x.ls y.ls = 0) : [] = rtL l ∧ 6 = rtE l := by
  have hb : ordB l = false := by
    rcases ek : ordB l with _ | _
    · rfl
    · exfalso
      have hst : (zw cL l).Pairwise (fun a b => cL a b < 0) := by unfold ordB at ek; exact of_decide_eq_true ek
      rw [← cmpRow0] at hst
      obtain ⟨p1, q1⟩ := List.getElem?_eq_some_iff.1 hx
      obtain ⟨p2, q2⟩ := List.getElem?_eq_some_iff.1 hy
      have := List.pairwise_iff_getElem.1 hst (i - 1) i p1 p2 (by omega)
      rw [q1, q2] at this
      have e' : zD 0 x y = zK x.ls y.ls := rfl
      omega
  obtain ⟨a, b⟩ := zdb h1 h2
  obtain ⟨c, d⟩ := ord_no hb
  exact ⟨c.trans a, d.trans b⟩
theorem td_good (h1 : ¬ (2000 : Int) < ((l.length : Nat) : Int)) (h2 : zbe l = true) (hn : zcs (zw (zD 0) l) i) (hi : (zw (zD 0) l).length ≤ i) : zw (zD 0) l = rtL l ∧ 0 = rtE l := by
  have hst : zax cL (zw cL l) := by
    rw [cmpRow0] at hn hi
    exact strict_of (zak zcX _ l rfl).srt (fun j a b hj ha hb => hn j a b (by omega) ha hb)
  have hb : ordB l = true := by unfold ordB; exact decide_eq_true hst
  obtain ⟨a, b⟩ := zdb h1 h2
  rw [← a, ← b]
  unfold ordL ordE; rw [hb, cmpRow0]; exact ⟨rfl, rfl⟩
end
theorem rowsB_snoc' {l : List RowD} {k : Nat} {x : RowD} (hx : l[k]? = some x) (h : zbe (l.take k) = true) (hr : zaX x = true) : zbe (l.take (k + 1)) = true := by
  rw [rowsB_ok] at *; exact zbl hx h hr
theorem rt_bad' {l : List RowD} {i : Nat} {x : RowD} (hx : l[i]? = some x) (h : zaX x = false) : [] = rtL l ∧ 1 = rtE l := zcr hx h

/-! ### keys, ops -/
def metB : ByteArray := ⟨#[109, 101, 116, 114, 105, 99]⟩
def keyL (mode : Int) (ns : List ByteArray) (l : List Lbl) : List Lbl :=
  if mode = 1 then za1 l ns true else if mode = 2 then za1 (za1 l ns false) [metB] false else za1 l [metB] false
theorem pickL_mem {l : List Lbl} {ns : List ByteArray} {w : Bool} {x : Lbl} (h : x ∈ za1 l ns w) : x ∈ l := (List.mem_filter.1 h).1
section
variable {f : RowD → Int × Int} {l : List RowD} {k : Nat} {x : RowD}
end
section
variable {op : ByteArray} {v : Int} {left : Bool} {l : List RowD} {k : Nat} {x : RowD}
end
/-! ### rows that have the same key -/
def keyT (mode : Int) (ns : List ByteArray) (r : RowD) : ByteArray := textB (keyL mode ns r.ls)
def keyTs (mode : Int) (ns : List ByteArray) (l : List RowD) : List ByteArray := l.map (keyT mode ns)
def ndT (mode : Int) (ns : List ByteArray) (l : List RowD) : Prop := (keyTs mode ns l).Nodup
instance (mode : Int) (ns : List ByteArray) (l : List RowD) : Decidable (ndT mode ns l) := inferInstanceAs (Decidable (List.Nodup _))
section
variable {op : ByteArray} {mode : Int} {ns : List ByteArray} {a b : List RowD} {k : Nat} {x : RowD}
end
end Lp
/- Walks, printed by a program of mine. -/
set_option linter.unusedSimpArgs false
set_option linter.unusedVariables false
set_option maxHeartbeats 4000000
set_option maxRecDepth 100000
namespace Lp
open Go Go.RowKit Go.Proofs

namespace HdYtfjinapgehafiaaGreatV62
theorem zcp : ∀ w, ((#[⟨"Labels", 50, 0, false, "", "", 0⟩, ⟨"V", 3, 1, false, "", "", 24⟩] : Array Field).mapM fun f => do pure (f.offset, ← Go.sizeOf f.type) : Sem (Array (Nat × Nat))).run Tryz.prog w = .ok ([(0, 1), (1, 1)] : List (Nat × Nat)).toArray w := fun _ => by kernel_rfl
theorem z2 (b o : Nat) : ∀ w, (Instr.fieldAt 53 (.pointer (some ⟨b, o, none⟩)) 0).run Tryz.prog w = .ok (.pointer (some ⟨b, o + 0, none⟩)) w := fun _ => by kernel_rfl
theorem zab (b o : Nat) : ∀ w, (Instr.fieldAt 53 (.pointer (some ⟨b, o, none⟩)) 1).run Tryz.prog w = .ok (.pointer (some ⟨b, o + 1, none⟩)) w := fun _ => by kernel_rfl
theorem zaE : ∃ i, Tryz.prog.info? 53 = some i ∧ i.zero = some (.agg #[(.slice none 0 0), (.int .i64 0)]) ∧ i.size = 2 ∧ i.bytes = 32 := za5 (by kernel_rfl)
theorem za2 : Tryz.prog.underlying 22 = some (.slice 53) := by kernel_rfl
end HdYtfjinapgehafiaaGreatV62
open HdYtfjinapgehafiaaGreatV62

theorem vorder_c (a : RowD) (b : RowD)  :
    CD Tryz.prog 42 [] [RowD.d a, RowD.d b] (isR (dI (zK a.ls b.ls))) := by
  refine zn Tryz.func42 rfl (N := 10) rfl rfl (fun C => ?_)
  refine jk [0, 1] rfl ?_
  refine JD.bd 0 rfl (fun bd0 => ?_)
  refine JD.bd 1 rfl (fun bd1 => ?_)
  refine jT rfl (oE rfl (zbp rfl (CellD.agg)) ?_)
  rintro _ _ ⟨g1, rfl, rfl⟩
  refine oE rfl (zbp rfl (CellD.agg)) ?_
  rintro _ _ ⟨g2, rfl, rfl⟩
  refine oR 1 rfl (oZ rfl (jT rfl (oP rfl (zo rfl z2 rfl) (oP rfl (zI rfl (i := 1) rfl Tryz.isAgg50 rfl) (oP rfl (zo rfl z2 rfl) (oP rfl (zI rfl (i := 0) rfl Tryz.isAgg50 rfl) (oW rfl rfl acs Tryz.call106 (zb4 a.ls b.ls) (oR 1 rfl (oZ rfl (jk [4] rfl (zl rfl ?_)))))))))))
  exact zj Tryz.results42 (.cons (zh rfl) .nil) rfl HSub.none ⟨rfl, rfl⟩

theorem single_c (r : RowD)  :
    CD Tryz.prog 39 [] [RowD.d r] (isR (dB (zaX r))) := by
  refine zn Tryz.func39 rfl (N := 11) rfl rfl (fun C => ?_)
  refine jk [0] rfl ?_
  refine JD.bd 0 rfl (fun bd0 => ?_)
  refine jT rfl (oE rfl (zbp rfl (CellD.agg)) ?_)
  rintro _ _ ⟨g1, rfl, rfl⟩
  refine oR 1 rfl (oZ rfl (jS rfl (jk [1] rfl ?_)))
  refine zao 2 (((decide (zaG r.ls = 0) && decide (zK (zE r.ls) r.ls = 0)) && zan r.v)) [.bx g1 53 (RowD.d r)] (fun _ hQ2 => ?_) ?_
  · skip
    rcases Bool.eq_false_or_eq_true ((decide (zaG r.ls = 0) && decide (zK (zE r.ls) r.ls = 0))) with hg3 | hg3
    · skip
      refine za rfl (oP rfl (zo rfl z2 rfl) (oP rfl (zI rfl (i := 0) rfl Tryz.isAgg50 rfl) (oW rfl rfl acs Tryz.call111 (right_c r.ls) (os 5 rfl (congrArg (fun b => D.v (.bool b)) hg3) (oR 1 rfl (oG rfl (zo rfl zab rfl) (oG rfl (zI rfl (i := 0) rfl Tryz.isAgg3 rfl) (oV rfl rfl acs Tryz.call44 (fRight_c r.v) (oR 2 rfl (zi rfl ?_))))))))))
      exact PD.sub ((2, dB ((decide (zaG r.ls = 0) && decide (zK (zE r.ls) r.ls = 0)) && zan r.v)) :: [(1, dP g1 0)]) ⟨sc rfl (Cv.eq (congrArg (fun b => D.v (.bool b)) (by first | (simp [hg3]; done) | (simp_all; done)))), sk rfl, trivial⟩ hQ2
    · skip
      refine za rfl (oP rfl (zo rfl z2 rfl) (oP rfl (zI rfl (i := 0) rfl Tryz.isAgg50 rfl) (oW rfl rfl acs Tryz.call111 (right_c r.ls) (os 5 rfl (congrArg (fun b => D.v (.bool b)) hg3) (oR 6 rfl (zi rfl ?_))))))
      exact PD.sub ((2, dB ((decide (zaG r.ls = 0) && decide (zK (zE r.ls) r.ls = 0)) && zan r.v)) :: [(1, dP g1 0)]) ⟨sc rfl (Cv.eq (congrArg (fun b => D.v (.bool b)) (by first | (simp [hg3]; done) | (simp_all; done)))), sk rfl, trivial⟩ hQ2
  · skip
    refine zc (zl rfl ?_)
    exact zj Tryz.results39 (.cons (zr (zh rfl) (Cv.eq (congrArg (fun b => D.v (.bool b)) (by unfold zaX; rw [rightB_eq])))) .nil) rfl HSub.none ⟨rfl, rfl⟩

theorem vown_c (r : RowD) (hl : r.ls.length ≤ 1000000) :
    CD Tryz.prog 40 [] [RowD.d r] (isR (RowD.d r)) := by
  refine zn Tryz.func40 rfl (N := 9) rfl rfl (fun C => ?_)
  refine jk [0] rfl ?_
  refine JD.bd 0 rfl (fun bd0 => ?_)
  refine jT rfl (oE rfl (zbp rfl (CellD.agg)) ?_)
  rintro _ _ ⟨g1, rfl, rfl⟩
  refine oE rfl (zav (zv := (.agg #[(.slice none 0 0), (.int .i64 0)])) Tryz.zeroValue53 ⟨rfl, rfl, trivial⟩ (Cv.vagg (by decide))) ?_
  rintro _ _ ⟨g2, rfl, rfl⟩
  refine oZ rfl (jS rfl (jk [0, 1, 2] rfl (jn rfl (zX 5 [(3, dP g1 0, none), (4, .sh 2 (r.ls.map Lbl.d), none), (5, .sh 2 (r.ls.map Lbl.d), none), (6, dP g1 1, none), (7, dI r.v, none)] [.bx g2 53 (.agg [dZ, dI 0]), .bx g1 53 (RowD.d r)] (Hn := [.bx g2 53 (.agg [dZ, dI 0]), .bx g1 53 (RowD.d r)]) mixed rfl rfl rfl rfl HSub.rfl' rfl ⟨sa_p rfl rfl rfl (zo rfl z2 rfl), sa_p rfl rfl rfl (zI rfl (i := 1) rfl Tryz.isAgg50 rfl), sa_q rfl rfl rfl (zaK rfl (.cons Cv.rfl' .nil) Tryz.call108 (cloneL_c r.ls (by omega)) zbg), sa_p rfl rfl rfl (zo rfl zab rfl), sa_p rfl rfl rfl (zI rfl (i := 1) rfl Tryz.isAgg3 rfl), trivial⟩ (ok [0, 1, 2, 3, 4, 5, 6, 7] rfl (oP rfl (zaV [0, 1] [.tmp 5, .tmp 7] (zv := (.agg #[(.slice none 0 0), (.int .i64 0)])) rfl rfl (.cons CellD.sh (.cons (CellD.v rfl) .nil)) (Tryz.runUnderlying53) Tryz.zeroValue53 zcp ⟨rfl, rfl, trivial⟩ rfl) (oE rfl (zZ (i := 0) (X' := .agg [.sh 2 (r.ls.map Lbl.d), dI r.v]) rfl rfl rfl (CellD.agg) Tryz.sizeOf53 rfl rfl rfl) ?_)))))))
  rintro _ _ ⟨rfl, rfl⟩
  refine on rfl (oZ rfl (zl rfl ?_))
  exact zj Tryz.results40 (.cons (ro_cell (i := 0) rfl rfl Tryz.isAgg53 Tryz.sizeOf53 rfl rfl) .nil) rfl HSub.none ⟨rfl, rfl⟩

theorem key_c (mode : Int) (names : List ByteArray) (l : List Lbl) (hl : l.length ≤ 1000000) :
    CD Tryz.prog 24 [] [dI mode, .sh 1 (names.map D.s), .sh 2 (l.map Lbl.d)] (zcv 2 62 ((keyL mode names l).map Lbl.d)) := by
  refine zn Tryz.func24 rfl (N := 23) rfl rfl (fun C => ?_)
  refine jk [0, 1, 2] rfl ?_
  refine JD.bd 1 rfl (fun bd1 => ?_)
  have nl1 := zQ bd1
  refine JD.bd 2 rfl (fun bd2 => ?_)
  have nl2 := zQ bd2
  have hp1 := pickL_len l names false
  refine jT rfl (oR 1 rfl (oZ rfl (jS rfl (jT rfl (oR 1 rfl (oZ rfl (jB rfl (jT rfl (oP rfl (zJ rfl rfl rfl) (oR 1 rfl (oZ rfl ?_)))))))))))
  refine jD rfl (fun hc1 => ?_) (fun hc1 => ?_)
  · skip
    refine jT rfl (oR 2 rfl (oE rfl (zH [] _ [] rfl rfl (.cons ArgC.id (.cons ArgC.id .nil)) zt Tryz.call55 (only_c l names (by omega)) (.inl rfl)) ?_))
    rintro _ _ ⟨_, ⟨v2, rfl, rfl⟩, rfl⟩
    refine on rfl (oR 1 rfl (oZ rfl (zl rfl (zf (zb (PD.subH (HSub.less (zbh (i := 0) rfl)) (PD.subH (HSub.turn (h' := .sl v2 2 62 ((keyL mode names l).map Lbl.d)) rfl (Hp.eq_sl (show List.map Lbl.d (za1 l names true) = List.map Lbl.d (keyL mode names l) from congrArg _ (by unfold keyL metB; simp [*])))) ?_)))))))
    exact zbf Tryz.results24 (.cons (zh rfl) .nil) rfl ⟨_, rfl, rfl⟩
  · skip
    refine jT rfl (oP rfl (zJ rfl rfl rfl) (oR 1 rfl (oZ rfl ?_)))
    refine jD rfl (fun hc3 => ?_) (fun hc3 => ?_)
    · skip
      refine jT rfl (oR 2 rfl (oE rfl (zH [] _ [] rfl rfl (.cons ArgC.id (.cons ArgC.id .nil)) zt Tryz.call56 (without_c l names (by omega)) (.inl rfl)) ?_))
      rintro _ _ ⟨_, ⟨v4, rfl, rfl⟩, rfl⟩
      refine on rfl (oE rfl (zai [.const (.string (⟨#[109, 101, 116, 114, 105, 99]⟩ : ByteArray))] rfl rfl (.cons (CellD.v rfl) .nil) rfl Tryz.runUnderlying23 Tryz.sizeOf9 Tryz.zeroValue9 rfl rfl rfl rfl) ?_)
      rintro _ _ ⟨g5, rfl, rfl⟩
      refine OpsD.subH (HSub.turn (h' := .sl (vS g5 1 1) 1 9 ([(⟨#[109, 101, 116, 114, 105, 99]⟩ : ByteArray)].map D.s)) rfl (Hp.cvs_sl (.cons (Cv.str (by first | decide | (unfold maxLen; omega))) .nil))) (oE rfl (zH [] _ [.sl v4 2 62 ((za1 l names false).map Lbl.d), .sl (vS g5 1 1) 1 9 ([(⟨#[109, 101, 116, 114, 105, 99]⟩ : ByteArray)].map D.s)] rfl rfl (.cons (ArgC.own (j := 0) rfl rfl) (.cons (ArgC.own (j := 1) rfl rfl) .nil)) (zaN (j := 1) rfl (zaN (j := 0) rfl zt)) Tryz.call56 (without_c (za1 l names false) [(⟨#[109, 101, 116, 114, 105, 99]⟩ : ByteArray)] (by omega)) (.inr (isOwn_flat (flatL_map (fun _ => rfl) _)))) ?_)
      rintro _ _ ⟨_, ⟨v6, rfl, rfl⟩, rfl⟩
      refine on rfl (oR 1 rfl (oZ rfl (jk [2, 6] rfl (zl rfl (zf (zb (PD.subH (HSub.less (zbh (i := 0) rfl)) (PD.subH (HSub.turn (h' := .sl v6 2 62 ((keyL mode names l).map Lbl.d)) rfl (Hp.eq_sl (show List.map Lbl.d (za1 (za1 l names false) [(⟨#[109, 101, 116, 114, 105, 99]⟩ : ByteArray)] false) = List.map Lbl.d (keyL mode names l) from congrArg _ (by unfold keyL metB; simp [*])))) ?_))))))))
      exact zbf Tryz.results24 (.cons (zh rfl) .nil) rfl ⟨_, rfl, rfl⟩
    · skip
      refine zk rfl (zy (zc (jT rfl (oR 1 rfl (oE rfl (zai [.const (.string (⟨#[109, 101, 116, 114, 105, 99]⟩ : ByteArray))] rfl rfl (.cons (CellD.v rfl) .nil) rfl Tryz.runUnderlying23 Tryz.sizeOf9 Tryz.zeroValue9 rfl rfl rfl rfl) ?_)))))
      rintro _ _ ⟨g7, rfl, rfl⟩
      refine OpsD.subH (HSub.turn (h' := .sl (vS g7 1 1) 1 9 ([(⟨#[109, 101, 116, 114, 105, 99]⟩ : ByteArray)].map D.s)) rfl (Hp.cvs_sl (.cons (Cv.str (by first | decide | (unfold maxLen; omega))) .nil))) (oE rfl (zH [] _ [.sl (vS g7 1 1) 1 9 ([(⟨#[109, 101, 116, 114, 105, 99]⟩ : ByteArray)].map D.s)] rfl rfl (.cons ArgC.id (.cons (ArgC.own (j := 0) rfl rfl) .nil)) (zaN (j := 0) rfl zt) Tryz.call56 (without_c l [(⟨#[109, 101, 116, 114, 105, 99]⟩ : ByteArray)] (by omega)) (.inr (isOwn_flat (flatL_map (fun _ => rfl) _)))) ?_)
      rintro _ _ ⟨_, ⟨v8, rfl, rfl⟩, rfl⟩
      refine on rfl (oR 1 rfl (oZ rfl (jk [6] rfl (zl rfl (PD.subH (HSub.less (zbh (i := 0) rfl)) (PD.subH (HSub.turn (h' := .sl v8 2 62 ((keyL mode names l).map Lbl.d)) rfl (Hp.eq_sl (show List.map Lbl.d (za1 l [(⟨#[109, 101, 116, 114, 105, 99]⟩ : ByteArray)] false) = List.map Lbl.d (keyL mode names l) from congrArg _ (by unfold keyL metB; simp [*])))) ?_))))))
      exact zbf Tryz.results24 (.cons (zh rfl) .nil) rfl ⟨_, rfl, rfl⟩

theorem vRight_c (l : List RowD)  :
    CD Tryz.prog 26 [] [.sh 2 (l.map RowD.d)] (isR (dB (zV l))) := by
  refine zn Tryz.func26 rfl (N := 33) rfl rfl (fun C => ?_)
  refine jk [0] rfl ?_
  refine JD.bd 0 rfl (fun bd0 => ?_)
  have nl0 := zQ bd0
  refine jT rfl (oR 1 rfl (oZ rfl (jS rfl (jT rfl (oR 1 rfl (oP rfl (zaa (n := l.length) rfl Tryz.runUnderlying22 (by simp only [lm, lc, ln])) (oP rfl (zag rfl rfl rfl) (oZ rfl ?_))))))))
  refine jD rfl (fun hc1 => ?_) (fun hc1 => ?_)
  · skip
    refine jT rfl (oR 1 rfl (oZ rfl (zl rfl (zb ?_))))
    exact zj Tryz.results26 (.cons (zr (zh rfl) (Cv.eq (congrArg (fun b => D.v (.bool b)) (by exact vr_long hc1)))) .nil) rfl HSub.none ⟨rfl, rfl⟩
  · skip
    refine zk rfl (zc (jS rfl (jT rfl (oR 1 rfl (oP rfl (zaa (n := l.length) rfl Tryz.runUnderlying22 (by simp only [lm, lc, ln])) (oR 1 rfl (oZ rfl (jB rfl (jl1 (fun (a_ : Nat) => [(0, .sh 2 (l.map RowD.d)), (8, .sh 2 (l.map RowD.d)), (9, dN l.length), (10, dN a_)]) (fun a_ => []) (fun a_ => (zbj l 0 = zbj l a_)) (fun a_ => l.length - a_) 0 rfl (sa rfl) HSub.rfl' rfl ?_)))))))))
    rintro k hk
    refine ja rfl (jn rfl (jT rfl (oP rfl (zP rfl rfl rfl) (oZ rfl (jS rfl ?_)))))
    refine jD rfl (fun hc2 => ?_) (fun hc2 => ?_)
    · skip
      refine zk rfl (zc (jS rfl (jB rfl (jT rfl (oR 1 rfl ?_)))))
      obtain ⟨x1, hx1⟩ := zx l k (by omega)
      refine oP rfl (zu (k := k) rfl rfl Tryz.runUnderlying22 Tryz.sizeOf53 (by first | rfl | omega) (ze hx1)) (oP rfl (zaM (d := RowD.d x1) rfl Tryz.isAgg53 Tryz.sizeOf53 rfl rfl) (oE rfl (zav (zv := (.agg #[(.slice none 0 0), (.int .i64 0)])) Tryz.zeroValue53 ⟨rfl, rfl, trivial⟩ (Cv.vagg (by decide))) ?_))
      rintro _ _ ⟨g3, rfl, rfl⟩
      refine oR 1 rfl (oE rfl (zZ (i := 0) (X' := RowD.d x1) rfl rfl rfl (CellD.agg) Tryz.sizeOf53 rfl rfl rfl) ?_)
      rintro _ _ ⟨rfl, rfl⟩
      refine on rfl (oZ rfl (jS rfl ?_))
      rcases Bool.eq_false_or_eq_true (zaX x1) with hg4 | hg4
      · skip
        by_cases hg5 : (0 : Int) < ((k : Nat) : Int)
        · skip
          refine jk [0, 3, 4, 8, 9, 10, 11, 12, 13, 14] rfl (jn rfl ?_)
          obtain ⟨x2, hx2⟩ := zx l (k - 1) (by omega)
          refine zX 13 [(15, RowD.d x1, none), (16, dB true, none), (17, dB false, none), (18, dB false, none), (19, dN k, none), (20, dB true, none), (21, dB true, none), (22, .sh 2 (l.map RowD.d), none), (23, dN k, none), (24, dN (k - 1), none), (25, .el (RowD.d x2) 0, none), (26, RowD.d x2, none), (27, RowD.d x1, none)] [.bx g3 53 (RowD.d x1)] (Hn := [.bx g3 53 (RowD.d x1)]) mixed rfl rfl rfl rfl HSub.rfl' rfl ⟨sa_p rfl rfl rfl (zam (d := RowD.d x1) rfl (i := 0) rfl Tryz.isAgg53 Tryz.sizeOf53 rfl rfl), sa_q rfl rfl rfl ((zaK rfl (.cons Cv.rfl' .nil) Tryz.call39 (single_c x1) zaZ).cv (Cv.eq (congrArg (fun b => D.v (.bool b)) hg4))), sa_p rfl rfl rfl (zba (q := true) rfl), sa_p rfl rfl rfl (zd rfl), zC rfl rfl rfl rfl rfl rfl (zd rfl).qu, zC rfl rfl rfl rfl rfl rfl (zag rfl rfl (decide_eq_true hg5)).qu, zC rfl rfl rfl rfl rfl rfl (zd rfl).qu, zC rfl rfl rfl rfl rfl rfl (zd rfl).qu, zC rfl rfl rfl rfl rfl rfl (zd rfl).qu, zC rfl rfl rfl rfl rfl rfl (zau (c := ((k - 1 : Nat) : Int)) rfl rfl (zB (by omega) (by omega))).qu, zC rfl rfl rfl rfl rfl rfl (zu (k := k - 1) rfl rfl Tryz.runUnderlying22 Tryz.sizeOf53 (by first | rfl | omega) (ze hx2)).qu, zC rfl rfl rfl rfl rfl rfl (zaM (d := RowD.d x2) rfl Tryz.isAgg53 Tryz.sizeOf53 rfl rfl).qu, zC rfl rfl rfl rfl rfl rfl (zam (d := RowD.d x1) rfl (i := 0) rfl Tryz.isAgg53 Tryz.sizeOf53 rfl rfl).qu, trivial⟩ ?_
          refine ok [0, 3, 4, 8, 9, 10, 11, 12, 13, 14, 15, 16, 17, 18, 19, 20, 21, 22, 23, 24, 25, 26, 27] rfl (oV rfl rfl acs Tryz.call42 (vorder_c x2 x1) (oG rfl (zU rfl rfl rfl) (oR 2 rfl (oZ rfl ?_))))
          refine jD rfl (fun hc6 => ?_) (fun hc6 => ?_)
          · skip
            refine jT rfl (oR 1 rfl (oZ rfl (zl rfl (zf (zb (zN (zf (zb ?_))))))))
            exact zj Tryz.results26 (.cons (zr (zh rfl) (Cv.eq (congrArg (fun b => D.v (.bool b)) (by exact vr_bad2 hk hx1 (prevR_pos hg5 hx2) hc6)))) .nil) rfl HSub.none ⟨rfl, rfl⟩
          · skip
            refine zk rfl (zy (zc (za rfl (oP rfl (zS (c := ((k + 1 : Nat) : Int)) rfl rfl (zB (by omega) (by omega))) (oR 1 rfl (zi rfl ?_))))))
            exact pl1 (k + 1) (sa rfl) HSub.none (vr_step hk hx1 hg4 (prevR_pos hg5 hx2) hc6) (by omega)
        · skip
          refine jk [0, 3, 4, 8, 9, 10, 11, 12, 13, 14] rfl (jn rfl (zX 13 [(15, RowD.d x1, none), (16, dB true, none), (17, dB false, none), (18, dB false, none), (19, dN k, none), (20, dB false, none), (21, dB false, none), (22, .v undef, none), (23, .v undef, none), (24, .v undef, none), (25, .v undef, none), (26, .v undef, none), (27, .v undef, none)] [.bx g3 53 (RowD.d x1)] (Hn := [.bx g3 53 (RowD.d x1)]) mixed rfl rfl rfl rfl HSub.rfl' rfl ⟨sa_p rfl rfl rfl (zam (d := RowD.d x1) rfl (i := 0) rfl Tryz.isAgg53 Tryz.sizeOf53 rfl rfl), sa_q rfl rfl rfl ((zaK rfl (.cons Cv.rfl' .nil) Tryz.call39 (single_c x1) zaZ).cv (Cv.eq (congrArg (fun b => D.v (.bool b)) hg4))), sa_p rfl rfl rfl (zba (q := true) rfl), sa_p rfl rfl rfl (zd rfl), zC rfl rfl rfl rfl rfl rfl (zd rfl).qu, zC rfl rfl rfl rfl rfl rfl (zag rfl rfl (decide_eq_false hg5)).qu, zC rfl rfl rfl rfl rfl rfl (zd rfl).qu, sa_s rfl rfl rfl rfl rfl rfl (by decide), sa_s rfl rfl rfl rfl rfl rfl (by decide), sa_s rfl rfl rfl rfl rfl rfl (by decide), sa_s rfl rfl rfl rfl rfl rfl (by decide), sa_s rfl rfl rfl rfl rfl rfl (by decide), sa_s rfl rfl rfl rfl rfl rfl (by decide), trivial⟩ (ok [0, 3, 4, 8, 9, 10, 11, 12, 13, 14, 15, 16, 17, 18, 19, 20, 21, 22, 23, 24, 25, 26, 27] rfl (oR 4 rfl (oZ rfl (jCf rfl (zk rfl (zy (zc (za rfl ?_))))))))))
          refine oP rfl (zS (c := ((k + 1 : Nat) : Int)) rfl rfl (zB (by omega) (by omega))) (oR 1 rfl (zi rfl ?_))
          exact pl1 (k + 1) (sa rfl) HSub.none (vr_step0 hk hx1 hg4 (prevR_zero hg5)) (by omega)
      · skip
        refine jk [0, 3, 4, 8, 9, 10, 11, 12, 13, 14] rfl (jn rfl (zX 13 [(15, RowD.d x1, none), (16, dB false, none), (17, dB true, none), (18, dB true, none), (19, .v undef, none), (20, .v undef, none), (21, .v undef, none), (22, .v undef, none), (23, .v undef, none), (24, .v undef, none), (25, .v undef, none), (26, .v undef, none), (27, .v undef, none)] [.bx g3 53 (RowD.d x1)] (Hn := [.bx g3 53 (RowD.d x1)]) mixed rfl rfl rfl rfl HSub.rfl' rfl ⟨sa_p rfl rfl rfl (zam (d := RowD.d x1) rfl (i := 0) rfl Tryz.isAgg53 Tryz.sizeOf53 rfl rfl), sa_q rfl rfl rfl ((zaK rfl (.cons Cv.rfl' .nil) Tryz.call39 (single_c x1) zaZ).cv (Cv.eq (congrArg (fun b => D.v (.bool b)) hg4))), sa_p rfl rfl rfl (zba (q := false) rfl), sa_p rfl rfl rfl (zd rfl), sa_s rfl rfl rfl rfl rfl rfl (by decide), sa_s rfl rfl rfl rfl rfl rfl (by decide), sa_s rfl rfl rfl rfl rfl rfl (by decide), sa_s rfl rfl rfl rfl rfl rfl (by decide), sa_s rfl rfl rfl rfl rfl rfl (by decide), sa_s rfl rfl rfl rfl rfl rfl (by decide), sa_s rfl rfl rfl rfl rfl rfl (by decide), sa_s rfl rfl rfl rfl rfl rfl (by decide), sa_s rfl rfl rfl rfl rfl rfl (by decide), trivial⟩ (ok [0, 3, 4, 8, 9, 10, 11, 12, 13, 14, 15, 16, 17, 18, 19, 20, 21, 22, 23, 24, 25, 26, 27] rfl (oR 4 rfl (oZ rfl (jCt rfl (jT rfl (oR 1 rfl (oZ rfl (zl rfl (zf (zb (zN (zf (zb ?_)))))))))))))))
        exact zj Tryz.results26 (.cons (zr (zh rfl) (Cv.eq (congrArg (fun b => D.v (.bool b)) (by exact vr_bad1 hk hx1 hg4)))) .nil) rfl HSub.none ⟨rfl, rfl⟩
    · skip
      refine zO rfl (zq (zp (zm (zc (jT rfl (oR 1 rfl (oZ rfl (zl rfl ?_))))))))
      exact zj Tryz.results26 (.cons (zr (zh rfl) (Cv.eq (congrArg (fun b => D.v (.bool b)) (by exact vr_good hk (by omega) (by omega))))) .nil) rfl HSub.none ⟨rfl, rfl⟩

theorem vTidy_c (l : List RowD)  :
    CD Tryz.prog 14 [] [.sh 2 (l.map RowD.d)] (fun r H' => ∃ v0_, r = .tup [.ov v0_, dI (rtE l)] ∧ H' = [.sl v0_ 2 53 ((rtL l).map RowD.d)]) := by
  refine zn Tryz.func14 rfl (N := 46) rfl rfl (fun C => ?_)
  refine jk [0] rfl ?_
  refine JD.bd 0 rfl (fun bd0 => ?_)
  have nl0 := zQ bd0
  refine jT rfl (oR 2 rfl (oZ rfl (jS rfl (jT rfl (oR 1 rfl (oP rfl (zaa (n := l.length) rfl Tryz.runUnderlying22 (by simp only [lm, lc, ln])) (oP rfl (zag rfl rfl rfl) (oZ rfl ?_))))))))
  refine jD rfl (fun hc1 => ?_) (fun hc1 => ?_)
  · skip
    refine jT rfl (oR 2 rfl (oZ rfl (zl rfl (zb (PD.subH (HSub.nil 2 53) (PD.norm [.sl (.slice none 0 0) 2 53 ((rtL l).map RowD.d)] (by have hw : [] = rtL l := (by first | exact (zb6 hc1).1 | exact (zb6 hc1).2); rw [show ([] : List D) = List.map RowD.d (rtL l) from congrArg (List.map RowD.d) hw]) ?_))))))
    exact zj Tryz.results14 (.cons (zr (zh rfl) (Cv.ov rfl)) (.cons (zr (zh rfl) (Cv.eq (congrArg (fun n => D.v (.int .i64 n)) (by first | exact (zb6 hc1).1 | exact (zb6 hc1).2)))) .nil)) rfl (HSub.fst 1 rfl) ⟨(.slice none 0 0), rfl, rfl⟩
  · skip
    refine zk rfl (zc (jT rfl (oR 1 rfl (oZ rfl (jS rfl (jT rfl (oR 1 rfl (oP rfl (zaa (n := l.length) rfl Tryz.runUnderlying22 (by simp only [lm, lc, ln])) (oR 1 rfl (oZ rfl (jB rfl (jl3 (fun (a_ : Nat) (b_ : Value) (c_ : List RowD) => [(11, .sh 2 (l.map RowD.d)), (12, dN l.length), (13, dN a_), (4, .ov b_)]) (fun a_ b_ c_ => [.sl b_ 2 53 (c_.map RowD.d)]) (fun a_ b_ c_ => (a_ ≤ l.length) ∧ (c_ = l.take a_) ∧ (zbe (l.take a_) = true)) (fun a_ b_ c_ => l.length - a_) 0 (.slice none 0 0) [] rfl ⟨sk rfl, sk rfl, sk rfl, sc rfl (Cv.ov rfl), trivial⟩ (HSub.nil 2 53) ⟨Nat.zero_le _, rfl, rfl⟩ ?_))))))))))))
    rintro k ov o ⟨hkl, ho, hw⟩
    refine ja rfl (jn rfl ?_)
    have hol : o.length ≤ 2000 := by rw [ho, List.length_take]; omega
    refine jT rfl (oP rfl (zP rfl rfl rfl) (oZ rfl (jS rfl ?_)))
    refine jD rfl (fun hc2 => ?_) (fun hc2 => ?_)
    · skip
      refine zk rfl (zc (jS rfl (jB rfl (jT rfl ?_))))
      obtain ⟨x1, hx1⟩ := zx l k (by omega)
      refine oP rfl (zu (k := k) rfl rfl Tryz.runUnderlying22 Tryz.sizeOf53 (by first | rfl | omega) (ze hx1)) (oP rfl (zaM (d := RowD.d x1) rfl Tryz.isAgg53 Tryz.sizeOf53 rfl rfl) (oE rfl (zav (zv := (.agg #[(.slice none 0 0), (.int .i64 0)])) Tryz.zeroValue53 ⟨rfl, rfl, trivial⟩ (Cv.vagg (by decide))) ?_))
      rintro _ _ ⟨g3, rfl, rfl⟩
      refine oE rfl (zZ (i := 0) (X' := RowD.d x1) rfl rfl rfl (CellD.agg) Tryz.sizeOf53 rfl rfl rfl) ?_
      rintro _ _ ⟨rfl, rfl⟩
      refine on rfl (oZ rfl (jS rfl (jT rfl (oP rfl (zam (d := RowD.d x1) rfl (i := 0) rfl Tryz.isAgg53 Tryz.sizeOf53 rfl rfl) (oW rfl rfl acs Tryz.call39 (single_c x1) (oP rfl (zba rfl) (oZ rfl ?_)))))))
      refine jC rfl (fun hc4 => ?_) (fun hc4 => ?_)
      · simp only [bA, bB, bC, bD, bE, bF, bG, bH, bI, bJ] at hc4
        refine jT rfl (oR 2 rfl (oZ rfl (zl rfl (zb (zf (zb (zN (zf (zb (PD.subH (HSub.nil 2 53) (PD.norm [.sl (.slice none 0 0) 2 53 ((rtL l).map RowD.d), .bx g3 53 (RowD.d x1), .sl ov 2 53 (o.map RowD.d)] (by have hw : [] = rtL l := (by first | exact (rt_bad' hx1 hc4).1 | exact (rt_bad' hx1 hc4).2); rw [show ([] : List D) = List.map RowD.d (rtL l) from congrArg (List.map RowD.d) hw]) ?_)))))))))))
        exact zj Tryz.results14 (.cons (zr (zh rfl) (Cv.ov rfl)) (.cons (zr (zh rfl) (Cv.eq (congrArg (fun n => D.v (.int .i64 n)) (by first | exact (rt_bad' hx1 hc4).1 | exact (rt_bad' hx1 hc4).2)))) .nil)) rfl (HSub.fst 1 rfl) ⟨(.slice none 0 0), rfl, rfl⟩
      · simp only [bA, bB, bC, bD, bE, bF, bG, bH, bI, bJ] at hc4
        refine zk rfl (zc (za rfl (oR 1 rfl (oP rfl (zam (d := RowD.d x1) rfl (i := 0) rfl Tryz.isAgg53 Tryz.sizeOf53 rfl rfl) (oW rfl rfl acs Tryz.call40 (vown_c x1 (by have h := okRow_len hc4; omega)) (oE rfl (zai [.tmp 22] rfl rfl (.cons CellD.agg .nil) rfl Tryz.runUnderlying22 Tryz.sizeOf53 Tryz.zeroValue53 rfl rfl rfl rfl) ?_))))))
        rintro _ _ ⟨g5, rfl, rfl⟩
        refine oE rfl (z7 (f := RowD.d) (l := o) (l' := [x1]) (i := 2) rfl rfl rfl (SrcD.own (j := 0) rfl rfl) za2 zaE rfl rfl (by unfold maxLen; (try simp only [la, lc, ln, lm, lt', ld, ls, lr]); omega) (by (try simp only [la, lc, ln, lm, lt', ld, ls, lr]); omega)) ?_
        rintro _ _ ⟨v6, rfl, rfl⟩
        refine on rfl (oR 1 rfl (zi rfl (zy (zc (za rfl (oP rfl (zS (c := ((k + 1 : Nat) : Int)) rfl rfl (zB (by omega) (by omega))) (oR 1 rfl (zi rfl (PD.subH (HSub.perm (zaT (i := 2) rfl)) (pn rfl (PD.subH (HSub.fst 1 rfl) (pn rfl ?_))))))))))))
        exact pl3 (k + 1) v6 (o ++ [x1]) (sa rfl) HSub.rfl' ⟨by show k + 1 ≤ l.length; omega, by rw [ho, zas hx1], rowsB_snoc' hx1 hw hc4⟩ (by omega)
    · skip
      have hrow := td_rows hw (by omega)
      obtain rfl : l = o := by rw [ho, List.take_of_length_le (by omega)]
      have hil := zbr (c := zD 0) _ l rfl
      refine zO rfl (zq (zp (zm (zc (jT rfl (oR 1 rfl (oE rfl (zH [.sl ov 2 53 (l.map RowD.d)] [] [] rfl rfl (.cons ArgC.id (.cons ArgC.id .nil)) zt Tryz.call41 (sortstR_c ov l 0 (by omega)) (.inl rfl)) ?_)))))))
      rintro _ _ ⟨_, ⟨rfl, rfl⟩, rfl⟩
      refine on rfl (oZ rfl (jS rfl (jT rfl (oR 1 rfl (oZ rfl (jB rfl (jl1 (fun (a_ : Nat) => [(4, .ov ov), (7, dN a_)]) (fun a_ => [.sl ov 2 53 ((zw (zD 0) l).map RowD.d)]) (fun a_ => (1 ≤ a_) ∧ (zcs (zw (zD 0) l) a_)) (fun a_ => l.length - a_) 1 rfl (sa rfl) HSub.rfl' ⟨Nat.le_refl _, zcs.one _⟩ ?_)))))))
      rintro i ⟨hi, hn⟩
      refine ja rfl (jn rfl (jS rfl (jT rfl (oR 2 rfl (oP rfl (zL (n := (zw (zD 0) l).length) (j := 0) rfl rfl Tryz.runUnderlying22 (List.length_map _)) (oP rfl (zP rfl rfl rfl) (oZ rfl ?_)))))))
      refine jD rfl (fun hc7 => ?_) (fun hc7 => ?_)
      · skip
        refine zk rfl (zc (jS rfl (jB rfl (jS rfl (jk [4, 7, 28, 29, 30, 31] rfl (jn rfl ?_))))))
        obtain ⟨x2, hx2⟩ := zx (zw (zD 0) l) (i - 1) (by omega)
        obtain ⟨x3, hx3⟩ := zx (zw (zD 0) l) i (by omega)
        refine zX 9 [(34, .ov ov, none), (35, dN i, none), (36, dN (i - 1), none), (37, .v (.pointer (some ⟨bl ov, (i - 1) * 2 + 0, none⟩)), none), (38, RowD.d x2, none), (39, .ov ov, none), (40, dN i, none), (41, .v (.pointer (some ⟨bl ov, i * 2 + 0, none⟩)), none), (42, RowD.d x3, none)] [.sl ov 2 53 ((zw (zD 0) l).map RowD.d)] (Hn := [.sl ov 2 53 ((zw (zD 0) l).map RowD.d)]) mixed rfl rfl rfl rfl HSub.rfl' rfl ⟨sa_p rfl rfl rfl (zd rfl), sa_p rfl rfl rfl (zd rfl), sa_p rfl rfl rfl (zau (c := ((i - 1 : Nat) : Int)) rfl rfl (zB (by omega) (by omega))), sa_p rfl rfl rfl (zg (k := i - 1) (j := 0) rfl rfl rfl Tryz.runUnderlying22 Tryz.sizeOf53 (by first | rfl | omega) (ze hx2)), sa_p rfl rfl rfl (zW (d := RowD.d x2) rfl (i := 0) rfl (ze hx2) Tryz.isAgg53 Tryz.sizeOf53 rfl rfl), sa_p rfl rfl rfl (zd rfl), sa_p rfl rfl rfl (zd rfl), sa_p rfl rfl rfl (zg (k := i) (j := 0) rfl rfl rfl Tryz.runUnderlying22 Tryz.sizeOf53 (by first | rfl | omega) (ze hx3)), sa_p rfl rfl rfl (zW (d := RowD.d x3) rfl (i := 0) rfl (ze hx3) Tryz.isAgg53 Tryz.sizeOf53 rfl rfl), trivial⟩ (ok [4, 7, 28, 29, 30, 31, 34, 35, 36, 37, 38, 39, 40, 41, 42] rfl (oW rfl rfl acs Tryz.call42 (vorder_c x2 x3) (oP rfl (zJ rfl rfl rfl) (oZ rfl ?_))))
        refine jD rfl (fun hc8 => ?_) (fun hc8 => ?_)
        · skip
          refine jT rfl (oR 2 rfl (oZ rfl (zl rfl (zf (zb (zN (zf (zb (PD.subH (HSub.nil 2 53) (PD.norm [.sl (.slice none 0 0) 2 53 ((rtL l).map RowD.d), .sl ov 2 53 ((zw (zD 0) l).map RowD.d)] (by have hw : [] = rtL l := (by first | exact (td_twin (by omega) hrow hi hx2 hx3 hc8).1 | exact (td_twin (by omega) hrow hi hx2 hx3 hc8).2); rw [show ([] : List D) = List.map RowD.d (rtL l) from congrArg (List.map RowD.d) hw]) ?_))))))))))
          exact zj Tryz.results14 (.cons (zr (zh rfl) (Cv.ov rfl)) (.cons (zr (zh rfl) (Cv.eq (congrArg (fun n => D.v (.int .i64 n)) (by first | exact (td_twin (by omega) hrow hi hx2 hx3 hc8).1 | exact (td_twin (by omega) hrow hi hx2 hx3 hc8).2)))) .nil)) rfl (HSub.fst 1 rfl) ⟨(.slice none 0 0), rfl, rfl⟩
        · skip
          refine zk rfl (zy (zc (za rfl (oR 1 rfl (oP rfl (zS (c := ((i + 1 : Nat) : Int)) rfl rfl (zB (by omega) (by omega))) (oR 1 rfl (zi rfl ?_)))))))
          exact pl1 (i + 1) (sa rfl) HSub.rfl' ⟨by show 1 ≤ i + 1; omega, hn.next hi hx2 hx3 hc8⟩ (by omega)
      · skip
        refine zO rfl (zq (zp (zm (zc (jT rfl (oR 3 rfl (oZ rfl (zl rfl (PD.norm [.sl ov 2 53 ((rtL l).map RowD.d)] (by have hw : (zw (zD 0) l) = rtL l := (by first | exact (td_good (by omega) hrow hn (by omega)).1 | exact (td_good (by omega) hrow hn (by omega)).2); rw [hw]) ?_)))))))))
        exact zj Tryz.results14 (.cons (zh rfl) (.cons (zr (zh rfl) (Cv.eq (congrArg (fun n => D.v (.int .i64 n)) (by first | exact (td_good (by omega) hrow hn (by omega)).1 | exact (td_good (by omega) hrow hn (by omega)).2)))) .nil)) rfl (HSub.fst 1 rfl) ⟨ov, rfl, rfl⟩
end Lp
