/-
  The document's own tidying of labels and rows, as plain data.
-/
import Derived.Test.YtjhkajkickngmaaPText2
set_option linter.unusedVariables false
namespace Lp
open Go
section
variable {α : Type} {c : α → α → Int}
/-- strictly in order -/
def Strict (c : α → α → Int) (l : List α) : Prop := l.Pairwise (fun a b => c a b < 0)
theorem Strict.srt {l : List α} (h : Strict c l) : Srt c l := List.Pairwise.imp (fun h => Int.le_of_lt h) h
/-- a list with one more at a place -/
def insAt (out : List α) (k : Nat) (x : α) : List α := (((out.take k).drop 0) ++ [x]) ++ ((out.take out.length).drop k)
theorem insAt_eq (out : List α) (k : Nat) (x : α) : insAt out k x = out.take k ++ x :: out.drop k := by unfold insAt; rw [List.take_length, List.drop_zero]; simp
theorem insAt_perm (out : List α) (k : Nat) (x : α) : (insAt out k x).Perm (out ++ [x]) := by
  rw [insAt_eq]
  refine (List.perm_middle).trans ?_
  rw [List.take_append_drop]
  exact (List.perm_append_comm (l₁ := [x]) (l₂ := out))
theorem insAt_strict {out : List α} {k : Nat} {x : α} (h : Strict c out) (h1 : ∀ y ∈ out.take k, c y x < 0) (h2 : ∀ y ∈ out.drop k, c x y < 0) : Strict c (insAt out k x) := by
  rw [insAt_eq]
  have e : out.take k ++ out.drop k = out := List.take_append_drop ..
  unfold Strict at h ⊢
  rw [← e] at h
  obtain ⟨a1, a2, a3⟩ := List.pairwise_append.1 h
  refine List.pairwise_append.2 ⟨a1, List.pairwise_cons.2 ⟨h2, a2⟩, fun y hy z hz => ?_⟩
  rcases List.mem_cons.1 hz with e | e
  · rw [e]; exact h1 y hy
  · exact a3 y hy z e
theorem ins_perm (x : α) (l : List α) : (ins c x l).Perm (x :: l) := by
  have key : ∀ l : List α, (insB c x l).Perm (x :: l) := by
    intro l
    induction l with
    | nil => exact List.Perm.refl _
    | cons y r ih =>
      unfold insB
      split
      · exact (List.Perm.cons y ih).trans (List.Perm.swap x y r)
      · exact List.Perm.refl _
  unfold ins
  exact (List.reverse_perm _).trans ((key l.reverse).trans (List.Perm.cons x (List.reverse_perm l)))
theorem isort_prm (l : List α) : (isort c l).Perm l := by
  have key : ∀ (m r : List α), (m.foldl (fun r x => ins c x r) r).Perm (r ++ m) := by
    intro m
    induction m with
    | nil => intro r; simp
    | cons x m ih =>
      intro r
      refine (ih (ins c x r)).trans ?_
      refine (List.Perm.append_right m (ins_perm x r)).trans ?_
      show (x :: (r ++ m)).Perm (r ++ x :: m)
      exact List.perm_middle.symm
  have := key l []
  rw [List.nil_append] at this
  exact this
/-- in order, and of the same: the same, if alike is the same -/
theorem srt_perm (h : Cmp c) {a b : List α} (ha : Srt c a) (hb : Srt c b) (hp : a.Perm b) (anti : ∀ x ∈ a, ∀ y ∈ a, c x y = 0 → x = y) : a = b := by
  refine Srt.unique h _ _ ha hb (fun k => ?_)
  have hrep : ∀ m : List α, (∀ x ∈ m, ∀ y ∈ m, c x y = 0 → x = y) → ∀ z ∈ m.filter (eqv c k), m.filter (eqv c k) = List.replicate (m.filter (eqv c k)).length z := by
    intro m hm z hz
    rw [List.eq_replicate_iff]
    refine ⟨rfl, fun w hw => ?_⟩
    have h1 := List.mem_filter.1 hz
    have h2 := List.mem_filter.1 hw
    have e1 : c k z = 0 := by simpa [eqv] using h1.2
    have e2 : c k w = 0 := by simpa [eqv] using h2.2
    have e3 := h.neg k w
    have e4 := (h.tr w k z).e1 (by omega)
    exact hm w h2.1 z h1.1 (by omega)
  have hpf := hp.filter (eqv c k)
  have hl := hpf.length_eq
  rcases hz : a.filter (eqv c k) with _ | ⟨z, r⟩
  · rw [hz] at hl
    rw [List.eq_nil_of_length_eq_zero (l := b.filter (eqv c k)) (by rw [← hl]; rfl)]
  · rw [← hz]
    have hm : z ∈ a.filter (eqv c k) := by rw [hz]; exact List.mem_cons_self
    have hm2 : z ∈ b.filter (eqv c k) := hpf.mem_iff.1 hm
    rw [hrep a anti z hm, hrep b (fun x hx y hy => anti x (hp.mem_iff.2 hx) y (hp.mem_iff.2 hy)) z hm2, hl]
theorem Strict.anti (h : Cmp c) {l : List α} (hs : Strict c l) : ∀ x ∈ l, ∀ y ∈ l, c x y = 0 → x = y := by
  induction l with
  | nil => intro x hx; cases hx
  | cons a r ih =>
    have hs' := List.pairwise_cons.1 hs
    intro x hx y hy e
    rcases List.mem_cons.1 hx with ex | ex <;> rcases List.mem_cons.1 hy with ey | ey
    · rw [ex, ey]
    · have := hs'.1 y ey; rw [ex] at e; omega
    · have := hs'.1 x ex; have := h.neg a x; rw [ey] at e; omega
    · exact ih hs'.2 x ex y ey e
theorem strict_isort (h : Cmp c) {l m : List α} (hs : Strict c l) (hp : l.Perm m) : isort c m = l := by
  have h1 := isort_prm (c := c) m
  exact (srt_perm h hs.srt (isort_stab h _ m rfl).srt (hp.trans h1.symm) (hs.anti h)).symm
end

/-! ### labels -/
theorem NSrt.strict {l : List Lbl} (h : NSrt l) : Strict cmpLbl l := List.Pairwise.imp (fun {a b} h => by unfold cmpLbl or2; rw [if_pos (by omega)]; exact h) h
/-- how far tidying has come -/
structure RT (l : List Lbl) (i : Nat) (out : List Lbl) : Prop where
  ns : NSrt out
  pm : out.Perm (l.take i)
  ok : ∀ x ∈ out, okL x = true
theorem RT.zero (l : List Lbl) : RT l 0 [] := ⟨List.Pairwise.nil, by simp, fun _ h => by cases h⟩
theorem RT.len {l out : List Lbl} {i : Nat} (h : RT l i out) (hi : i ≤ l.length) : out.length = i := by rw [h.pm.length_eq, List.length_take]; omega
theorem RT.next {l out : List Lbl} {i k : Nat} {x : Lbl} (h : RT l i out) (hx : l[i]? = some x) (hok : okL x = true) (h1 : ∀ j y, j < k → out[j]? = some y → cmpS y.n x.n < 0) (h2 : k = out.length ∨ ∃ y, out[k]? = some y ∧ ¬ cmpS y.n x.n < 0 ∧ ¬ y.n = x.n) : RT l (i + 1) (insAt out k x) := by
  have hn : ∀ y z : Lbl, cmpS y.n z.n < 0 ↔ cmpS y.n z.n < 0 := fun _ _ => Iff.rfl
  refine ⟨?_, ?_, ?_⟩
  · have := insAt_strict (c := fun a b : Lbl => cmpS a.n b.n) (out := out) (k := k) (x := x) h.ns (fun y hy => ?_) (fun y hy => ?_)
    · exact this
    · obtain ⟨j, hj⟩ := List.mem_iff_getElem?.1 hy
      rw [List.getElem?_take] at hj
      split at hj
      · exact h1 j y (by assumption) hj
      · cases hj
    · rcases h2 with e | ⟨z, hz, h3, h4⟩
      · rw [e, List.drop_length] at hy; cases hy
      · have hzx : cmpS x.n z.n < 0 := by
          have e1 := cmpS_neg z.n x.n
          have e2 : cmpS z.n x.n ≠ 0 := fun e => h4 ((cmpS_eq _ _).1 e)
          omega
        rw [drop_cons hz] at hy
        rcases List.mem_cons.1 hy with e | e
        · rw [e]; exact hzx
        · have hs : NSrt (out.take k ++ out.drop k) := by rw [List.take_append_drop]; exact h.ns
          have h5 := (List.pairwise_append.1 hs).2.1
          rw [drop_cons hz] at h5
          have h6 := (List.pairwise_cons.1 h5).1 y e
          exact (cmpS_tr x.n z.n y.n).lt1 hzx (by omega)
  · refine (insAt_perm out k x).trans ?_
    rw [take_snoc hx]
    exact List.Perm.append_right [x] h.pm
  · intro y hy
    rcases List.mem_append.1 ((insAt_perm out k x).mem_iff.1 hy) with e | e
    · exact h.ok y e
    · rw [List.mem_singleton.1 e]; exact hok
/-- tidy: few, each may be, and names all different -/
theorem tidyOk_of {l m : List Lbl} (hl : l.length ≤ 8) (hs : NSrt m) (hp : m.Perm l) (hok : ∀ x ∈ m, okL x = true) : tidyOk l = true ∧ isort cmpLbl l = m := by
  have e := strict_isort cmpLbl_cmp hs.strict hp
  refine ⟨?_, e⟩
  have key : ∀ (r : List Lbl) (p : Option ByteArray), NSrt r → (∀ x ∈ r, okL x = true) → (∀ n, p = some n → ∀ x ∈ r, cmpS n x.n < 0) → tidyFrom p r = true := by
    intro r
    induction r with
    | nil => intro _ _ _ _; rfl
    | cons x r ih =>
      intro p h1 h2 h3
      have h1' := List.pairwise_cons.1 h1
      unfold tidyFrom
      rw [h2 x List.mem_cons_self, ih (some x.n) h1'.2 (fun y hy => h2 y (List.mem_cons_of_mem _ hy)) (fun n hn y hy => by injection hn with hn; rw [← hn]; exact h1'.1 y hy)]
      have : ¬ p = some x.n := fun hp => by have := h3 x.n hp x List.mem_cons_self; have e0 := (cmpS_eq x.n x.n).2 rfl; omega
      simp [this]
  unfold tidyOk tidyB tidyAt
  rw [e]
  simp only [prevN, List.drop_zero, Bool.and_eq_true, decide_eq_true_eq]
  exact ⟨hl, key m none hs hok (fun _ h => by cases h)⟩
theorem RT.done {l out : List Lbl} {i : Nat} (h : RT l i out) (hi : l.length ≤ i) (hl : l.length ≤ 8) : out = tidyL l ∧ true = tidyOk l := by
  have hp := h.pm
  rw [List.take_of_length_le hi] at hp
  obtain ⟨e1, e2⟩ := tidyOk_of hl h.ns hp h.ok
  unfold tidyL; rw [e1, e2]; exact ⟨rfl, rfl⟩
theorem tidyL_no {l : List Lbl} (h : tidyOk l = false) : [] = tidyL l ∧ false = tidyOk l := by unfold tidyL; rw [h]; exact ⟨rfl, rfl⟩
theorem tidyOk_mem {l : List Lbl} (h : tidyOk l = true) {x : Lbl} (hx : x ∈ l) : okL x = true := by
  have e : tidyE l = 0 := by unfold tidyE; rw [h]; rfl
  have hm : x ∈ tidyL l := by unfold tidyL; rw [h]; exact ((isort_stab cmpLbl_cmp _ l rfl).mem cmpLbl_cmp x).2 hx
  exact (tidy_n e).2 x hm
theorem RT.bad1 {l : List Lbl} {i : Nat} {x : Lbl} (hx : l[i]? = some x) (h : okL x = false) : [] = tidyL l ∧ false = tidyOk l := tidyL_no (by
  rcases e : tidyOk l with _ | _
  · rfl
  · have := tidyOk_mem e (mem_get hx); rw [h] at this; cases this)
theorem RT.long {l : List Lbl} (h : (8 : Int) < ((l.length : Nat) : Int)) : [] = tidyL l ∧ false = tidyOk l := tidyL_no (by
  have : ¬ l.length ≤ 8 := by omega
  simp [tidyOk, this])
theorem RT.bad2 {l out : List Lbl} {i k : Nat} {x y : Lbl} (h : RT l i out) (hx : l[i]? = some x) (hy : out[k]? = some y) (e : y.n = x.n) : [] = tidyL l ∧ false = tidyOk l := tidyL_no (by
  rcases ek : tidyOk l with _ | _
  · rfl
  · exfalso
    have e0 : tidyE l = 0 := by unfold tidyE; rw [ek]; rfl
    have eT : tidyL l = isort cmpLbl l := by unfold tidyL; rw [ek]; rfl
    have hn := (tidy_n e0).1
    rw [eT] at hn
    have hp := isort_prm (c := cmpLbl) l
    -- the two stand at different places of l
    have hl : l = l.take i ++ (x :: l.drop (i + 1)) := by rw [← drop_cons hx, List.take_append_drop]
    have hyt : y ∈ l.take i := h.pm.mem_iff.1 (mem_get hy)
    have hnd : (l.map (·.n)).Nodup := by
      have h1 : ((isort cmpLbl l).map (·.n)).Nodup := by
        rw [List.Nodup, List.pairwise_map]
        exact List.Pairwise.imp (fun {a b} hab e => by have := (cmpS_eq a.n b.n).2 e; omega) hn
      exact (hp.map (·.n)).nodup_iff.1 h1
    rw [hl, List.map_append, List.nodup_append] at hnd
    exact hnd.2.2 y.n (List.mem_map.2 ⟨y, hyt, rfl⟩) x.n (by simp) e)

/-! ### rows -/
def cL (a b : RowD) : Int := cmpLs a.ls b.ls
theorem cL_cmp : Cmp cL := ⟨fun a b => cmpLs_neg _ _, fun a b d => cmpLs_tr _ _ _⟩
def ordB (l : List RowD) : Bool := decide ((isort cL l).Pairwise (fun a b => cL a b < 0))
def ordL (l : List RowD) : List RowD := bif ordB l then isort cL l else []
def ordE (l : List RowD) : Int := bif ordB l then 0 else 6
structure RO (l : List RowD) (i : Nat) (out : List RowD) : Prop where
  st : Strict cL out
  pm : out.Perm (l.take i)
theorem RO.zero (l : List RowD) : RO l 0 [] := ⟨List.Pairwise.nil, by simp⟩
theorem RO.len {l out : List RowD} {i : Nat} (h : RO l i out) (hi : i ≤ l.length) : out.length = i := by rw [h.pm.length_eq, List.length_take]; omega
theorem RO.next {l out : List RowD} {i k : Nat} {x : RowD} (h : RO l i out) (hx : l[i]? = some x) (h1 : ∀ j y, k ≤ j → out[j]? = some y → 0 < cmpLs y.ls x.ls) (h2 : k = 0 ∨ ∃ y, out[k - 1]? = some y ∧ ¬ 0 < cmpLs y.ls x.ls ∧ ¬ cmpLs y.ls x.ls = 0) (hk : k ≤ out.length) : RO l (i + 1) (insAt out k x) := by
  refine ⟨insAt_strict h.st (fun y hy => ?_) (fun y hy => ?_), ?_⟩
  · rcases h2 with e | ⟨z, hz, h3, h4⟩
    · rw [e] at hy; cases hy
    · have hzx : cL z x < 0 := by unfold cL; omega
      have hk0 : 0 < k := by
        rcases Nat.eq_zero_or_pos k with e | e
        · subst e; simp at hy
        · exact e
      have e1 : out.take k = out.take (k - 1) ++ [z] := by rw [← take_snoc hz]; congr 1; omega
      rw [e1] at hy
      rcases List.mem_append.1 hy with e | e
      · have hs : Strict cL (out.take (k - 1) ++ out.drop (k - 1)) := by rw [List.take_append_drop]; exact h.st
        have h5 := (List.pairwise_append.1 hs).2.2 y e z (by rw [drop_cons hz]; exact List.mem_cons_self)
        exact (cL_cmp.tr y z x).lt1 h5 (by omega)
      · rw [List.mem_singleton.1 e]; exact hzx
  · obtain ⟨j, hj⟩ := List.mem_iff_getElem?.1 hy
    rw [List.getElem?_drop] at hj
    have := h1 (k + j) y (by omega) hj
    have e := cL_cmp.neg y x
    unfold cL at *; omega
  · refine (insAt_perm out k x).trans ?_
    rw [take_snoc hx]
    exact List.Perm.append_right [x] h.pm
theorem RO.done {l out : List RowD} {i : Nat} (h : RO l i out) (hi : l.length ≤ i) : out = ordL l ∧ 0 = ordE l := by
  have hp := h.pm
  rw [List.take_of_length_le hi] at hp
  have e := strict_isort cL_cmp h.st hp
  have hb : ordB l = true := by unfold ordB; rw [e]; exact decide_eq_true h.st
  unfold ordL ordE; rw [hb, e]; exact ⟨rfl, rfl⟩
theorem ord_no {l : List RowD} (h : ordB l = false) : [] = ordL l ∧ 6 = ordE l := by unfold ordL ordE; rw [h]; exact ⟨rfl, rfl⟩
theorem RO.bad {l out : List RowD} {i k : Nat} {x y : RowD} (h : RO l i out) (hx : l[i]? = some x) (hy : out[k]? = some y) (e : cmpLs y.ls x.ls = 0) : [] = ordL l ∧ 6 = ordE l := ord_no (by
  rcases ek : ordB l with _ | _
  · rfl
  · exfalso
    have hst : Strict cL (isort cL l) := by unfold Strict; unfold ordB at ek; exact of_decide_eq_true ek
    have hp := isort_prm (c := cL) l
    have hl : l = l.take i ++ (x :: l.drop (i + 1)) := by rw [← drop_cons hx, List.take_append_drop]
    have hyt : y ∈ l.take i := h.pm.mem_iff.1 (mem_get hy)
    have hnd : (l.map (·.ls)).Nodup := by
      have h1 : ((isort cL l).map (·.ls)).Nodup := by
        rw [List.Nodup, List.pairwise_map]
        exact List.Pairwise.imp (fun {a b} hab e => by unfold cL at hab; rw [e, cmpLs_self] at hab; omega) hst
      exact (hp.map (·.ls)).nodup_iff.1 h1
    rw [hl, List.map_append, List.nodup_append] at hnd
    exact hnd.2.2 y.ls (List.mem_map.2 ⟨y, hyt, rfl⟩) x.ls (by simp) (cmpLs_eq.1 e))
def valB (v : Int) : Bool := decide (-1000000000000 ≤ v) && decide (v ≤ 1000000000000)
def rightB (l : List Lbl) : Bool := tidyOk l && decide (cmpLs (tidyL l) l = 0)
def rowsB (l : List RowD) : Bool := l.all (fun r => rightB r.ls && valB r.v)
def rtL (l : List RowD) : List RowD := bif decide (l.length ≤ 2000) && rowsB l then ordL l else []
def rtE (l : List RowD) : Int := bif decide (l.length ≤ 2000) && rowsB l then ordE l else 1
theorem rt_long {l : List RowD} (h : (2000 : Int) < ((l.length : Nat) : Int)) : [] = rtL l ∧ 1 = rtE l := by
  have : ¬ l.length ≤ 2000 := by omega
  unfold rtL rtE; rw [decide_eq_false this]; exact ⟨rfl, rfl⟩
theorem rt_bad {l : List RowD} {i : Nat} {x : RowD} (hx : l[i]? = some x) (h : (rightB x.ls && valB x.v) = false) : [] = rtL l ∧ 1 = rtE l := by
  have : rowsB l = false := by unfold rowsB; rw [List.all_eq_false]; exact ⟨x, mem_get hx, by rw [h]; simp⟩
  unfold rtL rtE; rw [this, Bool.and_false]; exact ⟨rfl, rfl⟩
theorem rt_ok {l : List RowD} (h1 : ¬ (2000 : Int) < ((l.length : Nat) : Int)) (h2 : rowsB l = true) : ordL l = rtL l ∧ ordE l = rtE l := by
  have : l.length ≤ 2000 := by omega
  unfold rtL rtE; rw [decide_eq_true this, h2]; exact ⟨rfl, rfl⟩
theorem rt_strict {l : List RowD} (h : rtE l = 0) : Strict cL (rtL l) ∧ (rtL l).Perm l := by
  unfold rtE rtL at *
  cases hb : decide (l.length ≤ 2000) && rowsB l
  · rw [hb] at h; cases h
  · rw [hb] at h
    unfold ordE at h
    simp only [cond_true] at h ⊢
    cases ho : ordB l
    · rw [ho] at h; cases h
    · unfold ordL; rw [ho]
      have hst : Strict cL (isort cL l) := by unfold Strict; unfold ordB at ho; exact of_decide_eq_true ho
      exact ⟨hst, isort_prm l⟩
/-- one more row, if it may be -/
def trStep (out : List RowD) (r : RowD) : List RowD :=
  if tidyOk r.ls = true ∧ valB r.v = true ∧ rtE (out ++ [⟨tidyL r.ls, r.v⟩]) = 0 then rtL (out ++ [⟨tidyL r.ls, r.v⟩]) else out
def tidyRs (l : List RowD) : List RowD := l.foldl trStep []
theorem tidyRs_snoc {l : List RowD} {k : Nat} {x : RowD} (h : l[k]? = some x) : tidyRs (l.take (k + 1)) = trStep (tidyRs (l.take k)) x := by
  rw [take_snoc h]; unfold tidyRs; rw [List.foldl_append]; rfl
structure TRs (l out : List RowD) : Prop where
  st : Strict cL out
  li : ∀ r ∈ out, lightL r.ls = true
  len : out.length ≤ l.length
theorem tidyL_light {l : List Lbl} (h : lightL l = true) : lightL (tidyL l) = true := by
  have h1 := tidyL_len l
  have h2 := lightL_len h
  have hm : ∀ x ∈ tidyL l, x.n.size ≤ 200 ∧ x.v.size ≤ 200 := fun x hx => light_sizes h x (tidyL_mem hx)
  unfold lightL
  rw [Bool.and_eq_true, List.all_eq_true]
  exact ⟨fun x hx => by have := hm x (List.mem_of_mem_take hx); simp [this], by rw [decide_eq_true_eq]; omega⟩
theorem tidyRs_trs : ∀ {l : List RowD}, (∀ r ∈ l, lightL r.ls = true) → TRs l (tidyRs l) := by
  intro l hl
  have key : ∀ (m out : List RowD) (n : Nat), (∀ r ∈ m, lightL r.ls = true) → Strict cL out → (∀ r ∈ out, lightL r.ls = true) → out.length ≤ n → Strict cL (m.foldl trStep out) ∧ (∀ r ∈ m.foldl trStep out, lightL r.ls = true) ∧ (m.foldl trStep out).length ≤ n + m.length := by
    intro m
    induction m with
    | nil => intro out n _ h1 h2 h3; exact ⟨h1, h2, by simpa using h3⟩
    | cons x m ih =>
      intro out n hm h1 h2 h3
      have hx := hm x List.mem_cons_self
      have hm' : ∀ r ∈ m, lightL r.ls = true := fun r hr => hm r (List.mem_cons_of_mem _ hr)
      have step : Strict cL (trStep out x) ∧ (∀ r ∈ trStep out x, lightL r.ls = true) ∧ (trStep out x).length ≤ n + 1 := by
        unfold trStep
        split
        · rename_i hc
          obtain ⟨s1, s2⟩ := rt_strict hc.2.2
          refine ⟨s1, fun r hr => ?_, by rw [s2.length_eq]; simp; omega⟩
          rcases List.mem_append.1 (s2.mem_iff.1 hr) with e | e
          · exact h2 r e
          · rw [List.mem_singleton.1 e]; exact tidyL_light hx
        · exact ⟨h1, h2, by omega⟩
      have := ih (trStep out x) (n + 1) hm' step.1 step.2.1 step.2.2
      refine ⟨this.1, this.2.1, ?_⟩
      have := this.2.2; simp only [List.foldl_cons, List.length_cons]; omega
  have := key l [] 0 hl List.Pairwise.nil (fun _ h => by cases h) (Nat.le_refl _)
  exact ⟨this.1, this.2.1, by have := this.2.2; unfold tidyRs; omega⟩
theorem rowsB_snoc {l : List RowD} {k : Nat} {x : RowD} (hx : l[k]? = some x) (h : rowsB (l.take k) = true) (hr : rightB x.ls = true) (hv : valB x.v = true) : rowsB (l.take (k + 1)) = true := by
  unfold rowsB at *; exact all_take_snoc hx h (by simp [hr, hv])
theorem light_nz {l : List Lbl} (h : lightL l = true) : ∀ x ∈ l, x.n.size ≤ 1000000 := fun x hx => by have := light_sizes h x hx; omega
theorem trStep_no {out : List RowD} {r : RowD} (h : tidyOk r.ls = false ∨ valB r.v = false) : trStep out r = out := by
  unfold trStep; rw [if_neg]; rintro ⟨h1, h2, _⟩; rcases h with h | h
  · rw [h] at h1; cases h1
  · rw [h] at h2; cases h2
theorem trStep_t {out : List RowD} {r : RowD} (h1 : tidyOk r.ls = true) (h2 : valB r.v = true) (h3 : rtE (out ++ [⟨tidyL r.ls, r.v⟩]) = 0) : trStep out r = rtL (out ++ [⟨tidyL r.ls, r.v⟩]) := by unfold trStep; rw [if_pos ⟨h1, h2, h3⟩]
theorem trStep_f {out : List RowD} {r : RowD} (h3 : ¬ rtE (out ++ [⟨tidyL r.ls, r.v⟩]) = 0) : trStep out r = out := by unfold trStep; rw [if_neg (fun h => h3 h.2.2)]
theorem trs_take {l : List RowD} (h : ∀ r ∈ l, lightL r.ls = true) (k : Nat) : TRs (l.take k) (tidyRs (l.take k)) := tidyRs_trs (fun r hr => h r (List.mem_of_mem_take hr))
end Lp
