/-
  Merging lists of rows, as plain data: which list's head comes first; what a merge is; the tree of a tournament.
-/
import Derived.Test.YtoanlikkhjohpaaGreatDK
set_option linter.unusedVariables false
namespace Lp
open Go

def hd (ll : LLs) (k : Nat) : Option RowD := (ll[k]?).bind List.head?
def pop (ll : LLs) (k : Nat) : LLs := ll.set k ((ll.getD k []).drop 1)
def za5 (ll : LLs) : Nat := (ll.map List.length).sum

/-! ### less is an order -/
theorem or2_neg {a b : Int} : or2 (-a) (-b) = - or2 a b := by unfold or2; split <;> split <;> omega
theorem cmpI_neg (a b : Int) : cmpI b a = - cmpI a b := by unfold cmpI; split <;> split <;> (try split) <;> omega
theorem cmpLbl_neg (a b : Lbl) : zbn b a = - zbn a b := by unfold zbn; rw [cmpS_neg a.n, cmpS_neg a.v, or2_neg]
theorem cmpLs_neg : ∀ a b : List Lbl, zas b a = - zas a b
  | [], [] => rfl
  | [], _ :: _ => rfl
  | _ :: _, [] => rfl
  | a :: r, b :: s => by
    unfold zas
    rw [cmpLbl_neg a b, cmpLs_neg r s]
    split <;> split <;> omega
theorem zb4 (o : Int) (a b : RowD) : zC o b a = - zC o a b := by
  unfold zC
  rw [cmpLs_neg a.ls b.ls]
  split
  · rw [cmpI_neg a.v b.v, or2_neg]
  · split
    · rw [cmpI_neg b.v a.v, or2_neg]
    · rfl
/-- Three that are compared: a sign is handed on. -/
structure Tr (c : Int) (d : Int) (e : Int) : Prop where
  le : c ≤ 0 → d ≤ 0 → e ≤ 0
  lt1 : c < 0 → d ≤ 0 → e < 0
  lt2 : c ≤ 0 → d < 0 → e < 0
  e1 : c = 0 → e = d
  e2 : d = 0 → e = c
theorem cmpS_tr (a b c : ByteArray) : Tr (cmpS a b) (cmpS b c) (cmpS a c) := by
  have n1 := cmpS_neg a b
  have n2 := cmpS_neg b c
  have t := cmpS_trans a b c
  refine ⟨t, fun h1 h2 => ?_, fun h1 h2 => ?_, fun h => ?_, fun h => ?_⟩
  · have := t (by omega) h2
    rcases Int.lt_or_eq_of_le this with h | h
    · exact h
    · rw [zdn] at h; subst h; omega
  · have := t h1 (by omega)
    rcases Int.lt_or_eq_of_le this with h | h
    · exact h
    · rw [zdn] at h; subst h; omega
  · rw [zdn] at h; rw [h]
  · rw [zdn] at h; rw [h]
theorem cmpI_tr (a b c : Int) : Tr (cmpI a b) (cmpI b c) (cmpI a c) := by
  unfold cmpI
  refine ⟨?_, ?_, ?_, ?_, ?_⟩ <;> (repeat' split) <;> omega
theorem or2_tr {a b c d e f : Int} (h : Tr a b c) (h' : Tr d e f) : Tr (or2 a d) (or2 b e) (or2 c f) := by
  obtain ⟨h1, h2, h3, h4, h5⟩ := h
  obtain ⟨k1, k2, k3, k4, k5⟩ := h'
  unfold or2
  by_cases ha : a = 0
  · have hc := h4 ha
    subst hc
    rw [if_neg (by omega)]
    by_cases hb : c = 0
    · rw [if_neg (by omega), if_neg (by omega)]; exact ⟨k1, k2, k3, k4, k5⟩
    · rw [if_pos hb, if_pos hb]
      exact ⟨fun _ h => h, fun _ h => by omega, fun _ h => h, fun _ => rfl, fun h => by omega⟩
  · by_cases hb : b = 0
    · have hc := h5 hb
      subst hc
      rw [if_pos ha, if_neg (by omega), if_pos ha]
      exact ⟨fun h _ => h, fun h _ => h, fun h _ => by omega, fun h => by omega, fun _ => rfl⟩
    · rw [if_pos ha, if_pos hb]
      have : a ≤ 0 → b ≤ 0 → c < 0 := fun p q => h2 (by omega) q
      refine ⟨fun p q => ?_, fun p q => ?_, fun p q => ?_, fun h => by omega, fun h => by omega⟩
      · rw [if_pos (by have := this p q; omega)]; exact h1 p q
      · have := this (by omega) q; rw [if_pos (by omega)]; exact this
      · have := this p (by omega); rw [if_pos (by omega)]; exact this
theorem cmpLbl_tr (a b c : Lbl) : Tr (zbn a b) (zbn b c) (zbn a c) := or2_tr (cmpS_tr _ _ _) (cmpS_tr _ _ _)
theorem Tr.zero : Tr 0 0 0 := ⟨fun h _ => h, fun h _ => h, fun _ h => h, fun _ => rfl, fun _ => rfl⟩
theorem cmpLs_tr : ∀ a b c : List Lbl, Tr (zas a b) (zas b c) (zas a c)
  | [], [], [] => Tr.zero
  | [], [], _ :: _ => by constructor <;> (intros; simp_all [zas])
  | [], _ :: _, [] => by constructor <;> (intros; simp_all [zas])
  | _ :: _, [], [] => by constructor <;> (intros; simp_all [zas])
  | [], _ :: _, _ :: _ => by
    constructor <;> intros <;> simp_all [zas]
  | _ :: _, [], _ :: _ => by constructor <;> (intros; simp_all [zas])
  | _ :: _, _ :: _, [] => by constructor <;> (intros; simp_all [zas])
  | a :: r, b :: s, c :: t => by
    have h := cmpLbl_tr a b c
    have ih := cmpLs_tr r s t
    have e : ∀ x y : Lbl, ∀ p q : List Lbl, zas (x :: p) (y :: q) = or2 (zbn x y) (zas p q) := by
      intro x y p q
      conv => lhs; unfold zas
      rfl
    rw [e, e, e]
    exact or2_tr h ih
theorem cmpRow_tr (o : Int) (a b c : RowD) : Tr (zC o a b) (zC o b c) (zC o a c) := by
  unfold zC
  split
  · exact or2_tr (cmpI_tr _ _ _) (cmpLs_tr _ _ _)
  · split
    · have := cmpI_tr c.v b.v a.v
      refine or2_tr ⟨fun h1 h2 => this.le h2 h1, fun h1 h2 => this.lt2 h2 h1, fun h1 h2 => this.lt1 h2 h1, this.e2, this.e1⟩ (cmpLs_tr _ _ _)
    · exact cmpLs_tr _ _ _

theorem zcq {o : Int} {a b : RowD} : less o a b = true ↔ zC o a b < 0 := by unfold less; simp
theorem zb3 {o : Int} {a b : RowD} : less o a b = false ↔ zC o b a ≤ 0 := by
  unfold less; rw [decide_eq_false_iff_not, zb4 o b a]; omega

/-- Of two heads, which comes first: no later than, and ahead of what stands ahead. -/
def Wins (o : Int) (ll : LLs) (m j : Nat) : Prop := ∀ y, hd ll j = some y → ∃ x, hd ll m = some x ∧ less o y x = false ∧ (j < m → less o x y = true)
theorem Wins.refl (o : Int) (ll : LLs) (m : Nat) : Wins o ll m m := fun y hy => ⟨y, hy, by rw [zb3, zb4]; have := zb4 o y y; omega, fun h => absurd h (Nat.lt_irrefl _)⟩
theorem Wins.of_none {o : Int} {ll : LLs} {m j : Nat} (h : hd ll j = none) : Wins o ll m j := fun y hy => by rw [h] at hy; cases hy
theorem Wins.trans {o : Int} {ll : LLs} {a b c : Nat} (h : Wins o ll a b) (k : Wins o ll b c) : Wins o ll a c := by
  intro y hy
  obtain ⟨x, hx, k1, k2⟩ := k y hy
  obtain ⟨u, hu, h1, h2⟩ := h x hx
  have t := cmpRow_tr o u x y
  rw [zb3] at k1 h1
  refine ⟨u, hu, ?_, fun hlt => ?_⟩
  · rw [zb3]; exact t.le h1 k1
  · rw [zcq]
    rcases Nat.lt_or_ge c b with hb | hb
    · have := k2 hb; rw [zcq] at this; exact t.lt2 h1 this
    · have := h2 (by omega); rw [zcq] at this; exact t.lt1 this k1
theorem Wins.unique {o : Int} {ll : LLs} {m m' : Nat} {x : RowD} (h : Wins o ll m m') (k : Wins o ll m' m) (hx : hd ll m = some x) : m = m' := by
  obtain ⟨x', hx', k1, k2⟩ := k x hx
  obtain ⟨x2, hx2, h1, h2⟩ := h x' hx'
  rw [hx] at hx2; injection hx2 with e; subst e
  rcases Nat.lt_trichotomy m m' with e | e | e
  · have := k2 e; rw [h1] at this; cases this
  · exact e
  · have := h2 e; rw [k1] at this; cases this

/-- Which of two comes first. -/
def zaY (o : Int) (ll : LLs) (a b : Nat) : Nat :=
  match hd ll b with
  | none => a
  | some y => match hd ll a with
    | none => b
    | some x => if less o y x = true then b else a
theorem firstN_a {o : Int} {ll : LLs} {a b : Nat} (h : a < b) : Wins o ll (zaY o ll a b) a := by
  unfold zaY
  split
  · exact Wins.refl o ll _
  · rename_i y hy
    split
    · rename_i hx; exact Wins.of_none hx
    · rename_i x hx
      split
      · rename_i hl
        intro x' hx'
        rw [hx] at hx'; injection hx' with e; subst e
        refine ⟨y, hy, ?_, fun _ => hl⟩
        rw [zb3]; rw [zcq] at hl; omega
      · exact Wins.refl o ll _
theorem firstN_b {o : Int} {ll : LLs} {a b : Nat} (h : a < b) : Wins o ll (zaY o ll a b) b := by
  unfold zaY
  split
  · rename_i hy; exact Wins.of_none hy
  · rename_i y hy
    split
    · exact Wins.refl o ll _
    · rename_i x hx
      split
      · exact Wins.refl o ll _
      · rename_i hl
        intro y' hy'
        rw [hy] at hy'; injection hy' with e; subst e
        exact ⟨x, hx, by simpa using hl, fun h' => by omega⟩

/-! ### a merge -/
/-- A merge, head by head. -/
inductive Run (o : Int) : LLs → List RowD → List Nat → Prop
  | done {ll : LLs} (h : ∀ k, hd ll k = none) : Run o ll [] []
  | step {ll : LLs} {m : Nat} {x : RowD} {rs : List RowD} {hs : List Nat} (hx : hd ll m = some x) (hw : ∀ j, Wins o ll m j) (h : Run o (pop ll m) rs hs) : Run o ll (x :: rs) (m :: hs)
theorem Run.det {o : Int} {ll : LLs} {rs rs' : List RowD} {hs hs' : List Nat} (h : Run o ll rs hs) (h' : Run o ll rs' hs') : rs = rs' ∧ hs = hs' := by
  induction h generalizing rs' hs' with
  | done h =>
    cases h' with
    | done _ => exact ⟨rfl, rfl⟩
    | step hx _ _ => rw [h] at hx; cases hx
  | step hx hw _ ih =>
    cases h' with
    | done h => rw [h] at hx; cases hx
    | step hx' hw' h' =>
      have e := (hw _).unique (hw' _) hx
      subst e
      rw [hx] at hx'; injection hx' with e; subst e
      obtain ⟨e1, e2⟩ := ih h'
      rw [e1, e2]; exact ⟨rfl, rfl⟩
/-- The steps of a merge, up to some lists. -/
inductive RunTo (o : Int) : LLs → LLs → List RowD → List Nat → Prop
  | zero {ll : LLs} : RunTo o ll ll [] []
  | snoc {ll l1 : LLs} {m : Nat} {x : RowD} {rs : List RowD} {hs : List Nat} (h : RunTo o ll l1 rs hs) (hx : hd l1 m = some x) (hw : ∀ j, Wins o l1 m j) : RunTo o ll (pop l1 m) (rs ++ [x]) (hs ++ [m])
theorem RunTo.then_ {o : Int} {ll l1 : LLs} {rs : List RowD} {hs : List Nat} (h : RunTo o ll l1 rs hs) : ∀ {rs' : List RowD} {hs' : List Nat}, Run o l1 rs' hs' → Run o ll (rs ++ rs') (hs ++ hs') := by
  induction h with
  | zero => intro rs' hs' k; exact k
  | snoc _ hx hw ih =>
    intro rs' hs' k
    have := ih (.step hx hw k)
    simpa using this
theorem RunTo.run {o : Int} {ll l1 : LLs} {rs : List RowD} {hs : List Nat} (h : RunTo o ll l1 rs hs) (k : ∀ j, hd l1 j = none) : Run o ll rs hs := by simpa using h.then_ (.done k)

theorem hd_lt {ll : LLs} {k : Nat} {x : RowD} (h : hd ll k = some x) : k < ll.length := by
  unfold hd at h
  rcases Nat.lt_or_ge k ll.length with e | e
  · exact e
  · rw [List.getElem?_eq_none e] at h; cases h
theorem zdJ {ll : LLs} {k : Nat} {x : RowD} (h : hd ll k = some x) : ∃ r, ll[k]? = some (x :: r) := by
  unfold hd at h
  cases e : ll[k]? with
  | none => rw [e] at h; cases h
  | some l =>
    rw [e] at h
    cases l with
    | nil => cases h
    | cons y r => simp at h; subst h; exact ⟨r, rfl⟩
theorem hd_pop_ne {ll : LLs} {k j : Nat} (h : j ≠ k) : hd (pop ll k) j = hd ll j := by
  unfold hd pop; rw [List.getElem?_set_ne (Ne.symm h)]
theorem pop_length (ll : LLs) (k : Nat) : (pop ll k).length = ll.length := by unfold pop; simp
theorem total_set (ll : LLs) (k : Nat) (l : List RowD) : ∀ (_ : k < ll.length), za5 (ll.set k l) + (ll.getD k []).length = za5 ll + l.length := by
  induction ll generalizing k with
  | nil => intro h; simp at h
  | cons y r ih =>
    intro h
    cases k with
    | zero => simp [za5]; omega
    | succ k =>
      have := ih k (by simpa using h)
      simp [za5] at this ⊢; omega
theorem zcD {ll : LLs} {k : Nat} {x : RowD} (h : hd ll k = some x) : za5 (pop ll k) + 1 = za5 ll := by
  obtain ⟨r, hr⟩ := zdJ h
  have hlt := hd_lt h
  have := total_set ll k ((ll.getD k []).drop 1) hlt
  have e : ll.getD k [] = x :: r := by rw [List.getD_eq_getElem?_getD, hr]; rfl
  unfold pop
  rw [e] at this ⊢
  simp at this ⊢; omega
theorem RunTo.length {o : Int} {ll l1 : LLs} {rs : List RowD} {hs : List Nat} (h : RunTo o ll l1 rs hs) : rs.length = hs.length ∧ rs.length + za5 l1 = za5 ll ∧ l1.length = ll.length := by
  induction h with
  | zero => simp
  | snoc _ hx _ ih =>
    have := zcD hx
    have := pop_length
    simp [this]; omega
theorem RunTo.mem {o : Int} {ll l1 : LLs} {rs : List RowD} {hs : List Nat} (h : RunTo o ll l1 rs hs) : (∀ r ∈ rs, ∃ l ∈ ll, r ∈ l) ∧ (∀ l1' ∈ l1, ∀ r ∈ l1', ∃ l ∈ ll, r ∈ l) ∧ ∀ k ∈ hs, k < ll.length := by
  induction h with
  | zero => exact ⟨by simp, fun l hl r hr => ⟨l, hl, hr⟩, by simp⟩
  | @snoc l1 m x rs hs h1 hx _ ih =>
    obtain ⟨i1, i2, i3⟩ := ih
    obtain ⟨t, ht⟩ := zdJ hx
    have hm : (x :: t) ∈ l1 := List.mem_of_getElem? ht
    refine ⟨fun r hr => ?_, fun l hl r hr => ?_, fun k hk => ?_⟩
    · rcases List.mem_append.1 hr with hr | hr
      · exact i1 r hr
      · simp at hr; subst hr; exact i2 _ hm _ List.mem_cons_self
    · unfold pop at hl
      rcases List.mem_or_eq_of_mem_set hl with hl | rfl
      · exact i2 l hl r hr
      · have e : l1.getD m [] = x :: t := by rw [List.getD_eq_getElem?_getD, ht]; rfl
        rw [e] at hr
        exact i2 _ hm r (List.mem_cons_of_mem _ hr)
    · rcases List.mem_append.1 hk with hk | hk
      · exact i3 k hk
      · simp at hk; subst hk; have := hd_lt hx; rw [h1.length.2.2] at this; exact this

/-! ### the tree -/
def zbQ (wd j i : Nat) : Prop := ∃ e, (wd + i) / 2 ^ e = j
/-- The entry of a place is the first of those under it. -/
def zcf (o : Int) (ll : LLs) (wd : Nat) (bs : List Nat) (j : Nat) : Prop := ∃ m, bs[j]? = some m ∧ m < wd ∧ zbQ wd j m ∧ ∀ i, i < wd → zbQ wd j i → Wins o ll m i
/-- The places above a leaf, from one on. -/
def Above (at_ j : Nat) : Prop := ∃ e, at_ / 2 ^ e = j

theorem half {n e j : Nat} (h : n / 2 ^ e = j) (he : 0 < e) : n / 2 ^ (e - 1) = 2 * j ∨ n / 2 ^ (e - 1) = 2 * j + 1 := by
  obtain ⟨e, rfl⟩ : ∃ f, e = f + 1 := ⟨e - 1, by omega⟩
  rw [Nat.pow_succ, ← Nat.div_div_eq_div_mul] at h
  simp only [Nat.add_sub_cancel]
  omega
theorem up {n e j : Nat} (h : n / 2 ^ e = j) : n / 2 ^ (e + 1) = j / 2 := by
  rw [Nat.pow_succ, ← Nat.div_div_eq_div_mul, h]
theorem zbQ.up {wd j i : Nat} (h : zbQ wd j i) : zbQ wd (j / 2) i := by obtain ⟨e, he⟩ := h; exact ⟨e + 1, Lp.up he⟩
theorem zbQ.down {wd j i : Nat} (h : zbQ wd j i) (hj : j < wd) : zbQ wd (2 * j) i ∨ zbQ wd (2 * j + 1) i := by
  obtain ⟨e, he⟩ := h
  have h0 : 0 < e := by
    rcases Nat.eq_zero_or_pos e with e0 | e0
    · subst e0; simp at he; omega
    · exact e0
  rcases half he h0 with h | h
  · exact .inl ⟨_, h⟩
  · exact .inr ⟨_, h⟩
theorem zbQ.leaf {wd k i : Nat} (h : zbQ wd (wd + k) i) (hi : i < wd) : i = k := by
  obtain ⟨e, he⟩ := h
  cases e with
  | zero => simp at he; omega
  | succ e =>
    have : (wd + i) / 2 ^ (e + 1) ≤ (wd + i) / 2 := Nat.div_le_div_left (by rw [Nat.pow_succ]; have := Nat.two_pow_pos e; omega) (by omega)
    omega
theorem zbQ.root {wd i p : Nat} (hp : wd = 2 ^ p) (hi : i < wd) : zbQ wd 1 i := by
  refine ⟨p, ?_⟩
  subst hp
  have := Nat.two_pow_pos p
  rw [Nat.add_div_left _ this, Nat.div_eq_of_lt hi]
/-- Those under the left child stand ahead of those under the right one. -/
theorem zbQ.lt {wd p j i1 i2 : Nat} (hp : wd = 2 ^ p) (hj : 1 ≤ j) (h1 : zbQ wd (2 * j) i1) (h2 : zbQ wd (2 * j + 1) i2) (l1 : i1 < wd) (l2 : i2 < wd) : i1 < i2 := by
  obtain ⟨e, he⟩ := h1
  obtain ⟨f, hf⟩ := h2
  have key : ∀ {i g y : Nat}, (wd + i) / 2 ^ g = y → i < wd → 1 ≤ y → g ≤ p ∧ 2 ^ (p - g) ≤ y ∧ y < 2 ^ (p - g + 1) := by
    intro i g y h hi hy
    have hg : g ≤ p := by
      rcases Nat.lt_or_ge p g with h' | h'
      · have : (wd + i) < 2 ^ g := by
          have : 2 ^ (p + 1) ≤ 2 ^ g := Nat.pow_le_pow_right (by omega) h'
          rw [Nat.pow_succ] at this; omega
        rw [Nat.div_eq_of_lt this] at h; omega
      · exact h'
    have e1 : wd = 2 ^ (p - g) * 2 ^ g := by rw [← Nat.pow_add, Nat.sub_add_cancel hg]; exact hp
    have hpos := Nat.two_pow_pos g
    refine ⟨hg, ?_, ?_⟩
    · rw [← h]; apply (Nat.le_div_iff_mul_le hpos).2; omega
    · rw [← h]; apply (Nat.div_lt_iff_lt_mul hpos).2
      rw [Nat.pow_succ, Nat.mul_right_comm, ← e1]; omega
  obtain ⟨a1, a2, a3⟩ := key he l1 (by omega)
  obtain ⟨b1, b2, b3⟩ := key hf l2 (by omega)
  have hef : p - e = p - f := by
    rcases Nat.lt_trichotomy (p - e) (p - f) with h | h | h
    · have : 2 ^ (p - e + 1) ≤ 2 ^ (p - f) := Nat.pow_le_pow_right (by omega) h
      omega
    · exact h
    · have h9 : 2 ^ (p - f + 1) ≤ 2 ^ (p - e) := Nat.pow_le_pow_right (by omega) h
      have : 2 ^ (p - f + 1) = 2 * 2 ^ (p - f) := by rw [Nat.pow_succ, Nat.mul_comm]
      have h8 : 2 ^ (p - e) = 2 * 2 ^ (p - e - 1) := by rw [← Nat.pow_succ']; congr 1; omega
      omega
  have hef' : e = f := by omega
  subst hef'
  rcases Nat.lt_or_ge i1 i2 with h | h
  · exact h
  · have : (wd + i2) / 2 ^ e ≤ (wd + i1) / 2 ^ e := Nat.div_le_div_right (by omega)
    omega

theorem zcf.leaf {o : Int} {ll : LLs} {wd : Nat} {bs : List Nat} {k : Nat} (h : bs[wd + k]? = some k) (hk : k < wd) : zcf o ll wd bs (wd + k) :=
  ⟨k, h, hk, ⟨0, by simp⟩, fun i hi hu => by rw [hu.leaf hi]; exact Wins.refl o ll _⟩
theorem zcf.node {o : Int} {ll : LLs} {wd p : Nat} {bs bs' : List Nat} {j a b : Nat} (hp : wd = 2 ^ p) (hj : 1 ≤ j) (hjw : j < wd) (ga : zcf o ll wd bs (2 * j)) (gb : zcf o ll wd bs (2 * j + 1)) (ha : bs[2 * j]? = some a) (hb : bs[2 * j + 1]? = some b)
    (h : bs'[j]? = some (zaY o ll a b)) : zcf o ll wd bs' j := by
  obtain ⟨a', ha', wa, ua, aa⟩ := ga
  obtain ⟨b', hb', wb, ub, ab⟩ := gb
  rw [ha] at ha'; injection ha' with e; subst e
  rw [hb] at hb'; injection hb' with e; subst e
  have hab := zbQ.lt hp hj ua ub wa wb
  have hm : zaY o ll a b = a ∨ zaY o ll a b = b := by
    unfold zaY; split
    · exact .inl rfl
    · split
      · exact .inr rfl
      · split
        · exact .inr rfl
        · exact .inl rfl
  refine ⟨_, h, by rcases hm with e | e <;> rw [e] <;> assumption, ?_, fun i hi hu => ?_⟩
  · rcases hm with e | e <;> rw [e]
    · have := ua.up; rwa [show 2 * j / 2 = j by omega] at this
    · have := ub.up; rwa [show (2 * j + 1) / 2 = j by omega] at this
  · rcases hu.down hjw with hu | hu
    · exact (firstN_a hab).trans (aa i hi hu)
    · exact (firstN_b hab).trans (ab i hi hu)
theorem zcf.other {o : Int} {ll ll' : LLs} {wd : Nat} {bs bs' : List Nat} {j : Nat} (g : zcf o ll wd bs j) (hb : bs'[j]? = bs[j]?) (hl : ∀ i, i < wd → zbQ wd j i → hd ll' i = hd ll i) : zcf o ll' wd bs' j := by
  obtain ⟨m, h1, h2, h3, h4⟩ := g
  refine ⟨m, by rw [hb, h1], h2, h3, fun i hi hu y hy => ?_⟩
  rw [hl i hi hu] at hy
  rw [hl m h2 h3]
  exact h4 i hi hu y hy

/-- All places are good. -/
def zbJ (o : Int) (ll : LLs) (wd : Nat) (bs : List Nat) : Prop := ∀ j, 1 ≤ j → j < 2 * wd → zcf o ll wd bs j
theorem zbJ.win {o : Int} {ll : LLs} {wd p : Nat} {bs : List Nat} (hp : wd = 2 ^ p) (h : zbJ o ll wd bs) (hl : ll.length ≤ wd) : ∃ m, bs[1]? = some m ∧ m < wd ∧ ∀ j, Wins o ll m j := by
  have := Nat.two_pow_pos p
  obtain ⟨m, h1, h2, _, h4⟩ := h 1 (Nat.le_refl _) (by omega)
  refine ⟨m, h1, h2, fun j => ?_⟩
  rcases Nat.lt_or_ge j wd with hj | hj
  · exact h4 j hj (zbQ.root hp hj)
  · exact Wins.of_none (by unfold hd; rw [List.getElem?_eq_none (by omega)]; rfl)

/-- While a leaf's way to the root is played: all places but those above 'at_' are good. -/
def zbX (o : Int) (ll : LLs) (wd : Nat) (bs : List Nat) (at_ : Nat) : Prop := ∀ j, 1 ≤ j → j < 2 * wd → ¬ Above at_ j → zcf o ll wd bs j
theorem zbX.first {o : Int} {ll : LLs} {wd k : Nat} {bs : List Nat} (h : zbJ o ll wd bs) (hk : k < wd) : zbX o (pop ll k) wd bs ((wd + k) / 2) := by
  intro j hj hjw hn
  by_cases hu : zbQ wd j k
  · obtain ⟨e, he⟩ := hu
    cases e with
    | zero =>
      simp at he; subst he
      obtain ⟨m, h1, h2, h3, h4⟩ := h _ hj hjw
      have := h3.leaf h2; subst this
      exact zcf.leaf h1 hk
    | succ e => exact absurd ⟨e, by rw [← he, Nat.div_div_eq_div_mul, ← Nat.pow_succ']⟩ hn
  · exact (h j hj hjw).other rfl (fun i hi hi' => hd_pop_ne (by rintro rfl; exact hu hi'))
theorem zbX.next {o : Int} {ll : LLs} {wd p at_ a b : Nat} {bs : List Nat} (hp : wd = 2 ^ p) (h : zbX o ll wd bs at_) (h1 : 1 ≤ at_) (h2 : at_ < wd) (hb : bs.length = 2 * wd) (ha : bs[2 * at_]? = some a) (hb' : bs[2 * at_ + 1]? = some b) :
    zbX o ll wd (bs.set at_ (zaY o ll a b)) (at_ / 2) := by
  have low : ∀ {e y : Nat}, at_ / 2 ^ e = y → y ≤ at_ := by intro e y h; rw [← h]; exact Nat.div_le_self _ _
  intro j hj hjw hn
  by_cases he : j = at_
  · subst he
    refine zcf.node (bs := bs) hp h1 h2 (h _ (by omega) (by omega) ?_) (h _ (by omega) (by omega) ?_) ha hb' ?_
    · rintro ⟨e, he⟩; have := low he; omega
    · rintro ⟨e, he⟩; have := low he; omega
    · rw [List.getElem?_set_self (by omega)]
  · refine (h j hj hjw ?_).other ?_ (fun _ _ _ => rfl)
    · rintro ⟨e, h3⟩
      cases e with
      | zero => simp at h3; exact he h3.symm
      | succ e => exact hn ⟨e, by rw [← h3, Nat.div_div_eq_div_mul, ← Nat.pow_succ']⟩
    · rw [List.getElem?_set_ne (Ne.symm he)]
theorem zbX.last {o : Int} {ll : LLs} {wd : Nat} {bs : List Nat} (h : zbX o ll wd bs 0) : zbJ o ll wd bs := fun j h1 h2 => h j h1 h2 (by rintro ⟨e, he⟩; simp at he; omega)

/-- While the tree is made: all places from some on are good. -/
def zcC (o : Int) (ll : LLs) (wd : Nat) (bs : List Nat) (a : Nat) : Prop := ∀ j, a < j → j < 2 * wd → zcf o ll wd bs j
theorem zcC.next {o : Int} {ll : LLs} {wd p at_ a b : Nat} {bs : List Nat} (hp : wd = 2 ^ p) (h : zcC o ll wd bs at_) (h1 : 1 ≤ at_) (h2 : at_ < wd) (hb : bs.length = 2 * wd) (ha : bs[2 * at_]? = some a) (hb' : bs[2 * at_ + 1]? = some b) :
    zcC o ll wd (bs.set at_ (zaY o ll a b)) (at_ - 1) := by
  intro j hj hjw
  by_cases he : j = at_
  · subst he
    exact zcf.node (bs := bs) hp h1 h2 (h _ (by omega) (by omega)) (h _ (by omega) (by omega)) ha hb' (by rw [List.getElem?_set_self (by omega)])
  · exact (h j (by omega) hjw).other (by rw [List.getElem?_set_ne (Ne.symm he)]) (fun _ _ _ => rfl)
theorem zcC.first {o : Int} {ll : LLs} {wd : Nat} {bs : List Nat} (h : ∀ k, k < wd → bs[wd + k]? = some k) : zcC o ll wd bs (wd - 1) := by
  intro j hj hjw
  have := h (j - wd) (by omega)
  have e : j = wd + (j - wd) := by omega
  rw [e]
  exact zcf.leaf this (by omega)
theorem zcC.last {o : Int} {ll : LLs} {wd : Nat} {bs : List Nat} (h : zcC o ll wd bs 0) : zbJ o ll wd bs := fun j h1 h2 => h j h1 h2
end Lp
/-
  Stable sorting, as plain data, for any way of comparing: what comes out is one list alone; insertion sort as Go's library does it.
-/
set_option linter.unusedVariables false
namespace Lp
open Go
section
variable {α : Type} {c : α → α → Int}

structure Cmp (c : α → α → Int) : Prop where
  neg : ∀ a b, c b a = - c a b
  tr : ∀ a b d, Tr (c a b) (c b d) (c a d)
theorem Cmp.self (h : Cmp c) (a : α) : c a a = 0 := by have := h.neg a a; omega
def Srt (c : α → α → Int) (l : List α) : Prop := l.Pairwise (fun a b => c a b ≤ 0)
def eqv (c : α → α → Int) (k x : α) : Bool := decide (c k x = 0)
structure Stab (c : α → α → Int) (l r : List α) : Prop where
  srt : Srt c r
  same : ∀ k, r.filter (eqv c k) = l.filter (eqv c k)

theorem zcu (h : Cmp c) (a : α) : eqv c a a = true := by unfold eqv; simp [h.self a]
theorem Srt.unique (h : Cmp c) : ∀ a b : List α, Srt c a → Srt c b → (∀ k, a.filter (eqv c k) = b.filter (eqv c k)) → a = b
  | [], [], _, _, _ => rfl
  | [], y :: b, _, _, hs => by
    have := hs y; rw [List.filter_cons_of_pos (zcu h y)] at this; cases this
  | x :: a, [], _, _, hs => by
    have := hs x; rw [List.filter_cons_of_pos (zcu h x)] at this; cases this
  | x :: a, y :: b, ha, hb, hs => by
    have hx : x ∈ y :: b := by
      have : x ∈ (y :: b).filter (eqv c x) := by rw [← hs x, List.filter_cons_of_pos (zcu h x)]; exact List.mem_cons_self
      exact (List.mem_filter.1 this).1
    have hy : y ∈ x :: a := by
      have : y ∈ (x :: a).filter (eqv c y) := by rw [hs y, List.filter_cons_of_pos (zcu h y)]; exact List.mem_cons_self
      exact (List.mem_filter.1 this).1
    have h1 : c y x ≤ 0 := by
      rcases List.mem_cons.1 hx with e | e
      · rw [e, h.self]; exact Int.le_refl _
      · exact (List.pairwise_cons.1 hb).1 x e
    have h2 : c x y ≤ 0 := by
      rcases List.mem_cons.1 hy with e | e
      · rw [e, h.self]; exact Int.le_refl _
      · exact (List.pairwise_cons.1 ha).1 y e
    have h3 : c x y = 0 := by have := h.neg x y; omega
    have e1 : eqv c x y = true := by unfold eqv; simp [h3]
    have := hs x
    rw [List.filter_cons_of_pos (zcu h x), List.filter_cons_of_pos e1] at this
    injection this with hxy _
    subst hxy
    congr 1
    refine Srt.unique h a b (List.pairwise_cons.1 ha).2 (List.pairwise_cons.1 hb).2 (fun k => ?_)
    have := hs k
    simp only [List.filter_cons] at this
    split at this
    · injection this
    · exact this
theorem Stab.eq (h : Cmp c) {l a b : List α} (ha : Stab c l a) (hb : Stab c l b) : a = b := Srt.unique h a b ha.srt hb.srt (fun k => (ha.same k).trans (hb.same k).symm)
theorem Stab.trans {l a b : List α} (ha : Stab c l a) (hb : Stab c a b) : Stab c l b := ⟨hb.srt, fun k => (hb.same k).trans (ha.same k)⟩
theorem Stab.mem (h : Cmp c) {l a : List α} (ha : Stab c l a) (x : α) : x ∈ a ↔ x ∈ l := by
  have := ha.same x
  constructor
  · intro hx
    have : x ∈ l.filter (eqv c x) := by rw [← this]; exact List.mem_filter.2 ⟨hx, zcu h x⟩
    exact (List.mem_filter.1 this).1
  · intro hx
    have : x ∈ a.filter (eqv c x) := by rw [this]; exact List.mem_filter.2 ⟨hx, zcu h x⟩
    exact (List.mem_filter.1 this).1

/-! ### insertion -/
/-- into a list the other way round -/
def insB (c : α → α → Int) (x : α) : List α → List α
  | [] => [x]
  | y :: r => if c x y < 0 then y :: insB c x r else x :: y :: r
def ins (c : α → α → Int) (x : α) (l : List α) : List α := (insB c x l.reverse).reverse
theorem ins_nil (x : α) : ins c x [] = [x] := rfl
theorem ins_lt {x y : α} {l : List α} (h : c x y < 0) : ins c x (l ++ [y]) = ins c x l ++ [y] := by
  unfold ins; rw [List.reverse_append]; simp [insB, h]
theorem ins_ge {x y : α} {l : List α} (h : ¬ c x y < 0) : ins c x (l ++ [y]) = l ++ [y, x] := by
  unfold ins; rw [List.reverse_append]; simp [insB, h]
theorem insB_len (x : α) : ∀ l : List α, (insB c x l).length = l.length + 1
  | [] => rfl
  | y :: r => by unfold insB; split <;> simp [insB_len x r]
theorem ins_len (x : α) (l : List α) : (ins c x l).length = l.length + 1 := by unfold ins; simp [insB_len]
theorem ins_stab (h : Cmp c) (x : α) : ∀ (n : Nat) (l : List α), l.length = n → Srt c l → Srt c (ins c x l) ∧ (∀ k, (ins c x l).filter (eqv c k) = (l ++ [x]).filter (eqv c k)) ∧ ∀ z ∈ ins c x l, z = x ∨ z ∈ l := by
  intro n
  induction n with
  | zero =>
    intro l hl _
    have : l = [] := List.eq_nil_of_length_eq_zero hl
    subst this
    exact ⟨by simp [Srt, ins_nil], fun k => rfl, fun z hz => by simp [ins_nil] at hz; exact .inl hz⟩
  | succ n ih =>
    intro l hl hs
    obtain ⟨l, y, rfl⟩ : ∃ q y, l = q ++ [y] := by
      have hne : l ≠ [] := by intro e; rw [e] at hl; simp at hl
      exact ⟨l.dropLast, l.getLast hne, (List.dropLast_concat_getLast hne).symm⟩
    have hq := List.pairwise_append.1 hs
    by_cases hc : c x y < 0
    · obtain ⟨i1, i2, i3⟩ := ih l (by simpa using hl) hq.1
      rw [ins_lt hc]
      refine ⟨List.pairwise_append.2 ⟨i1, by simp, fun a ha b hb => ?_⟩, fun k => ?_, fun z hz => ?_⟩
      · simp at hb; subst hb
        rcases i3 a ha with rfl | ha'
        · omega
        · exact hq.2.2 a ha' b (by simp)
      · rw [List.filter_append, i2 k]
        simp only [List.filter_append, List.append_assoc]
        congr 1
        by_cases hx : eqv c k x = true
        · have hy : eqv c k y = false := by
            unfold eqv at hx ⊢
            simp only [decide_eq_true_eq, decide_eq_false_iff_not] at hx ⊢
            intro hy
            have e1 := (h.tr k x y).e1 hx
            have e2 : c k y = 0 := hy
            omega
          simp [hx, hy]
        · simp [hx]
      · rcases List.mem_append.1 hz with hz | hz
        · rcases i3 z hz with e | e
          · exact .inl e
          · exact .inr (List.mem_append_left _ e)
        · exact .inr (List.mem_append_right _ hz)
    · rw [ins_ge hc]
      refine ⟨?_, fun k => by simp, fun z hz => by simp at hz ⊢; rcases hz with h | h | h <;> simp [h]⟩
      have hyx : c y x ≤ 0 := by have := h.neg x y; omega
      rw [show l ++ [y, x] = (l ++ [y]) ++ [x] by simp]
      refine List.pairwise_append.2 ⟨hs, by simp, fun a ha b hb => ?_⟩
      simp at hb; subst hb
      rcases List.mem_append.1 ha with ha | ha
      · exact (h.tr a y b).le (hq.2.2 a ha y (by simp)) hyx
      · simp at ha; subst ha; exact hyx
/-- insertion sort -/
def zag (c : α → α → Int) (l : List α) : List α := l.foldl (fun r x => ins c x r) []
theorem isort_snoc (l : List α) (x : α) : zag c (l ++ [x]) = ins c x (zag c l) := by unfold zag; rw [List.foldl_append]; rfl
theorem isort_len : ∀ (n : Nat) (l : List α), l.length = n → (zag c l).length = n
  | 0, l, h => by rw [List.eq_nil_of_length_eq_zero h]; rfl
  | n + 1, l, h => by
    have hne : l ≠ [] := by intro e; rw [e] at h; simp at h
    rw [← List.dropLast_concat_getLast hne, isort_snoc, ins_len, isort_len n _ (by simp [h])]
theorem zaJ (h : Cmp c) : ∀ (n : Nat) (l : List α), l.length = n → Stab c l (zag c l)
  | 0, l, hl => by rw [List.eq_nil_of_length_eq_zero hl]; exact ⟨by simp [Srt, zag], fun _ => rfl⟩
  | n + 1, l, hl => by
    have hne : l ≠ [] := by intro e; rw [e] at hl; simp at hl
    have ih := zaJ h n l.dropLast (by simp [hl])
    have hi := ins_stab h (l.getLast hne) _ (zag c l.dropLast) rfl ih.srt
    conv => arg 2; rw [← List.dropLast_concat_getLast hne]
    conv => arg 3; rw [← List.dropLast_concat_getLast hne]
    rw [isort_snoc]
    refine ⟨hi.1, fun k => ?_⟩
    rw [hi.2.1 k, List.filter_append, List.filter_append, ih.same k]

/-! ### as the library does it -/
/-- The element at j goes down to its place, no further than a. -/
def bub (c : α → α → Int) (a : Nat) : Nat → List α → List α
  | 0, L => L
  | j + 1, L => if a < j + 1 then match L[j + 1]?, L[j]? with
    | some x, some y => if c x y < 0 then bub c a j ((L.set (j + 1) y).set j x) else L
    | _, _ => L
  else L
theorem bub_lt {a j : Nat} {L : List α} {x y : α} (h : a < j + 1) (hx : L[j + 1]? = some x) (hy : L[j]? = some y) (hc : c x y < 0) : bub c a (j + 1) L = bub c a j ((L.set (j + 1) y).set j x) := by
  conv => lhs; unfold bub
  rw [if_pos h, hx, hy]; simp only; rw [if_pos hc]
theorem bub_ge {a j : Nat} {L : List α} {x y : α} (hx : L[j + 1]? = some x) (hy : L[j]? = some y) (hc : ¬ c x y < 0) : bub c a (j + 1) L = L := by
  unfold bub; split
  · rw [hx, hy]; simp only; rw [if_neg hc]
  · rfl
theorem bub_lt' {a j : Nat} {L : List α} {x y : α} (h : a < j) (hx : L[j]? = some x) (hy : L[j - 1]? = some y) (hc : c x y < 0) : bub c a j L = bub c a (j - 1) ((L.set j y).set (j - 1) x) := by
  obtain ⟨m, rfl⟩ : ∃ m, j = m + 1 := ⟨j - 1, by omega⟩
  exact bub_lt h hx hy hc
theorem bub_ge' {a j : Nat} {L : List α} {x y : α} (hx : L[j]? = some x) (hy : L[j - 1]? = some y) (hc : ¬ c x y < 0) : bub c a j L = L := by
  cases j with
  | zero => rfl
  | succ j => exact bub_ge hx hy hc
theorem bub_end {a j : Nat} {L : List α} (h : j ≤ a) : bub c a j L = L := by
  cases j with
  | zero => rfl
  | succ j => unfold bub; rw [if_neg (by omega)]
theorem set_swap {A R : List α} {x y : α} : ((A ++ y :: x :: R).set (A.length + 1) y).set A.length x = A ++ x :: y :: R := by
  rw [List.set_append_right _ _ (by omega), List.set_append_right _ _ (by omega)]
  simp
theorem bub_ins {A R : List α} {x : α} : ∀ (n : Nat) (P : List α), P.length = n → bub c A.length (A.length + n) (A ++ P ++ x :: R) = A ++ ins c x P ++ R := by
  intro n
  induction n generalizing R with
  | zero => intro P hP; rw [List.eq_nil_of_length_eq_zero hP, bub_end (by omega), ins_nil]; simp
  | succ n ih =>
    intro P hP
    obtain ⟨P, y, rfl⟩ : ∃ q y, P = q ++ [y] := by
      have hne : P ≠ [] := by intro e; rw [e] at hP; simp at hP
      exact ⟨P.dropLast, P.getLast hne, (List.dropLast_concat_getLast hne).symm⟩
    have hPn : P.length = n := by simpa using hP
    have e : A ++ (P ++ [y]) ++ x :: R = (A ++ P) ++ y :: x :: R := by simp
    have hx : ((A ++ P) ++ y :: x :: R)[A.length + n + 1]? = some x := by rw [List.getElem?_append_right (by simp; omega)]; simp [hPn]
    have hy : ((A ++ P) ++ y :: x :: R)[A.length + n]? = some y := by rw [List.getElem?_append_right (by simp; omega)]; simp [hPn]
    rw [e, show A.length + (n + 1) = A.length + n + 1 by omega]
    by_cases hc : c x y < 0
    · rw [bub_lt (by omega) hx hy hc, ins_lt hc]
      have := set_swap (A := A ++ P) (R := R) (x := x) (y := y)
      rw [List.length_append, hPn] at this
      rw [this]
      have := ih (R := y :: R) P hPn
      rw [List.append_assoc A P] at this ⊢
      rw [this]; simp
    · rw [bub_ge hx hy hc, ins_ge hc]; simp
/-- insertion sort from i on -/
def isrt (c : α → α → Int) (a b : Nat) : Nat → Nat → List α → List α
  | 0, _, L => L
  | n + 1, i, L => if i < b then isrt c a b n (i + 1) (bub c a i L) else L
theorem zcN {a b n i : Nat} {L : List α} (h : i < b) : isrt c a b (n + 1) i L = isrt c a b n (i + 1) (bub c a i L) := by
  conv => lhs; unfold isrt
  rw [if_pos h]
theorem zcO {a b n i : Nat} {L : List α} (h : b ≤ i) : isrt c a b n i L = L := by
  cases n with
  | zero => rfl
  | succ n => unfold isrt; rw [if_neg (by omega)]
theorem isrt_isort {A R : List α} : ∀ (n : Nat) (S T : List α), T.length = n → isrt c A.length (A.length + S.length + n) n (A.length + S.length) (A ++ zag c S ++ T ++ R) = A ++ zag c (S ++ T) ++ R := by
  intro n
  induction n with
  | zero => intro S T hT; rw [List.eq_nil_of_length_eq_zero hT]; simp [isrt]
  | succ n ih =>
    intro S T hT
    cases T with
    | nil => simp at hT
    | cons x T =>
      have hTn : T.length = n := by simpa using hT
      rw [zcN (by omega)]
      have hb := bub_ins (c := c) (A := A) (R := T ++ R) (x := x) S.length (zag c S) (isort_len _ _ rfl)
      rw [show A ++ zag c S ++ (x :: T) ++ R = A ++ zag c S ++ x :: (T ++ R) by simp, hb]
      have := ih (S ++ [x]) T hTn
      rw [isort_snoc, List.length_append, List.length_singleton] at this
      rw [show A.length + S.length + (n + 1) = A.length + (S.length + 1) + n by omega, show A.length + S.length + 1 = A.length + (S.length + 1) by omega]
      rw [show A ++ ins c x (zag c S) ++ (T ++ R) = A ++ ins c x (zag c S) ++ T ++ R by simp, this]
      simp
end
end Lp
