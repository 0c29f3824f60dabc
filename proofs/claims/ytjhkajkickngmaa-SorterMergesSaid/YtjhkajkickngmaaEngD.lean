/-
  THE ENGINE, fifth part: a region that draws its order. Its first n operations may come in any order that the edges allow; what follows comes in the order of the text.
-/
import Derived.Test.YtjhkajkickngmaaEngE
import Derived.Orders
set_option linter.unusedVariables false
namespace Lp
open Go Go.RowKit

/-- What an operation's slot holds: a value that is known, or one of which something is known that stays. -/
inductive Ent where
  | ex (d : Tmp) (v : Value)
  | op (d : Tmp) (φ : Value → World → Prop)
  /-- something is known of it until operation c, the only one that uses it, has run; 'wr': the operation itself may write into what the region has made -/
  | lin (d : Tmp) (φ : Value → World → Prop) (c : Option Nat) (wr : Bool)

def Ent.dst : Ent → Tmp
  | .ex d _ => d
  | .op d _ => d
  | .lin d _ _ _ => d
def Ent.holds : Ent → Value → World → Prop
  | .ex _ v, u, _ => u = v
  | .op _ φ, u, w => φ u w
  | .lin _ φ _ _, u, w => φ u w
/-- Who uses it up; whether it writes. -/
def Ent.use : Ent → Option (Option Nat)
  | .ex _ _ => none
  | .op _ _ => some none
  | .lin _ _ c _ => some c
def Ent.wr : Ent → Bool
  | .lin _ _ _ b => b
  | _ => false
def Ent.stays : Ent → Prop
  | .ex _ _ => True
  | .op _ φ => ∀ v w w', Ext w w' → φ v w → φ v w'
  | .lin _ φ _ _ => ∀ v w w', Ext w w' → φ v w → φ v w'

theorem Ent.stays_holds {e : Ent} (h : e.stays) {v : Value} {w w' : World} (E : Ext w w') (hh : e.holds v w) : e.holds v w' := by
  cases e with
  | ex d u => exact hh
  | op d φ => exact h v w w' E hh
  | lin d φ c b => exact h v w w' E hh

/-- The entry of operation j: the newest entry stands first; i operations went ahead. -/
def ent (es : List Ent) (i j : Nat) : Option Ent := nth es (i - 1 - j)

/-- What is known of the slots of the operations that went ahead. -/
def kn (ρ : Env) (es : List Ent) (i : Nat) (l : Kn) : List Nat → Kn
  | [] => l
  | j :: r => match ent es i j with
    | some (.ex d v) => (d, v) :: kn ρ es i l r
    | some (.op d _) => (d, ρ d) :: kn ρ es i l r
    | some (.lin d _ _ _) => (d, ρ d) :: kn ρ es i l r
    | none => kn ρ es i l r

def pf (ρ : Env) (es : List Ent) (i : Nat) (w : World) (me : Nat) : List Nat → Prop
  | [] => True
  | j :: r => match ent es i j with
    | some (.op d φ) => φ (ρ d) w ∧ pf ρ es i w me r
    | some (.lin d φ (some c) _) => bif Nat.beq c me then φ (ρ d) w ∧ pf ρ es i w me r else pf ρ es i w me r
    | some (.lin d φ none _) => φ (ρ d) w ∧ pf ρ es i w me r
    | _ => pf ρ es i w me r

def preOf (ops : List Oper) (i : Nat) : List Nat :=
  match nth ops i with
  | some o => (o.after.toList.filter (Region.binds .any)).map (·.on)
  | none => []

def dstOf (ops : List Oper) (i : Nat) : Option Tmp :=
  match nth ops i with
  | some o => o.dst
  | none => none

def GOp (P : Program) (N : Nat) (ops : List Oper) (i : Nat) (ρ : Env) (kl : Kn) (w : World) (K : Value → World → Prop) : Prop :=
  ∃ d op ty g, opAt ops i = some (d, op, ty, g) ∧
    match g with
    | none => EOp P op ty ρ w K
    | some (j, want) => ∃ t u, dstOf ops j = some t ∧ Nat.blt t N = true ∧ look kl t = some u ∧ (nb u = some want → EOp P op ty ρ w K) ∧ (nb u ≠ some want → K undef w)

section
variable {P : Program} {N : Nat} {ops : List Oper}

def Step (P : Program) (N : Nat) (ops : List Oper) (l : Kn) (w : World) (es : List Ent) (n i : Nat) (e : Ent) : Prop :=
  dstOf ops i = some e.dst ∧ e.stays ∧
  ∀ ρ w', Ext w w' → Knows ρ (kn ρ es n l (preOf ops i)) → pf ρ es n w' i (preOf ops i) → GOp P N ops i ρ (kn ρ es n l (preOf ops i)) w' (fun v w'' => (e.wr = false → Ext w' w'') ∧ Ext w w'' ∧ e.holds v w'')

def FinK (K : Kn → World → Prop) : List Ent → Kn → World → Prop
  | [], l, w => K l w
  | .ex d v :: r, l, w => FinK K r ((d, v) :: l) w
  | .op d φ :: r, l, w => ∀ v, φ v w → FinK K r ((d, v) :: l) w
  | .lin d φ (some _) b :: r, l, w => ∀ v, FinK K r ((d, v) :: l) w
  | .lin d φ none b :: r, l, w => ∀ v, φ v w → FinK K r ((d, v) :: l) w

def has (l : List Nat) (k : Nat) : Bool := l.any (fun j => Nat.beq j k)
/-- No operation that writes harms what is known of others: they wait for it, or are used up by then. -/
def quietB (ops : List Oper) (us : List (Option (Option Nat) × Bool)) : Bool :=
  (List.range us.length).all fun i => match nth us (us.length - 1 - i) with
    | some (_, true) => (List.range us.length).all fun j => Nat.beq j i || match nth us (us.length - 1 - j) with
      | some (some u, _) => has (preOf ops j) i || (match u with
        | some c => Nat.beq c i || has (preOf ops i) c
        | none => false)
      | _ => true
    | _ => true

def DR (P : Program) (N : Nat) (ops : List Oper) (l : Kn) (w : World) (K : Kn → World → Prop) : Nat → Nat → List Ent → Prop
  | _, 0, es => quietB ops (es.map fun e => (e.use, e.wr)) = true ∧ ∀ w', Ext w w' → FinK K es l w'
  | i, todo + 1, es => ∃ e, Step P N ops l w es i i e ∧ DR P N ops l w K (i + 1) todo (e :: es)

theorem ent_front (fs es : List Ent) (n i j : Nat) (hi : es.length = i) (hn : (fs ++ es).length = n) (hj : j < i) : ent (fs ++ es) n j = ent es i j := by
  unfold ent
  rw [List.length_append] at hn
  rw [nth_eq, nth_eq, List.getElem?_append_right (by omega)]
  congr 1; omega

theorem kn_front (ρ : Env) (fs es : List Ent) (n i : Nat) (l : Kn) (hi : es.length = i) (hn : (fs ++ es).length = n) (pre : List Nat) (h : ∀ j ∈ pre, j < i) : kn ρ (fs ++ es) n l pre = kn ρ es i l pre := by
  induction pre with
  | nil => rfl
  | cons j r ih =>
    simp only [kn, ent_front fs es n i j hi hn (h j List.mem_cons_self), ih (fun x hx => h x (List.mem_cons_of_mem _ hx))]
theorem pf_front (ρ : Env) (fs es : List Ent) (n i : Nat) (w : World) (me : Nat) (hi : es.length = i) (hn : (fs ++ es).length = n) (pre : List Nat) (h : ∀ j ∈ pre, j < i) : pf ρ (fs ++ es) n w me pre = pf ρ es i w me pre := by
  induction pre with
  | nil => rfl
  | cons j r ih =>
    simp only [pf, ent_front fs es n i j hi hn (h j List.mem_cons_self), ih (fun x hx => h x (List.mem_cons_of_mem _ hx))]

theorem DR.spread {l : Kn} {w : World} {K : Kn → World → Prop} : ∀ (todo i : Nat) (es : List Ent), es.length = i → (∀ k, k < i + todo → ∀ j ∈ preOf ops k, j < k) → DR P N ops l w K i todo es →
    ∃ es', (∃ fs, es' = fs ++ es) ∧ es'.length = i + todo ∧ (∀ k, i ≤ k → k < i + todo → ∃ e, ent es' (i + todo) k = some e ∧ Step P N ops l w es' (i + todo) k e) ∧ quietB ops (es'.map fun e => (e.use, e.wr)) = true ∧ ∀ w', Ext w w' → FinK K es' l w'
  | 0, i, es, hl, _, h => ⟨es, ⟨[], by simp⟩, by simpa using hl, fun k h1 h2 => by omega, h⟩
  | todo + 1, i, es, hl, hp, ⟨e, hs, hr⟩ => by
    obtain ⟨es', ⟨fs, hfs⟩, hl', h1, h2⟩ := DR.spread todo (i + 1) (e :: es) (by simp [hl]) (fun k hk => hp k (by omega)) hr
    have hn : i + 1 + todo = i + (todo + 1) := by omega
    rw [hn] at h1 hl'
    have hfs' : es' = (fs ++ [e]) ++ es := by rw [hfs]; simp
    refine ⟨es', ⟨fs ++ [e], hfs'⟩, hl', fun k hk1 hk2 => ?_, h2⟩
    rcases Nat.lt_or_ge i k with h | h
    · exact h1 k (by omega) (by omega)
    · have hki : k = i := by omega
      subst hki
      have hpre : ∀ j ∈ preOf ops k, j < k := fun j hj => hp k (by omega) j hj
      have hln : ((fs ++ [e]) ++ es).length = k + (todo + 1) := by rw [← hfs']; exact hl'
      refine ⟨e, ?_, hs.1, hs.2.1, fun ρ w' E hk hpf => ?_⟩
      · have hlf : fs.length = todo := by rw [hfs] at hl'; simp at hl'; omega
        unfold ent
        rw [hfs, nth_eq, List.getElem?_append_right (by omega), show k + (todo + 1) - 1 - k - fs.length = 0 by omega]; rfl
      · rw [hfs'] at hk hpf ⊢
        rw [kn_front ρ _ es _ k l hl hln _ hpre] at hk ⊢
        rw [pf_front ρ _ es _ k w' k hl hln _ hpre] at hpf
        exact hs.2.2 ρ w' E hk hpf

def has0 (l : List Nat) (k : Nat) : Bool := l.any (fun j => Nat.beq j k)
/-- What the kernel reckons of a region: its edges lead back; the first n operations write slots of their own, none that is known; each later one waits for all. -/
def keys (l : Kn) : List Nat := l.map (·.1)
def dsts (ops : List Oper) (n : Nat) : List Nat := (List.range n).filterMap fun i => dstOf ops i
def backB (ops : List Oper) : Bool := (List.range ops.length).all fun i => (preOf ops i).all fun j => Nat.blt j i
/-- with what stands in S, all that it waits for, k and below -/
def ancS (ops : List Oper) : Nat → List Nat → List Nat
  | 0, S => S
  | k + 1, S => ancS ops k (bif has0 S k then S ++ preOf ops k else S)
def tailB (ops : List Oper) (n : Nat) : Bool := (List.range ops.length).all fun i => Nat.blt i n || (List.range i).all fun j => has0 (ancS ops i (preOf ops i)) j
theorem has0_mem {l : List Nat} {k : Nat} (h : has0 l k = true) : k ∈ l := by
  unfold has0 at h
  rw [List.any_eq_true] at h
  obtain ⟨j, hj, e⟩ := h
  have := Nat.eq_of_beq_eq_true e
  subst this; exact hj
theorem ancS_all {ops : List Oper} {p : Nat → Prop} (hd : ∀ k, p k → ∀ j ∈ preOf ops k, p j) : ∀ (k : Nat) (S : List Nat), (∀ j ∈ S, p j) → ∀ j ∈ ancS ops k S, p j
  | 0, S, h => h
  | k + 1, S, h => by
    refine ancS_all hd k _ (fun j hj => ?_)
    cases hk : has0 S k with
    | false => rw [hk] at hj; exact h j hj
    | true =>
      rw [hk] at hj
      rcases List.mem_append.1 hj with hj | hj
      · exact h j hj
      · exact hd k (h k (has0_mem hk)) j hj
def freshB (ops : List Oper) (n N : Nat) (l : Kn) : Bool :=
  Nat.ble n ops.length && (List.range n).all fun i => match dstOf ops i with
    | some d => Nat.blt d N && !(keys l).contains d && (List.range i).all fun j => dstOf ops j != some d
    | none => false
def drawB (ops : List Oper) (n N : Nat) (l : Kn) : Bool := backB ops && tailB ops n && freshB ops n N l

theorem blt_iff {a b : Nat} : Nat.blt a b = true ↔ a < b := by
  constructor
  · intro h; have h' : Nat.ble (a + 1) b = true := h; exact Nat.le_of_ble_eq_true h'
  · intro h; exact Nat.ble_eq_true_of_le h

def cnt (n : Nat) (listed : Array Bool) : Nat := (List.range n).countP fun i => !listed.getD i true

theorem countP_upd (f : Nat → Bool) (i : Nat) (hf : f i = true) : ∀ n, i < n → (List.range n).countP (fun j => if j = i then false else f j) + 1 = (List.range n).countP f
  | 0, h => by omega
  | n + 1, h => by
    rw [List.range_succ, List.countP_append, List.countP_append]
    by_cases e : i = n
    · subst e
      have : (List.range i).countP (fun j => if j = i then false else f j) = (List.range i).countP f := by
        apply List.countP_congr
        intro j hj
        have : j ≠ i := by have := List.mem_range.1 hj; omega
        simp [this]
      rw [this]; simp [hf]
    · have ih := countP_upd f i hf n (by omega)
      have hne : n ≠ i := fun x => e x.symm
      simp only [List.countP_singleton, hne, if_false]
      omega

theorem cnt_set {n i : Nat} {listed : Array Bool} (hi : i < n) (hs : listed.size = n) (h : listed.getD i true = false) : cnt n (listed.setIfInBounds i true) + 1 = cnt n listed := by
  unfold cnt
  rw [← countP_upd (fun j => !listed.getD j true) i (by simp [h]) n hi]
  congr 1
  apply List.countP_congr
  intro j hj
  by_cases e : j = i
  · subst e
    have : j < listed.size := by omega
    simp [this]
  · rw [getD_set_ne true (fun x => e x.symm)]; simp [e]

theorem preOf_mem {i j : Nat} {o : Oper} (ho : ops.toArray[i]? = some o) : j ∈ preOf ops i ↔ ∃ e ∈ o.after, Region.binds .any e = true ∧ e.on = j := by
  have hn : nth ops i = some o := by rw [nth_eq]; simpa using ho
  unfold preOf
  rw [hn]
  simp only [List.mem_map, List.mem_filter, Array.mem_toList_iff]
  constructor
  · rintro ⟨e, ⟨h1, h2⟩, h3⟩; exact ⟨e, h1, h2, h3⟩
  · rintro ⟨e, h1, h2, h3⟩; exact ⟨e, ⟨h1, h2⟩, h3⟩

theorem ready_iff {i : Nat} {listed : Array Bool} : i ∈ Region.ready .any ops.toArray listed ↔ listed.getD i true = false ∧ i < ops.length ∧ ∀ j ∈ preOf ops i, listed.getD j false = true := by
  rw [mem_ready]
  constructor
  · rintro ⟨h0, o, ho, h⟩
    refine ⟨h0, ?_, fun j hj => ?_⟩
    · have := (Array.getElem?_eq_some_iff.1 ho).1; simpa using this
    · obtain ⟨e, h1, h2, rfl⟩ := (preOf_mem ho).1 hj
      exact h e h1 h2
  · rintro ⟨h0, hlt, h⟩
    have ho : ops.toArray[i]? = some ops[i] := by simp [hlt]
    exact ⟨h0, ops[i], ho, fun e he hb => h _ ((preOf_mem ho).2 ⟨e, he, hb, rfl⟩)⟩

theorem getD_tf {listed : Array Bool} {i n : Nat} (hs : listed.size = n) (hi : i < n) : listed.getD i true = listed.getD i false := by
  subst hs; simp [hi]

/-- Some operation is ready, if one is not listed. -/
theorem some_ready {listed : Array Bool} (hs : listed.size = ops.length) (hb : backB ops = true) : ∀ (i : Nat), i < ops.length → listed.getD i true = false → Region.ready .any ops.toArray listed ≠ [] := by
  intro i
  induction i using Nat.strongRecOn with
  | _ i ih =>
    intro hi h
    by_cases hall : ∀ j ∈ preOf ops i, listed.getD j false = true
    · intro he
      have : i ∈ Region.ready .any ops.toArray listed := ready_iff.2 ⟨h, hi, hall⟩
      rw [he] at this; cases this
    · obtain ⟨j, hj, hn⟩ := Classical.not_forall.1 hall |>.imp fun j hj => Classical.not_imp.1 hj
      have hlt : j < i := by
        unfold backB at hb
        rw [List.all_eq_true] at hb
        have := hb i (List.mem_range.2 hi)
        rw [List.all_eq_true] at this
        exact blt_iff.1 (this j hj)
      refine ih j hlt (by omega) ?_
      rw [getD_tf hs (by omega)]
      simpa using hn

theorem wpAny_tail {Q : Exit → Act → World → Prop} {n : Nat} (hb : backB ops = true) (ht : tailB ops n = true) : ∀ (k m : Nat) (listed : Array Bool) (a : Act) (w : World), ops.length - m = k → n ≤ m → m ≤ ops.length → listed.size = ops.length →
    (∀ i, i < ops.length → listed.getD i true = decide (i < m)) → wpOps P ops.toArray Q (List.range' m (ops.length - m)) a w → ∀ fuel, ops.length - m ≤ fuel → wpAny P .any ops.toArray Q fuel listed a w := by
  intro k
  induction k with
  | zero =>
    intro m listed a w hk hn hm hs hl h fuel _
    have hr : Region.ready .any ops.toArray listed = [] := by
      apply List.eq_nil_iff_forall_not_mem.2
      intro i hi
      obtain ⟨h0, h1, _⟩ := ready_iff.1 hi
      rw [hl i h1] at h0
      simp at h0; omega
    rw [hk] at h
    exact wpAny_done hr h fuel
  | succ k ih =>
    intro m listed a w hk hn hm hs hl h fuel hf
    obtain ⟨fuel, rfl⟩ : ∃ f, fuel = f + 1 := ⟨fuel - 1, by omega⟩
    have hml : m < ops.length := by omega
    rw [hk, List.range'_succ] at h
    rw [wpOps_cons] at h
    have honly : ∀ i ∈ Region.ready .any ops.toArray listed, i = m := by
      intro i hi
      obtain ⟨h0, h1, h2⟩ := ready_iff.1 hi
      rw [hl i h1] at h0
      simp only [decide_eq_false_iff_not] at h0
      rcases Nat.lt_or_ge m i with hlt | hge
      · exfalso
        have hp : m ∈ ancS ops i (preOf ops i) := by
          unfold tailB at ht
          rw [List.all_eq_true] at ht
          have := ht i (List.mem_range.2 h1)
          rw [Bool.or_eq_true] at this
          rcases this with h' | h'
          · have := blt_iff.1 h'; omega
          · rw [List.all_eq_true] at h'
            exact has0_mem (h' m (List.mem_range.2 hlt))
        have hback : ∀ k, k < ops.length → ∀ j ∈ preOf ops k, j < k := by
          intro k hk j hj
          unfold backB at hb
          rw [List.all_eq_true] at hb
          have := hb k (List.mem_range.2 hk)
          rw [List.all_eq_true] at this
          exact blt_iff.1 (this j hj)
        have hpre : ∀ j ∈ preOf ops i, j < m := by
          intro j hj
          have hjl : j < ops.length := by have := hback i h1 j hj; omega
          have := h2 j hj
          rw [← getD_tf hs hjl, hl j hjl] at this
          simpa using this
        have := ancS_all (p := fun j => j < m) (fun k hk j hj => by have := hback k (by omega) j hj; omega) i _ hpre m hp
        omega
      · omega
    refine ⟨fun he => absurd he (some_ready hs hb m hml (by rw [hl m hml]; simp)), fun i hi => ?_⟩
    have := honly i hi
    subst this
    refine wpOp_mono (fun a w h' => ?_) h
    refine ih (i + 1) _ a w (by omega) (by omega) (by omega) (by simp [hs]) (fun j hj => ?_) (by rw [show ops.length - (i + 1) = k by omega]; exact h') fuel (by omega)
    by_cases e : i = j
    · subst e
      have : i < listed.size := by omega
      simp [this]
    · rw [getD_set_ne true e, hl j hj]
      rw [Bool.eq_iff_iff]; simp; omega

theorem look_app_keys {l : Kn} {t : Nat} (h : (keys l).contains t = false) : look l t = none := by
  induction l with
  | nil => rfl
  | cons x r ih =>
    obtain ⟨d, v⟩ := x
    simp only [keys, List.map_cons, List.contains_cons, Bool.or_eq_false_iff] at h
    have hne : ¬ t = d := by intro e; rw [e] at h; simp at h
    simp only [look, nbeq_ne hne, cond_false]
    exact ih h.2

theorem knows_keep {ρ ρ' : Env} {l : Kn} (h : Knows ρ l) (hk : ∀ t, (keys l).contains t = true → ρ' t = ρ t) : Knows ρ' l := by
  intro t v hv
  cases hc : (keys l).contains t with
  | false => rw [look_app_keys hc] at hv; cases hv
  | true => rw [hk t hc]; exact h t v hv

theorem knows_cons {ρ : Env} {l : Kn} (h : Knows ρ l) {d : Nat} {v : Value} (hv : ρ d = v) : Knows ρ ((d, v) :: l) := by
  intro t u hu
  simp only [look] at hu
  by_cases e : t = d
  · subst e
    rw [show Nat.beq t t = true from Nat.beq_refl t] at hu
    simp only [cond_true, Option.some.injEq] at hu
    rw [hv, hu]
  · rw [nbeq_ne e] at hu
    exact h t u hu

theorem has_mem {l : List Nat} {k : Nat} (h : has l k = true) : k ∈ l := by
  unfold has at h
  rw [List.any_eq_true] at h
  obtain ⟨j, hj, e⟩ := h
  have := Nat.eq_of_beq_eq_true e
  subst this; exact hj
theorem fin_of {K : Kn → World → Prop} {ρ : Env} {w : World} : ∀ (es : List Ent) (l : Kn), Knows ρ l → (∀ e ∈ es, (∀ c, e.use ≠ some (some c)) → e.holds (ρ e.dst) w) → FinK K es l w → ∃ l', Knows ρ l' ∧ K l' w
  | [], l, hk, _, h => ⟨l, hk, h⟩
  | .ex d v :: r, l, hk, he, h => fin_of r ((d, v) :: l) (knows_cons hk (he _ List.mem_cons_self (fun c h => by cases h))) (fun e h' => he e (List.mem_cons_of_mem _ h')) h
  | .op d φ :: r, l, hk, he, h => fin_of r ((d, ρ d) :: l) (knows_cons hk rfl) (fun e h' => he e (List.mem_cons_of_mem _ h')) (h (ρ d) (he _ List.mem_cons_self (fun c h => by cases h)))
  | .lin d φ (some c) b :: r, l, hk, he, h => fin_of r ((d, ρ d) :: l) (knows_cons hk rfl) (fun e h' => he e (List.mem_cons_of_mem _ h')) (h (ρ d))
  | .lin d φ none b :: r, l, hk, he, h => fin_of r ((d, ρ d) :: l) (knows_cons hk rfl) (fun e h' => he e (List.mem_cons_of_mem _ h')) (h (ρ d) (he _ List.mem_cons_self (fun c h => by cases h)))

theorem knows_kn {ρ : Env} {es : List Ent} {n : Nat} {l : Kn} {w : World} {me : Nat} (hk : Knows ρ l) : ∀ (pre : List Nat), (∀ j ∈ pre, ∀ e, ent es n j = some e → (∀ c, e.use = some (some c) → c = me) → e.holds (ρ e.dst) w) → Knows ρ (kn ρ es n l pre) ∧ pf ρ es n w me pre
  | [], _ => ⟨hk, trivial⟩
  | j :: r, h => by
    have ih := knows_kn (n := n) (w := w) hk r (fun x hx => h x (List.mem_cons_of_mem _ hx))
    unfold kn pf
    cases hj : ent es n j with
    | none => exact ih
    | some e =>
      have he := h j List.mem_cons_self e hj
      cases e with
      | ex d v => exact ⟨knows_cons ih.1 (he (fun c h => by cases h)), ih.2⟩
      | op d φ => exact ⟨knows_cons ih.1 rfl, he (fun c h => by cases h), ih.2⟩
      | lin d φ c b =>
        refine ⟨knows_cons ih.1 rfl, ?_⟩
        cases c with
        | none => exact ⟨he (fun c h => by cases h), ih.2⟩
        | some c =>
        show (bif Nat.beq c me then _ else _)
        by_cases hc : c = me
        · subst hc
          rw [Nat.beq_refl]
          exact ⟨he (fun c' h => by injection h with h; injection h with h; exact h.symm), ih.2⟩
        · rw [nbeq_ne hc]; exact ih.2

theorem wp_draw {c : Code} {l : Kn} {w : World} {Q : Ends} (n : Nat) (hm : P.follows .mixedOrders = true) (hc : drawOf c = some true) (hB : drawB (opsOf c) n N l = true)
    (h : DR P N (opsOf c) l w (fun l' w' => Ops P N (opsOf c) n l' w' (fun ρ w'' => Q .normal ρ w'')) 0 n []) : J P N c l w Q := by
  cases c <;> simp [drawOf] at hc
  rename_i id opsA draw
  subst hc
  simp only [opsOf] at hB h
  generalize hops : opsA.toList = ops at hB h
  have hA : opsA = ops.toArray := by rw [← hops]
  subst hA
  unfold drawB at hB
  simp only [Bool.and_eq_true] at hB
  obtain ⟨⟨hback, htail⟩, hfresh⟩ := hB
  unfold freshB at hfresh
  simp only [Bool.and_eq_true] at hfresh
  obtain ⟨hnl, hfr⟩ := hfresh
  have hnl := Nat.le_of_ble_eq_true hnl
  rw [List.all_eq_true] at hfr
  have hpre : ∀ k, k < ops.length → ∀ j ∈ preOf ops k, j < k := by
    intro k hk j hj
    unfold backB at hback
    rw [List.all_eq_true] at hback
    have := hback k (List.mem_range.2 hk)
    rw [List.all_eq_true] at this
    exact blt_iff.1 (this j hj)
  obtain ⟨es, _, hlen, hstep, hquiet, hfin⟩ := DR.spread n 0 [] rfl (fun k hk => hpre k (by omega)) h
  simp only [Nat.zero_add] at hlen hstep
  -- the slots of the first n operations
  have hd : ∀ i, i < n → ∃ e, ent es n i = some e ∧ Step P N ops l w es n i e ∧ Nat.blt e.dst N = true ∧ (keys l).contains e.dst = false ∧ ∀ j, j < i → dstOf ops j ≠ some e.dst := by
    intro i hi
    obtain ⟨e, h1, h2⟩ := hstep i (Nat.zero_le _) hi
    have hf := hfr i (List.mem_range.2 hi)
    rw [h2.1] at hf
    simp only [Bool.and_eq_true, Bool.not_eq_true'] at hf
    refine ⟨e, h1, h2, hf.1.1, hf.1.2, fun j hj => ?_⟩
    have := hf.2
    rw [List.all_eq_true] at this
    have := this j (List.mem_range.2 hj)
    simpa using this
  have hne : ∀ i j e e', i < n → j < n → i ≠ j → ent es n i = some e → ent es n j = some e' → e.dst ≠ e'.dst := by
    intro i j e e' hi hj hij h1 h2 heq
    obtain ⟨f, f1, f2, _, _, f5⟩ := hd i hi
    obtain ⟨g, g1, g2, _, _, g5⟩ := hd j hj
    have ef : e = f := Option.some.inj (h1.symm.trans f1)
    have eg : e' = g := Option.some.inj (h2.symm.trans g1)
    subst ef; subst eg
    rcases Nat.lt_or_gt_of_ne hij with hlt | hlt
    · exact g5 i hlt (by rw [f2.1, heq])
    · exact f5 j hlt (by rw [g2.1, heq])
  refine ⟨fun a ok hk => ?_⟩
  apply wp_region_any hm
  -- the invariant
  have key : ∀ (fuel : Nat) (listed : Array Bool) (a : Act) (w' : World), listed.size = ops.length → cnt ops.length listed ≤ fuel → Ok N a → Ext w w' → Knows (envOf a) l →
      (∀ i, i < n → listed.getD i true = true → ∀ e, ent es n i = some e → (∀ c, e.use = some (some c) → listed.getD c true = false) → e.holds (envOf a e.dst) w') → (∀ i, i < n → listed.getD i true = true → ∀ j ∈ preOf ops i, listed.getD j true = true) → (∀ i, n ≤ i → i < ops.length → listed.getD i true = false) →
      wpAny P .any ops.toArray (fun e a' w' => Ok N a' ∧ Q e (envOf a') w') fuel listed a w' := by
    intro fuel
    induction fuel with
    | zero =>
      intro listed a w' hs hcnt ok E hk hh hdn ht
      -- all are listed: so there is no tail
      have hall : ∀ i, i < ops.length → listed.getD i true = true := by
        intro i hi
        cases hc : listed.getD i true with
        | true => rfl
        | false =>
          have := cnt_set hi hs hc
          omega
      have hn : ops.length = n := by
        rcases Nat.lt_or_ge n ops.length with h' | h'
        · have h1 := ht n (Nat.le_refl _) h'
          rw [hall n h'] at h1; cases h1
        · omega
      refine wpAny_tail (n := n) hback htail 0 n listed a w' (by omega) (Nat.le_refl _) hnl hs (fun i hi => by rw [hall i hi]; simp; omega) ?_ 0 (by omega)
      have hes : ∀ e ∈ es, (∀ c, e.use ≠ some (some c)) → e.holds (envOf a e.dst) w' := by
        intro e he hu
        obtain ⟨i, hi⟩ := List.getElem?_of_mem he
        have hin : i < n := by
          rw [← hlen]
          exact (List.getElem?_eq_some_iff.1 hi).1
        exact hh (n - 1 - i) (by omega) (hall (n - 1 - i) (by omega)) e (by unfold ent; rw [nth_eq, show n - 1 - (n - 1 - i) = i by omega]; exact hi) (fun c hc => absurd hc (hu c))
      obtain ⟨l', hl', hO⟩ := fin_of es l hk hes (hfin w' E)
      refine wpOps_mono ?_ _ _ _ (hO.out a ok hl')
      rintro e a' w'' ⟨rfl, h1, h2⟩
      exact ⟨h1, h2⟩
    | succ fuel ih =>
      intro listed a w' hs hcnt ok E hk hh hdn ht
      by_cases hall : ∀ i, i < n → listed.getD i true = true
      · refine wpAny_tail (n := n) hback htail (ops.length - n) n listed a w' rfl (Nat.le_refl _) hnl hs (fun i hi => ?_) ?_ (fuel + 1) ?_
        · rcases Nat.lt_or_ge i n with h' | h'
          · rw [hall i h']; simp [h']
          · rw [ht i h' hi]; simp; omega
        · have hes : ∀ e ∈ es, (∀ c, e.use ≠ some (some c)) → e.holds (envOf a e.dst) w' := by
            intro e he hu
            obtain ⟨i, hi⟩ := List.getElem?_of_mem he
            have hin : i < n := by
              rw [← hlen]
              exact (List.getElem?_eq_some_iff.1 hi).1
            exact hh (n - 1 - i) (by omega) (hall (n - 1 - i) (by omega)) e (by unfold ent; rw [nth_eq, show n - 1 - (n - 1 - i) = i by omega]; exact hi) (fun c hc => absurd hc (hu c))
          obtain ⟨l', hl', hO⟩ := fin_of es l hk hes (hfin w' E)
          refine wpOps_mono ?_ _ _ _ (hO.out a ok hl')
          rintro e a' w'' ⟨rfl, h1, h2⟩
          exact ⟨h1, h2⟩
        · -- the unlisted are the tail
          refine Nat.le_trans ?_ hcnt
          unfold cnt
          have hsplit : List.range ops.length = List.range n ++ List.range' n (ops.length - n) := by
            rw [List.range_eq_range', List.range_eq_range']
            have := @List.range'_append 0 n (ops.length - n) 1
            simp only [Nat.one_mul, Nat.zero_add] at this
            rw [this]; congr 1; omega
          rw [hsplit, List.countP_append]
          have : (List.range' n (ops.length - n)).countP (fun i => !listed.getD i true) = ops.length - n := by
            rw [List.countP_eq_length.2]
            · simp
            · intro i hi
              have := List.mem_range'_1.1 hi
              rw [ht i (by omega) (by omega)]; rfl
          omega
      · obtain ⟨i0, hi0⟩ := Classical.not_forall.1 hall
        obtain ⟨hi0n, hi0u⟩ := Classical.not_imp.1 hi0
        have hi0u : listed.getD i0 true = false := by cases hx : listed.getD i0 true with | false => rfl | true => exact absurd hx hi0u
        refine ⟨fun he => absurd he (some_ready hs hback i0 (by omega) hi0u), fun i hi => ?_⟩
        obtain ⟨hu, hil, hps⟩ := ready_iff.1 hi
        have hin : i < n := by
          rcases Nat.lt_or_ge i n with h' | h'
          · exact h'
          · exfalso
            have hp : i0 ∈ ancS ops i (preOf ops i) := by
              have ht' := htail
              unfold tailB at ht'
              rw [List.all_eq_true] at ht'
              have := ht' i (List.mem_range.2 hil)
              rw [Bool.or_eq_true] at this
              rcases this with h'' | h''
              · have := blt_iff.1 h''; omega
              · rw [List.all_eq_true] at h''
                exact has0_mem (h'' i0 (List.mem_range.2 (by omega)))
            have := ancS_all (p := fun j => j < ops.length ∧ listed.getD j true = true) (fun k hk j hj => by
              have hkn : k < n := by
                rcases Nat.lt_or_ge k n with hh | hh
                · exact hh
                · have := ht k hh hk.1; rw [hk.2] at this; cases this
              exact ⟨by have := hpre k hk.1 j hj; omega, hdn k hkn hk.2 j hj⟩) i _ (fun j hj => by
              have hjl : j < ops.length := by have := hpre i hil j hj; omega
              exact ⟨hjl, by rw [getD_tf hs hjl]; exact hps j hj⟩) i0 hp
            rw [hi0u] at this
            cases this.2
        obtain ⟨e, he1, he2, he3, he4, _⟩ := hd i hin
        have hkp := knows_kn (ρ := envOf a) (es := es) (n := n) (w := w') (me := i) hk (preOf ops i) (fun j hj e' he' hc' => by
          have hjn : j < n := by have := hpre i hil j hj; omega
          exact hh j hjn (by rw [getD_tf hs (by omega)]; exact hps j hj) e' he' (fun c hc => by rw [hc' c hc]; exact hu))
        obtain ⟨d, op, ty, g, hop, hg⟩ := he2.2.2 (envOf a) w' E hkp.1 hkp.2
        obtain ⟨o, o1, o2, o3, o4, o5⟩ := opAt_some hop
        have hdst : o.dst = some e.dst := by
          have h1 := he2.1
          unfold dstOf at h1
          have : nth ops i = some o := by rw [nth_eq]; simpa using o1
          rw [this] at h1; exact h1
        have hdok : dok N (some e.dst) = true := he3
        -- behind the operation
        have after : ∀ v w'', (e.wr = false → Ext w' w'') → Ext w w'' → e.holds v w'' → wpAny P .any ops.toArray (fun e a' w' => Ok N a' ∧ Q e (envOf a') w') fuel (listed.setIfInBounds i true) (a.put o.dst v) w'' := by
          intro v w'' E' E0 hv
          have henv : envOf (a.put o.dst v) = upd (envOf a) (some e.dst) v := by rw [hdst]; exact envOf_put ok hdok v
          refine ih _ _ _ (by simp [hs]) ?_ (ok.put _ _) E0 ?_ ?_ ?_ ?_
          · have := cnt_set hil hs hu; omega
          · rw [henv]
            refine knows_keep hk (fun t ht => ?_)
            have : t ≠ e.dst := by intro h'; rw [h', he4] at ht; cases ht
            simp [upd, this]
          · intro j hj hl e' he' hal
            rw [henv]
            by_cases hij : i = j
            · subst hij
              have : e' = e := Option.some.inj (he'.symm.trans he1)
              subst this
              simpa [upd] using hv
            · have hne' : e'.dst ≠ e.dst := fun h' => hne j i e' e hj hin (fun x => hij x.symm) he' he1 h'
              rw [getD_set_ne true hij] at hl
              simp only [upd, hne', if_false]
              obtain ⟨f, f1, f2, _⟩ := hd j hj
              have : e' = f := Option.some.inj (he'.symm.trans f1)
              subst this
              have hal' : ∀ c, e'.use = some (some c) → listed.getD c true = false := by
                intro c hc
                have := hal c hc
                by_cases hic : i = c
                · subst hic; rw [getD_tf (n := ops.length) (by simp [hs]) hil] at this; simp [hs, hil] at this
                · rwa [getD_set_ne true hic] at this
              cases hwr : e.wr with
              | false => exact Ent.stays_holds f2.2.1 (E' hwr) (hh j hj hl e' he' hal')
              | true =>
                -- it writes: nothing is known of this one, or it waits, or it is used up
                cases hus : e'.use with
                | none =>
                  have hold := hh j hj hl e' he' hal'
                  cases e' with
                  | ex d u => exact hold
                  | op d φ => cases hus
                  | lin d φ c b => cases hus
                | some u =>
                  exfalso
                  have hq := hquiet
                  unfold quietB at hq
                  rw [List.all_eq_true] at hq
                  simp only [List.length_map, hlen] at hq
                  have hq1 := hq i (List.mem_range.2 hin)
                  have hgi : nth (es.map fun e => (e.use, e.wr)) (n - 1 - i) = some (e.use, true) := by
                    unfold ent at he1; rw [nth_eq] at he1 ⊢; rw [List.getElem?_map, he1]; simp [hwr]
                  rw [hgi] at hq1
                  simp only [List.all_eq_true] at hq1
                  have hq2 := hq1 j (List.mem_range.2 hj)
                  have hgj : nth (es.map fun e => (e.use, e.wr)) (n - 1 - j) = some (some u, e'.wr) := by
                    unfold ent at he'; rw [nth_eq] at he' ⊢; rw [List.getElem?_map, he']; simp [hus]
                  rw [hgj] at hq2
                  simp only [Bool.or_eq_true] at hq2
                  rcases hq2 with h' | h' | h'
                  · exact hij (Nat.eq_of_beq_eq_true h').symm
                  · have := hdn j hj hl i (has_mem h')
                    rw [hu] at this; cases this
                  · cases u with
                    | none => cases h'
                    | some c =>
                      simp only [Bool.or_eq_true] at h'
                      have hc := hal c hus
                      rcases h' with h' | h'
                      · have := Nat.eq_of_beq_eq_true h'
                        subst this
                        rw [getD_tf (n := ops.length) (by simp [hs]) hil] at hc; simp [hs, hil] at hc
                      · have hcp := hps c (has_mem h')
                        have hcl : c < ops.length := by have := hpre i hil c (has_mem h'); omega
                        have hci : i ≠ c := by have := hpre i hil c (has_mem h'); omega
                        rw [getD_set_ne true hci, getD_tf hs hcl, hcp] at hc; cases hc
          · intro j hj hl k hk'
            by_cases hij : i = j
            · subst hij
              have := hps k hk'
              have hkl : k < ops.length := by have := hpre i hil k hk'; omega
              have hki : i ≠ k := by have := hpre i hil k hk'; omega
              rw [getD_set_ne true hki, getD_tf hs hkl]; exact this
            · rw [getD_set_ne true hij] at hl
              have := hdn j hj hl k hk'
              by_cases hik : i = k
              · subst hik; rw [hu] at this; cases this
              · rw [getD_set_ne true hik]; exact this
          · intro j hj hjl
            rw [getD_set_ne true (by omega)]
            exact ht j hj hjl
        unfold wpOp
        rw [o1]
        simp only
        subst o5
        cases hgo : o.guard with
        | none =>
          rw [hgo] at hg
          rw [if_pos (by unfold Region.wanted; rw [hgo])]
          left
          apply wp_of_EOp
          rw [o3, o4]
          exact hg.mono fun v w'' ⟨h1, h2, h3⟩ => after v w'' h1 h2 h3
        | some jw =>
          obtain ⟨j, want⟩ := jw
          rw [hgo] at hg
          obtain ⟨t, b, t1, t2, t3, t4, t5⟩ := hg
          have hyv : yielded ops.toArray a.tmps j = nb b := by
            have he : envOf a t = b := hkp.1 t _ t3
            have hts : t < a.tmps.size := by rw [ok.1]; exact blt_iff.1 t2
            have hg' : a.tmps[t]? = some b := by
              simp only [envOf, Array.getD_eq_getD_getElem?] at he
              rw [Array.getElem?_eq_getElem hts] at he ⊢
              simpa using he
            unfold yielded
            unfold dstOf at t1
            cases hn : nth ops j with
            | none => rw [hn] at t1; cases t1
            | some oj =>
              rw [hn] at t1
              have : ops.toArray[j]? = some oj := by rw [nth_eq] at hn; simpa using hn
              rw [this]
              simp only [Option.bind_some, t1, hg']
              cases b <;> rfl
          by_cases hb : nb b = some want
          · rw [if_pos (by unfold Region.wanted; rw [hgo]; simp [hyv, hb])]
            left
            apply wp_of_EOp
            rw [o3, o4]
            exact (t4 hb).mono fun v w'' ⟨h1, h2, h3⟩ => after v w'' h1 h2 h3
          · rw [if_neg (by unfold Region.wanted; rw [hgo]; simp [hyv, hb])]
            obtain ⟨h1, h2, h3⟩ := t5 hb
            exact after undef w' h1 h2 h3
  refine key ops.toArray.size (Array.replicate ops.toArray.size false) a _ (by simp) ?_ ok ?_ hk ?_ ?_ ?_
  · unfold cnt
    refine Nat.le_trans (List.countP_le_length) (by simp)
  · exact Ext.drew w
  · intro i hi hl
    have : i < ops.length := by omega
    simp [this] at hl
  · intro i hi hl
    have : i < ops.length := by omega
    simp [this] at hl
  · intro i _ hi
    simp [hi]

/-! the rules -/
variable {l : Kn} {w : World} {K : Kn → World → Prop} {es : List Ent} {i todo : Nat} {d : Tmp} {op : Op} {ty : TypeId} {pre : List Nat}

theorem dr_end (hq : quietB ops (es.map fun e => (e.use, e.wr)) = true) (h : ∀ w', Ext w w' → FinK K es l w') : DR P N ops l w K i 0 es := ⟨hq, h⟩

theorem dr_val {v : Value} (ho : opAt ops i = some (some d, op, ty, none)) (hp : preOf ops i = pre)
    (h : ∀ ρ w', Ext w w' → Knows ρ (kn ρ es i l pre) → pf ρ es i w' i pre → EOp P op ty ρ w' (fun u w'' => Ext w' w'' ∧ u = v))
    (next : DR P N ops l w K (i + 1) todo (.ex d v :: es)) : DR P N ops l w K i (todo + 1) es := by
  refine ⟨.ex d v, ⟨?_, trivial, fun ρ w' E hk hpf => ⟨some d, op, ty, none, ho, ?_⟩⟩, next⟩
  · obtain ⟨o, h1, h2, _⟩ := opAt_some ho
    have : nth ops i = some o := by rw [nth_eq]; simpa using h1
    simp [dstOf, this, h2, Ent.dst]
  · rw [hp] at hk hpf; exact (h ρ w' E hk hpf).mono fun _ _ ⟨h1, h2⟩ => ⟨fun _ => h1, E.trans h1, h2⟩

theorem dr_opq {φ : Value → World → Prop} (ho : opAt ops i = some (some d, op, ty, none)) (hp : preOf ops i = pre) (hm : ∀ v w w', Ext w w' → φ v w → φ v w')
    (h : ∀ ρ w', Ext w w' → Knows ρ (kn ρ es i l pre) → pf ρ es i w' i pre → EOp P op ty ρ w' (fun u w'' => Ext w' w'' ∧ φ u w''))
    (next : DR P N ops l w K (i + 1) todo (.op d φ :: es)) : DR P N ops l w K i (todo + 1) es := by
  refine ⟨.op d φ, ⟨?_, hm, fun ρ w' E hk hpf => ⟨some d, op, ty, none, ho, ?_⟩⟩, next⟩
  · obtain ⟨o, h1, h2, _⟩ := opAt_some ho
    have : nth ops i = some o := by rw [nth_eq]; simpa using h1
    simp [dstOf, this, h2, Ent.dst]
  · rw [hp] at hk hpf; exact (h ρ w' E hk hpf).mono fun _ _ ⟨h1, h2⟩ => ⟨fun _ => h1, E.trans h1, h2⟩

/-- An operation whose result serves one other alone. -/
theorem dr_lin {φ : Value → World → Prop} (c : Nat) (ho : opAt ops i = some (some d, op, ty, none)) (hp : preOf ops i = pre) (hm : ∀ v w w', Ext w w' → φ v w → φ v w')
    (h : ∀ ρ w', Ext w w' → Knows ρ (kn ρ es i l pre) → pf ρ es i w' i pre → EOp P op ty ρ w' (fun u w'' => Ext w' w'' ∧ φ u w''))
    (next : DR P N ops l w K (i + 1) todo (.lin d φ (some c) false :: es)) : DR P N ops l w K i (todo + 1) es := by
  refine ⟨.lin d φ (some c) false, ⟨?_, hm, fun ρ w' E hk hpf => ⟨some d, op, ty, none, ho, ?_⟩⟩, next⟩
  · obtain ⟨o, h1, h2, _⟩ := opAt_some ho
    have : nth ops i = some o := by rw [nth_eq]; simpa using h1
    simp [dstOf, this, h2, Ent.dst]
  · rw [hp] at hk hpf; exact (h ρ w' E hk hpf).mono fun _ _ ⟨h1, h2⟩ => ⟨fun _ => h1, E.trans h1, h2⟩
/-- .. and that may write into what the region has made. -/
theorem dr_linw {φ : Value → World → Prop} (c : Option Nat) (ho : opAt ops i = some (some d, op, ty, none)) (hp : preOf ops i = pre) (hm : ∀ v w w', Ext w w' → φ v w → φ v w')
    (h : ∀ ρ w', Ext w w' → Knows ρ (kn ρ es i l pre) → pf ρ es i w' i pre → EOp P op ty ρ w' (fun u w'' => Ext w w'' ∧ φ u w''))
    (next : DR P N ops l w K (i + 1) todo (.lin d φ c true :: es)) : DR P N ops l w K i (todo + 1) es := by
  refine ⟨.lin d φ c true, ⟨?_, hm, fun ρ w' E hk hpf => ⟨some d, op, ty, none, ho, ?_⟩⟩, next⟩
  · obtain ⟨o, h1, h2, _⟩ := opAt_some ho
    have : nth ops i = some o := by rw [nth_eq]; simpa using h1
    simp [dstOf, this, h2, Ent.dst]
  · rw [hp] at hk hpf; exact (h ρ w' E hk hpf).mono fun _ _ ⟨h1, h2⟩ => ⟨(fun h => by cases h), h1, h2⟩

/-- A guarded operation that is wanted. -/
theorem dr_run {v : Value} {j : Nat} {want : Bool} {t : Tmp} (ho : opAt ops i = some (some d, op, ty, some (j, want))) (hp : preOf ops i = pre) (hj : dstOf ops j = some t) (ht : Nat.blt t N = true) (hb : ∀ ρ, look (kn ρ es i l pre) t = some (.bool want))
    (h : ∀ ρ w', Ext w w' → Knows ρ (kn ρ es i l pre) → pf ρ es i w' i pre → EOp P op ty ρ w' (fun u w'' => Ext w' w'' ∧ u = v))
    (next : DR P N ops l w K (i + 1) todo (.ex d v :: es)) : DR P N ops l w K i (todo + 1) es := by
  refine ⟨.ex d v, ⟨?_, trivial, fun ρ w' E hk hpf => ⟨some d, op, ty, some (j, want), ho, ?_⟩⟩, next⟩
  · obtain ⟨o, h1, h2, _⟩ := opAt_some ho
    have : nth ops i = some o := by rw [nth_eq]; simpa using h1
    simp [dstOf, this, h2, Ent.dst]
  · rw [hp] at hk hpf ⊢; exact ⟨t, .bool want, hj, ht, hb ρ, fun _ => (h ρ w' E hk hpf).mono fun _ _ ⟨h1, h2⟩ => ⟨fun _ => h1, E.trans h1, h2⟩, fun hne => absurd rfl hne⟩

theorem dr_runq {φ : Value → World → Prop} {j : Nat} {want : Bool} {t : Tmp} (ho : opAt ops i = some (some d, op, ty, some (j, want))) (hp : preOf ops i = pre) (hj : dstOf ops j = some t) (ht : Nat.blt t N = true) (hb : ∀ ρ, look (kn ρ es i l pre) t = some (.bool want)) (hm : ∀ v w w', Ext w w' → φ v w → φ v w')
    (h : ∀ ρ w', Ext w w' → Knows ρ (kn ρ es i l pre) → pf ρ es i w' i pre → EOp P op ty ρ w' (fun u w'' => Ext w' w'' ∧ φ u w''))
    (next : DR P N ops l w K (i + 1) todo (.op d φ :: es)) : DR P N ops l w K i (todo + 1) es := by
  refine ⟨.op d φ, ⟨?_, hm, fun ρ w' E hk hpf => ⟨some d, op, ty, some (j, want), ho, ?_⟩⟩, next⟩
  · obtain ⟨o, h1, h2, _⟩ := opAt_some ho
    have : nth ops i = some o := by rw [nth_eq]; simpa using h1
    simp [dstOf, this, h2, Ent.dst]
  · rw [hp] at hk hpf ⊢; exact ⟨t, .bool want, hj, ht, hb ρ, fun _ => (h ρ w' E hk hpf).mono fun _ _ ⟨h1, h2⟩ => ⟨fun _ => h1, E.trans h1, h2⟩, fun hne => absurd rfl hne⟩

/-- A guarded operation that is passed by. -/
theorem dr_skip {j : Nat} {want : Bool} {t : Tmp} (ho : opAt ops i = some (some d, op, ty, some (j, want))) (hp : preOf ops i = pre) (hj : dstOf ops j = some t) (ht : Nat.blt t N = true) (hb : ∀ ρ, look (kn ρ es i l pre) t = some (.bool (!want)))
    (next : DR P N ops l w K (i + 1) todo (.ex d undef :: es)) : DR P N ops l w K i (todo + 1) es := by
  refine ⟨.ex d undef, ⟨?_, trivial, fun ρ w' E hk hpf => ⟨some d, op, ty, some (j, want), ho, ?_⟩⟩, next⟩
  · obtain ⟨o, h1, h2, _⟩ := opAt_some ho
    have : nth ops i = some o := by rw [nth_eq]; simpa using h1
    simp [dstOf, this, h2, Ent.dst]
  · rw [hp]; exact ⟨t, .bool (!want), hj, ht, hb ρ, fun h => absurd h (by cases want <;> simp [nb]), fun _ => ⟨fun _ => Ext.rfl', E, rfl⟩⟩

theorem dr_skipu {j : Nat} {want : Bool} {t : Tmp} (ho : opAt ops i = some (some d, op, ty, some (j, want))) (hp : preOf ops i = pre) (hj : dstOf ops j = some t) (ht : Nat.blt t N = true) (hb : ∀ ρ, look (kn ρ es i l pre) t = some undef)
    (next : DR P N ops l w K (i + 1) todo (.ex d undef :: es)) : DR P N ops l w K i (todo + 1) es := by
  refine ⟨.ex d undef, ⟨?_, trivial, fun ρ w' E hk hpf => ⟨some d, op, ty, some (j, want), ho, ?_⟩⟩, next⟩
  · obtain ⟨o, h1, h2, _⟩ := opAt_some ho
    have : nth ops i = some o := by rw [nth_eq]; simpa using h1
    simp [dstOf, this, h2, Ent.dst]
  · rw [hp]; exact ⟨t, undef, hj, ht, hb ρ, fun h => absurd h (by simp [nb, undef]), fun _ => ⟨fun _ => Ext.rfl', E, rfl⟩⟩

end
end Lp
