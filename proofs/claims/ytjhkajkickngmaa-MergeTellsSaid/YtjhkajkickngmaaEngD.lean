/-
  THE ENGINE, fifth part: a region that draws its order. Its first n operations may come in any order that the edges allow; what follows comes in the order of the text.
-/
import Derived.Orders
import Derived.Test.YtjhkajkickngmaaEngE
set_option linter.unusedVariables false
namespace Lp
open Go Go.RowKit

/-- What an operation's slot holds: a value that is known, or one of which something is known that stays. -/
inductive Ent where
  | ex (d : Tmp) (v : Value)
  | op (d : Tmp) (φ : Value → World → Prop)
  /-- something is known of it until operation c, the only one that uses it, has run; 'wr': the operation itself may write into what the region has made -/
  | lin (d : Tmp) (φ : Value → World → Prop) (c : Option Nat) (wr : Bool)

def Ent.dst : Ent → Tmp
  | .ex d _ => d
  | .op d _ => d
  | .lin d _ _ _ => d
def Ent.holds : Ent → Value → World → Prop
  | .ex _ v, u, _ => u = v
  | .op _ φ, u, w => φ u w
  | .lin _ φ _ _, u, w => φ u w
def Ent.wr : Ent → Bool
  | .lin _ _ _ b => b
  | _ => false
def preOf (ops : List Oper) (i : Nat) : List Nat :=
  match nth ops i with
  | some o => (o.after.toList.filter (Region.binds .any)).map (·.on)
  | none => []

def dstOf (ops : List Oper) (i : Nat) : Option Tmp :=
  match nth ops i with
  | some o => o.dst
  | none => none

section
variable {P : Program} {N : Nat} {ops : List Oper}

def has (l : List Nat) (k : Nat) : Bool := l.any (fun j => Nat.beq j k)
def has0 (l : List Nat) (k : Nat) : Bool := l.any (fun j => Nat.beq j k)
/-- What the kernel reckons of a region: its edges lead back; the first n operations write slots of their own, none that is known; each later one waits for all. -/
def keys (l : Kn) : List Nat := l.map (·.1)
def backB (ops : List Oper) : Bool := (List.range ops.length).all fun i => (preOf ops i).all fun j => Nat.blt j i
/-- with what stands in S, all that it waits for, k and below -/
def ancS (ops : List Oper) : Nat → List Nat → List Nat
  | 0, S => S
  | k + 1, S => ancS ops k (bif has0 S k then S ++ preOf ops k else S)
def tailB (ops : List Oper) (n : Nat) : Bool := (List.range ops.length).all fun i => Nat.blt i n || (List.range i).all fun j => has0 (ancS ops i (preOf ops i)) j
theorem has0_mem {l : List Nat} {k : Nat} (h : has0 l k = true) : k ∈ l := by
  unfold has0 at h
  rw [List.any_eq_true] at h
  obtain ⟨j, hj, e⟩ := h
  have := Nat.eq_of_beq_eq_true e
  subst this; exact hj
theorem ancS_all {ops : List Oper} {p : Nat → Prop} (hd : ∀ k, p k → ∀ j ∈ preOf ops k, p j) : ∀ (k : Nat) (S : List Nat), (∀ j ∈ S, p j) → ∀ j ∈ ancS ops k S, p j
  | 0, S, h => h
  | k + 1, S, h => by
    refine ancS_all hd k _ (fun j hj => ?_)
    cases hk : has0 S k with
    | false => rw [hk] at hj; exact h j hj
    | true =>
      rw [hk] at hj
      rcases List.mem_append.1 hj with hj | hj
      · exact h j hj
      · exact hd k (h k (has0_mem hk)) j hj
def freshB (ops : List Oper) (n N : Nat) (l : Kn) : Bool :=
  Nat.ble n ops.length && (List.range n).all fun i => match dstOf ops i with
    | some d => Nat.blt d N && !(keys l).contains d && (List.range i).all fun j => dstOf ops j != some d
    | none => false
def drawB (ops : List Oper) (n N : Nat) (l : Kn) : Bool := backB ops && tailB ops n && freshB ops n N l

theorem blt_iff {a b : Nat} : Nat.blt a b = true ↔ a < b := by
  constructor
  · intro h; have h' : Nat.ble (a + 1) b = true := h; exact Nat.le_of_ble_eq_true h'
  · intro h; exact Nat.ble_eq_true_of_le h

def cnt (n : Nat) (listed : Array Bool) : Nat := (List.range n).countP fun i => !listed.getD i true

theorem countP_upd (f : Nat → Bool) (i : Nat) (hf : f i = true) : ∀ n, i < n → (List.range n).countP (fun j => if j = i then false else f j) + 1 = (List.range n).countP f
  | 0, h => by omega
  | n + 1, h => by
    rw [List.range_succ, List.countP_append, List.countP_append]
    by_cases e : i = n
    · subst e
      have : (List.range i).countP (fun j => if j = i then false else f j) = (List.range i).countP f := by
        apply List.countP_congr
        intro j hj
        have : j ≠ i := by have := List.mem_range.1 hj; omega
        simp [this]
      rw [this]; simp [hf]
    · have ih := countP_upd f i hf n (by omega)
      have hne : n ≠ i := fun x => e x.symm
      simp only [List.countP_singleton, hne, if_false]
      omega

theorem cnt_set {n i : Nat} {listed : Array Bool} (hi : i < n) (hs : listed.size = n) (h : listed.getD i true = false) : cnt n (listed.setIfInBounds i true) + 1 = cnt n listed := by
  unfold cnt
  rw [← countP_upd (fun j => !listed.getD j true) i (by simp [h]) n hi]
  congr 1
  apply List.countP_congr
  intro j hj
  by_cases e : j = i
  · subst e
    have : j < listed.size := by omega
    simp [this]
  · rw [getD_set_ne true (fun x => e x.symm)]; simp [e]

theorem preOf_mem {i j : Nat} {o : Oper} (ho : ops.toArray[i]? = some o) : j ∈ preOf ops i ↔ ∃ e ∈ o.after, Region.binds .any e = true ∧ e.on = j := by
  have hn : nth ops i = some o := by rw [nth_eq]; simpa using ho
  unfold preOf
  rw [hn]
  simp only [List.mem_map, List.mem_filter, Array.mem_toList_iff]
  constructor
  · rintro ⟨e, ⟨h1, h2⟩, h3⟩; exact ⟨e, h1, h2, h3⟩
  · rintro ⟨e, h1, h2, h3⟩; exact ⟨e, ⟨h1, h2⟩, h3⟩

theorem ready_iff {i : Nat} {listed : Array Bool} : i ∈ Region.ready .any ops.toArray listed ↔ listed.getD i true = false ∧ i < ops.length ∧ ∀ j ∈ preOf ops i, listed.getD j false = true := by
  rw [mem_ready]
  constructor
  · rintro ⟨h0, o, ho, h⟩
    refine ⟨h0, ?_, fun j hj => ?_⟩
    · have := (Array.getElem?_eq_some_iff.1 ho).1; simpa using this
    · obtain ⟨e, h1, h2, rfl⟩ := (preOf_mem ho).1 hj
      exact h e h1 h2
  · rintro ⟨h0, hlt, h⟩
    have ho : ops.toArray[i]? = some ops[i] := by simp [hlt]
    exact ⟨h0, ops[i], ho, fun e he hb => h _ ((preOf_mem ho).2 ⟨e, he, hb, rfl⟩)⟩

theorem getD_tf {listed : Array Bool} {i n : Nat} (hs : listed.size = n) (hi : i < n) : listed.getD i true = listed.getD i false := by
  subst hs; simp [hi]

/-- Some operation is ready, if one is not listed. -/
theorem some_ready {listed : Array Bool} (hs : listed.size = ops.length) (hb : backB ops = true) : ∀ (i : Nat), i < ops.length → listed.getD i true = false → Region.ready .any ops.toArray listed ≠ [] := by
  intro i
  induction i using Nat.strongRecOn with
  | _ i ih =>
    intro hi h
    by_cases hall : ∀ j ∈ preOf ops i, listed.getD j false = true
    · intro he
      have : i ∈ Region.ready .any ops.toArray listed := ready_iff.2 ⟨h, hi, hall⟩
      rw [he] at this; cases this
    · obtain ⟨j, hj, hn⟩ := Classical.not_forall.1 hall |>.imp fun j hj => Classical.not_imp.1 hj
      have hlt : j < i := by
        unfold backB at hb
        rw [List.all_eq_true] at hb
        have := hb i (List.mem_range.2 hi)
        rw [List.all_eq_true] at this
        exact blt_iff.1 (this j hj)
      refine ih j hlt (by omega) ?_
      rw [getD_tf hs (by omega)]
      simpa using hn

theorem wpAny_tail {Q : Exit → Act → World → Prop} {n : Nat} (hb : backB ops = true) (ht : tailB ops n = true) : ∀ (k m : Nat) (listed : Array Bool) (a : Act) (w : World), ops.length - m = k → n ≤ m → m ≤ ops.length → listed.size = ops.length →
    (∀ i, i < ops.length → listed.getD i true = decide (i < m)) → wpOps P ops.toArray Q (List.range' m (ops.length - m)) a w → ∀ fuel, ops.length - m ≤ fuel → wpAny P .any ops.toArray Q fuel listed a w := by
  intro k
  induction k with
  | zero =>
    intro m listed a w hk hn hm hs hl h fuel _
    have hr : Region.ready .any ops.toArray listed = [] := by
      apply List.eq_nil_iff_forall_not_mem.2
      intro i hi
      obtain ⟨h0, h1, _⟩ := ready_iff.1 hi
      rw [hl i h1] at h0
      simp at h0; omega
    rw [hk] at h
    exact wpAny_done hr h fuel
  | succ k ih =>
    intro m listed a w hk hn hm hs hl h fuel hf
    obtain ⟨fuel, rfl⟩ : ∃ f, fuel = f + 1 := ⟨fuel - 1, by omega⟩
    have hml : m < ops.length := by omega
    rw [hk, List.range'_succ] at h
    rw [wpOps_cons] at h
    have honly : ∀ i ∈ Region.ready .any ops.toArray listed, i = m := by
      intro i hi
      obtain ⟨h0, h1, h2⟩ := ready_iff.1 hi
      rw [hl i h1] at h0
      simp only [decide_eq_false_iff_not] at h0
      rcases Nat.lt_or_ge m i with hlt | hge
      · exfalso
        have hp : m ∈ ancS ops i (preOf ops i) := by
          unfold tailB at ht
          rw [List.all_eq_true] at ht
          have := ht i (List.mem_range.2 h1)
          rw [Bool.or_eq_true] at this
          rcases this with h' | h'
          · have := blt_iff.1 h'; omega
          · rw [List.all_eq_true] at h'
            exact has0_mem (h' m (List.mem_range.2 hlt))
        have hback : ∀ k, k < ops.length → ∀ j ∈ preOf ops k, j < k := by
          intro k hk j hj
          unfold backB at hb
          rw [List.all_eq_true] at hb
          have := hb k (List.mem_range.2 hk)
          rw [List.all_eq_true] at this
          exact blt_iff.1 (this j hj)
        have hpre : ∀ j ∈ preOf ops i, j < m := by
          intro j hj
          have hjl : j < ops.length := by have := hback i h1 j hj; omega
          have := h2 j hj
          rw [← getD_tf hs hjl, hl j hjl] at this
          simpa using this
        have := ancS_all (p := fun j => j < m) (fun k hk j hj => by have := hback k (by omega) j hj; omega) i _ hpre m hp
        omega
      · omega
    refine ⟨fun he => absurd he (some_ready hs hb m hml (by rw [hl m hml]; simp)), fun i hi => ?_⟩
    have := honly i hi
    subst this
    refine wpOp_mono (fun a w h' => ?_) h
    refine ih (i + 1) _ a w (by omega) (by omega) (by omega) (by simp [hs]) (fun j hj => ?_) (by rw [show ops.length - (i + 1) = k by omega]; exact h') fuel (by omega)
    by_cases e : i = j
    · subst e
      have : i < listed.size := by omega
      simp [this]
    · rw [getD_set_ne true e, hl j hj]
      rw [Bool.eq_iff_iff]; simp; omega

theorem has_mem {l : List Nat} {k : Nat} (h : has l k = true) : k ∈ l := by
  unfold has at h
  rw [List.any_eq_true] at h
  obtain ⟨j, hj, e⟩ := h
  have := Nat.eq_of_beq_eq_true e
  subst this; exact hj
/-! the rules -/
variable {l : Kn} {w : World} {K : Kn → World → Prop} {es : List Ent} {i todo : Nat} {d : Tmp} {op : Op} {ty : TypeId} {pre : List Nat}

end
end Lp
