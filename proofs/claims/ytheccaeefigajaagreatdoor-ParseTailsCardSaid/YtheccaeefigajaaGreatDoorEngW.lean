/-
  THE ENGINE, fifth part: a region that draws its order. Its first n operations may come in any order that the edges allow; what follows comes in the order of the text.
-/
import Derived.Orders
import Derived.Great.BuildSlice
import Derived.Lib.Bytealg
import Derived.Laws.Externs
import Derived.Test.YtheccaeefigajaaGreatDoorEngE
set_option linter.unusedVariables false
namespace Lp
open Go Go.RowKit

/-- What an operation's slot holds: a value that is known, or one of which something is known that stays. -/
inductive Ent where
  | ex (d : Tmp) (v : Value)
  | op (d : Tmp) (φ : Value → World → Prop)
  /-- something is known of it until operation c, the only one that uses it, has run; 'wr': the operation itself may write into what the region has made -/
  | lin (d : Tmp) (φ : Value → World → Prop) (c : Option Nat) (wr : Bool)

def Ent.dst : Ent → Tmp
  | .ex d _ => d
  | .op d _ => d
  | .lin d _ _ _ => d
def Ent.holds : Ent → Value → World → Prop
  | .ex _ v, u, _ => u = v
  | .op _ φ, u, w => φ u w
  | .lin _ φ _ _, u, w => φ u w
def Ent.wr : Ent → Bool
  | .lin _ _ _ b => b
  | _ => false
/-- The entry of operation j: the newest entry stands first; i operations went ahead. -/
def ent (es : List Ent) (i j : Nat) : Option Ent := nth es (i - 1 - j)

/-- What is known of the slots of the operations that went ahead. -/
def kn (ρ : Env) (es : List Ent) (i : Nat) (l : Kn) : List Nat → Kn
  | [] => l
  | j :: r => match ent es i j with
    | some (.ex d v) => (d, v) :: kn ρ es i l r
    | some (.op d _) => (d, ρ d) :: kn ρ es i l r
    | some (.lin d _ _ _) => (d, ρ d) :: kn ρ es i l r
    | none => kn ρ es i l r

def zas (ops : List Oper) (i : Nat) : List Nat :=
  match nth ops i with
  | some o => (o.after.toList.filter (Region.binds .any)).map (·.on)
  | none => []

def zaS (ops : List Oper) (i : Nat) : Option Tmp :=
  match nth ops i with
  | some o => o.dst
  | none => none

section
variable {P : Program} {N : Nat} {ops : List Oper}

def has (l : List Nat) (k : Nat) : Bool := l.any (fun j => Nat.beq j k)
def has0 (l : List Nat) (k : Nat) : Bool := l.any (fun j => Nat.beq j k)
/-- What the kernel reckons of a region: its edges lead back; the first n operations write slots of their own, none that is known; each later one waits for all. -/
def keys (l : Kn) : List Nat := l.map (·.1)
def zem (ops : List Oper) : Bool := (List.range ops.length).all fun i => (zas ops i).all fun j => Nat.blt j i
/-- with what stands in S, all that it waits for, k and below -/
def ancS (ops : List Oper) : Nat → List Nat → List Nat
  | 0, S => S
  | k + 1, S => ancS ops k (bif has0 S k then S ++ zas ops k else S)
def zeA (ops : List Oper) (n : Nat) : Bool := (List.range ops.length).all fun i => Nat.blt i n || (List.range i).all fun j => has0 (ancS ops i (zas ops i)) j
theorem zdc {l : List Nat} {k : Nat} (h : has0 l k = true) : k ∈ l := by
  unfold has0 at h
  rw [List.any_eq_true] at h
  obtain ⟨j, hj, e⟩ := h
  have := Nat.eq_of_beq_eq_true e
  subst this; exact hj
theorem zdH {ops : List Oper} {p : Nat → Prop} (hd : ∀ k, p k → ∀ j ∈ zas ops k, p j) : ∀ (k : Nat) (S : List Nat), (∀ j ∈ S, p j) → ∀ j ∈ ancS ops k S, p j
  | 0, S, h => h
  | k + 1, S, h => by
    refine zdH hd k _ (fun j hj => ?_)
    cases hk : has0 S k with
    | false => rw [hk] at hj; exact h j hj
    | true =>
      rw [hk] at hj
      rcases List.mem_append.1 hj with hj | hj
      · exact h j hj
      · exact hd k (h k (zdc hk)) j hj
def freshB (ops : List Oper) (n N : Nat) (l : Kn) : Bool :=
  Nat.ble n ops.length && (List.range n).all fun i => match zaS ops i with
    | some d => Nat.blt d N && !(keys l).contains d && (List.range i).all fun j => zaS ops j != some d
    | none => false
def drawB (ops : List Oper) (n N : Nat) (l : Kn) : Bool := zem ops && zeA ops n && freshB ops n N l

theorem zbn {a b : Nat} : Nat.blt a b = true ↔ a < b := by
  constructor
  · intro h; have h' : Nat.ble (a + 1) b = true := h; exact Nat.le_of_ble_eq_true h'
  · intro h; exact Nat.ble_eq_true_of_le h

def cnt (n : Nat) (listed : Array Bool) : Nat := (List.range n).countP fun i => !listed.getD i true

theorem countP_upd (f : Nat → Bool) (i : Nat) (hf : f i = true) : ∀ n, i < n → (List.range n).countP (fun j => if j = i then false else f j) + 1 = (List.range n).countP f
  | 0, h => by omega
  | n + 1, h => by
    rw [List.range_succ, List.countP_append, List.countP_append]
    by_cases e : i = n
    · subst e
      have : (List.range i).countP (fun j => if j = i then false else f j) = (List.range i).countP f := by
        apply List.countP_congr
        intro j hj
        have : j ≠ i := by have := List.mem_range.1 hj; omega
        simp [this]
      rw [this]; simp [hf]
    · have ih := countP_upd f i hf n (by omega)
      have hne : n ≠ i := fun x => e x.symm
      simp only [List.countP_singleton, hne, if_false]
      omega

theorem cnt_set {n i : Nat} {listed : Array Bool} (hi : i < n) (hs : listed.size = n) (h : listed.getD i true = false) : cnt n (listed.setIfInBounds i true) + 1 = cnt n listed := by
  unfold cnt
  rw [← countP_upd (fun j => !listed.getD j true) i (by simp [h]) n hi]
  congr 1
  apply List.countP_congr
  intro j hj
  by_cases e : j = i
  · subst e
    have : j < listed.size := by omega
    simp [this]
  · rw [getD_set_ne true (fun x => e x.symm)]; simp [e]

theorem preOf_mem {i j : Nat} {o : Oper} (ho : ops.toArray[i]? = some o) : j ∈ zas ops i ↔ ∃ e ∈ o.after, Region.binds .any e = true ∧ e.on = j := by
  have hn : nth ops i = some o := by rw [zbm]; simpa using ho
  unfold zas
  rw [hn]
  simp only [List.mem_map, List.mem_filter, Array.mem_toList_iff]
  constructor
  · rintro ⟨e, ⟨h1, h2⟩, h3⟩; exact ⟨e, h1, h2, h3⟩
  · rintro ⟨e, h1, h2, h3⟩; exact ⟨e, ⟨h1, h2⟩, h3⟩

theorem zc4 {i : Nat} {listed : Array Bool} : i ∈ Region.ready .any ops.toArray listed ↔ listed.getD i true = false ∧ i < ops.length ∧ ∀ j ∈ zas ops i, listed.getD j false = true := by
  rw [mem_ready]
  constructor
  · rintro ⟨h0, o, ho, h⟩
    refine ⟨h0, ?_, fun j hj => ?_⟩
    · have := (Array.getElem?_eq_some_iff.1 ho).1; simpa using this
    · obtain ⟨e, h1, h2, rfl⟩ := (preOf_mem ho).1 hj
      exact h e h1 h2
  · rintro ⟨h0, hlt, h⟩
    have ho : ops.toArray[i]? = some ops[i] := by simp [hlt]
    exact ⟨h0, ops[i], ho, fun e he hb => h _ ((preOf_mem ho).2 ⟨e, he, hb, rfl⟩)⟩

theorem zdL {listed : Array Bool} {i n : Nat} (hs : listed.size = n) (hi : i < n) : listed.getD i true = listed.getD i false := by
  subst hs; simp [hi]

/-- Some operation is ready, if one is not listed. -/
theorem some_ready {listed : Array Bool} (hs : listed.size = ops.length) (hb : zem ops = true) : ∀ (i : Nat), i < ops.length → listed.getD i true = false → Region.ready .any ops.toArray listed ≠ [] := by
  intro i
  induction i using Nat.strongRecOn with
  | _ i ih =>
    intro hi h
    by_cases hall : ∀ j ∈ zas ops i, listed.getD j false = true
    · intro he
      have : i ∈ Region.ready .any ops.toArray listed := zc4.2 ⟨h, hi, hall⟩
      rw [he] at this; cases this
    · obtain ⟨j, hj, hn⟩ := Classical.not_forall.1 hall |>.imp fun j hj => Classical.not_imp.1 hj
      have hlt : j < i := by
        unfold zem at hb
        rw [List.all_eq_true] at hb
        have := hb i (List.mem_range.2 hi)
        rw [List.all_eq_true] at this
        exact zbn.1 (this j hj)
      refine ih j hlt (by omega) ?_
      rw [zdL hs (by omega)]
      simpa using hn

theorem wpAny_tail {Q : Exit → Act → World → Prop} {n : Nat} (hb : zem ops = true) (ht : zeA ops n = true) : ∀ (k m : Nat) (listed : Array Bool) (a : Act) (w : World), ops.length - m = k → n ≤ m → m ≤ ops.length → listed.size = ops.length →
    (∀ i, i < ops.length → listed.getD i true = decide (i < m)) → wpOps P ops.toArray Q (List.range' m (ops.length - m)) a w → ∀ fuel, ops.length - m ≤ fuel → wpAny P .any ops.toArray Q fuel listed a w := by
  intro k
  induction k with
  | zero =>
    intro m listed a w hk hn hm hs hl h fuel _
    have hr : Region.ready .any ops.toArray listed = [] := by
      apply List.eq_nil_iff_forall_not_mem.2
      intro i hi
      obtain ⟨h0, h1, _⟩ := zc4.1 hi
      rw [hl i h1] at h0
      simp at h0; omega
    rw [hk] at h
    exact wpAny_done hr h fuel
  | succ k ih =>
    intro m listed a w hk hn hm hs hl h fuel hf
    obtain ⟨fuel, rfl⟩ : ∃ f, fuel = f + 1 := ⟨fuel - 1, by omega⟩
    have hml : m < ops.length := by omega
    rw [hk, List.range'_succ] at h
    rw [wpOps_cons] at h
    have honly : ∀ i ∈ Region.ready .any ops.toArray listed, i = m := by
      intro i hi
      obtain ⟨h0, h1, h2⟩ := zc4.1 hi
      rw [hl i h1] at h0
      simp only [decide_eq_false_iff_not] at h0
      rcases Nat.lt_or_ge m i with hlt | hge
      · exfalso
        have hp : m ∈ ancS ops i (zas ops i) := by
          unfold zeA at ht
          rw [List.all_eq_true] at ht
          have := ht i (List.mem_range.2 h1)
          rw [Bool.or_eq_true] at this
          rcases this with h' | h'
          · have := zbn.1 h'; omega
          · rw [List.all_eq_true] at h'
            exact zdc (h' m (List.mem_range.2 hlt))
        have hback : ∀ k, k < ops.length → ∀ j ∈ zas ops k, j < k := by
          intro k hk j hj
          unfold zem at hb
          rw [List.all_eq_true] at hb
          have := hb k (List.mem_range.2 hk)
          rw [List.all_eq_true] at this
          exact zbn.1 (this j hj)
        have hpre : ∀ j ∈ zas ops i, j < m := by
          intro j hj
          have hjl : j < ops.length := by have := hback i h1 j hj; omega
          have := h2 j hj
          rw [← zdL hs hjl, hl j hjl] at this
          simpa using this
        have := zdH (p := fun j => j < m) (fun k hk j hj => by have := hback k (by omega) j hj; omega) i _ hpre m hp
        omega
      · omega
    refine ⟨fun he => absurd he (some_ready hs hb m hml (by rw [hl m hml]; simp)), fun i hi => ?_⟩
    have := honly i hi
    subst this
    refine wpOp_mono (fun a w h' => ?_) h
    refine ih (i + 1) _ a w (by omega) (by omega) (by omega) (by simp [hs]) (fun j hj => ?_) (by rw [show ops.length - (i + 1) = k by omega]; exact h') fuel (by omega)
    by_cases e : i = j
    · subst e
      have : i < listed.size := by omega
      simp [this]
    · rw [getD_set_ne true e, hl j hj]
      rw [Bool.eq_iff_iff]; simp; omega

theorem has_mem {l : List Nat} {k : Nat} (h : has l k = true) : k ∈ l := by
  unfold has at h
  rw [List.any_eq_true] at h
  obtain ⟨j, hj, e⟩ := h
  have := Nat.eq_of_beq_eq_true e
  subst this; exact hj
/-! the rules -/
variable {l : Kn} {w : World} {K : Kn → World → Prop} {es : List Ent} {i todo : Nat} {d : Tmp} {op : Op} {ty : TypeId} {pre : List Nat}

end
end Lp
/-
  THE ENGINE, sixth part: code by its path; a function's frame; what a function hands back.
-/
namespace Lp
open Go Go.RowKit

def isSeq : Code → Bool | .seq _ _ => true | _ => false
def isSkip : Code → Bool | .skip => true | _ => false
def isRet : Code → Bool | .ret => true | _ => false
def isLoop : Code → Bool | .loop _ => true | _ => false
def condOf : Code → Option Operand | .cond c _ _ => some c | _ => none
def blockOf : Code → Option Nat | .block i _ => some i | _ => none
def exitOf : Code → Option Nat | .exit i => some i | _ => none
theorem zef (c : Code) : cd c [] = c := by cases c <;> rfl

theorem zdV (b : Bool) : ∀ (p : List Bool) (c : Code), cd c (p ++ [b]) = cd (cd c p) [b]
  | [], c => by rw [zef]; rfl
  | i :: r, c => by
    have ih := zdV b r
    cases c <;> simp only [List.cons_append, cd] <;> first | rfl | (cases i <;> simp only [cond_true, cond_false, ih]) | exact ih _

section
variable {P : Program} {N : Nat} {l : Kn} {w : World} {Q : Ends} {c : Code} {p : List Bool}

variable {ops : List Oper} {K : Env → World → Prop} {i : Nat}

end

theorem run_loadVar_agg {P : Program} {t b o : Nat} {w : World} {cs : List Value} (hg : ∀ w, (isAgg t).run P w = .ok true w) (hs : ∀ w, (Go.sizeOf t).run P w = .ok cs.length w) (hc : At w b o cs) : (loadVar t ⟨b, o, none⟩).run P w = .ok (.agg cs.toArray) w := by
  have := run_loadCells P w b o cs hc
  simp [loadVar, hg, hs, this]
def packed : List Value → Value
  | [v] => v
  | vs => .tuple vs.toArray

end Lp
/-
  THE ENGINE, seventh part: slices whose elements are data of a kind; small lemmas on numbers and lists.
-/
namespace Lp
open Go Go.RowKit

theorem zaZ {n c : Int} (h : n = c) (hb : -9223372036854775808 ≤ c ∧ c ≤ 9223372036854775807) : IntKind.i64.wrap n = c := by rw [h]; exact w64 hb

theorem zaq {α : Type} (xs : List α) (k : Nat) (h : k < xs.length) : ∃ x, xs[k]? = some x := ⟨xs[k], List.getElem?_eq_getElem h⟩
theorem take_snoc {α : Type} {xs : List α} {k : Nat} {x : α} (h : xs[k]? = some x) : xs.take (k + 1) = xs.take k ++ [x] := by
  rw [List.take_succ_eq_append_getElem (List.getElem?_eq_some_iff.1 h).1, (List.getElem?_eq_some_iff.1 h).2]
theorem get_lt {α : Type} {xs : List α} {k : Nat} {x : α} (h : xs[k]? = some x) : k < xs.length := (List.getElem?_eq_some_iff.1 h).1

/-- A slice of data of a kind, each of z cells. -/
def SlT {α : Type} (cs : α → List Value) (z : Nat) (w : World) (lo hi : Nat) (v : Value) (xs : List α) : Prop := Sl w lo hi z v (xs.map cs)

section
variable {α : Type} {cs : α → List Value} {z : Nat} {w w' : World} {lo hi : Nat} {v : Value} {xs : List α}
theorem SlT.upd {a b : Nat} (h : SlT cs z w lo hi v xs) (U : Upd a b w w') (hh : hi ≤ a ∨ b ≤ lo) : SlT cs z w' lo hi v xs := Sl.upd h U hh
theorem SlT.ext (h : SlT cs z w lo hi v xs) (E : Ext w w') : SlT cs z w' lo hi v xs := Sl.ext h E
theorem SlT.top (h : SlT cs z w lo hi v xs) : hi ≤ w.heap.size := Sl.hi h
theorem SlT.wide {lo' hi' : Nat} (h : SlT cs z w lo hi v xs) (h1 : lo' ≤ lo) (h2 : hi ≤ hi') (h3 : hi' ≤ w.heap.size) : SlT cs z w lo' hi' v xs := Sl.wide h h1 h2 h3
theorem SlT.at_ (h : SlT cs z w lo hi v xs) {k : Nat} {x : α} (hx : xs[k]? = some x) : At w (bl v) (of_ v + k * z) (cs x) := Sl.at_ h (by simp [hx])
theorem SlT.len (h : SlT cs z w lo hi v xs) : Len v xs.length := by have := Sl.len h; simpa using this
theorem SlT.has (h : SlT cs z w lo hi v xs) {k : Nat} (hk : k < xs.length) : Has v k := Sl.has h (by simpa using hk)
theorem SlT.one (h : SlT cs z w lo hi v xs) : v.oneCell' = true := by
  obtain ⟨A, c, rfl, _⟩ := h; rfl
theorem SlT.nil (h : hi ≤ w.heap.size) : SlT cs z w lo hi (.slice none 0 0) [] := Sl.nil _ _ _ _ h
theorem SlT.cut (h : SlT cs z w lo hi v xs) (l k : Nat) (hl : l ≤ k) (hh : k ≤ xs.length) : SlT cs z w lo hi (cut z v l k) ((xs.take k).drop l) := by
  have := Sl.cut h l k hl (by simpa using hh)
  simpa [SlT, List.map_take, List.map_drop] using this
theorem SlT.block (h : SlT cs z w lo hi v xs) (hn : 0 < xs.length) : lo ≤ bl v ∧ bl v < hi := Sl.block h (by intro e; simp at e; subst e; simp at hn)
theorem SlT.capOk (h : SlT cs z w lo hi v xs) : ∃ A c, v = .slice A xs.length c ∧ xs.length ≤ c := by
  obtain ⟨A, c, h1, h2, _⟩ := h; exact ⟨A, c, by simpa using h1, by simpa using h2⟩
end

/-- A label as data. -/
structure Lbl where
  n : ByteArray
  v : ByteArray
  deriving DecidableEq

def Lbl.cs (x : Lbl) : List Value := [.string x.n, .string x.v]
end Lp
/-
  THE ENGINE, eighth part: literals of slices, make, append; rows of the call's own; the order of strings.
-/
namespace Lp
open Go Go.RowKit

/-- The cells of some values, each of z. -/
def zd7 (z : Nat) : List Value → List (List Value) → Prop
  | [], [] => True
  | v :: r, c :: cr => v.cells = c.toArray ∧ c.length = z ∧ zd7 z r cr
  | _, _ => False

theorem cells_one {v : Value} (h : v.oneCell' = true) : v.cells = [v].toArray := by cases v <;> first | rfl | cases h

theorem zd7.size {z : Nat} : ∀ {vs : List Value} {cs : List (List Value)}, zd7 z vs cs → ∀ v ∈ vs, v.cells.size = z
  | [], [], _, v, hv => by cases hv
  | v :: r, c :: cr, ⟨h1, h2, h3⟩, u, hu => by
    cases hu with
    | head => rw [h1]; simpa using h2
    | tail _ hm => exact zd7.size h3 u hm
theorem zd7.flat {z : Nat} : ∀ {vs : List Value} {cs : List (List Value)}, zd7 z vs cs → (vs.flatMap fun v => v.cells.toList) = cs.flatten
  | [], [], _ => rfl
  | v :: r, c :: cr, ⟨h1, h2, h3⟩ => by simp [h1, zd7.flat h3]

section
variable {P : Program} {ty : TypeId} {ρ : Env} {w : World} {K : Value → World → Prop} {l : Kn}

theorem e_buildSlice {t e len z : Nat} {ps : Array (Nat × Operand)} {zv : Value} (xs : List Operand) {vs : List Value} (css : List (List Value)) (hk : zaa ρ l) (hp : ps.toList = (xs.zipIdx 0).map fun x => (x.2, x.1)) (hv : opvs l xs = some vs)
    (ht : ∀ w, (underlying t).run P w = .ok (.slice e) w) (hs : ∀ w, (Go.sizeOf e).run P w = .ok z w) (hzv : ∀ w, (zeroValue e).run P w = .ok zv w) (hlen : vs.length = len) (hz : Nat.blt 0 z = true) (hsm : Nat.ble (len * z) 1000 = true) (hl0 : Nat.blt 0 len = true)
    (hcs : zd7 z vs css) (h : ∀ g w', New w w' g e css.flatten → K (.slice (some ⟨g, 0, none⟩) len len) w') : EOp P (.buildSlice t len ps) ty ρ w K := by
  have hz' : 0 < z := zbn.1 hz
  have hl' : 0 < len := zbn.1 hl0
  have hsm' := Nat.le_of_ble_eq_true hsm
  have hpos : 0 < len * z := Nat.mul_pos hl' hz'
  refine EOp.of_run (v := .slice (some ⟨w.heap.size, 0, none⟩) len len) (w' := w.alloc (.cells css.flatten.toArray e)) (zbx ?_) (h _ _ ?_)
  · have e1 : (ps.map fun (i, x) => (i, ev ρ x)).toList = (vs.zipIdx 0).map fun x => (x.2, x.1) := by
      rw [Array.toList_map, hp, List.map_map, ← hk.ops hv]
      simp [List.zipIdx_map, List.map_map, Function.comp_def]
    have hf := Great.fill_whole hz' vs ((Array.range (len * z)).map (zv.cells[· % zv.cells.size]!)) (fun v hv' => hcs.size v hv') (by simp [hlen])
    rw [hcs.flat] at hf
    simp only [Instr.buildSlice, Sem.run_bind, ht, Result.andThen_ok, hs]
    rw [if_neg (by omega), if_neg (by omega)]
    simp only [Sem.run_bind, hzv, Result.andThen_ok, Sem.run_pure, e1, hf]
    simp [newRow]
  · have := New.mk' w e css.flatten.toArray
    simpa using this

/-- A call of a function without a body that the model has a row for. -/
theorem e_ext {f : FuncId} {args : Array Operand} {ats : Array TypeId} {vs : List Value} {v : Value} (hk : zaa ρ l) (hargs : opvs l args.toList = some vs)
    (hc : ∀ w, (callFunc f vs.toArray).run P w = .ok (.value v) w) (h : K v w) : EOp P (.call { callee := .value (.func f), args := args, argTypes := ats }) ty ρ w K := by
  have e1 : args.map (ev ρ) = vs.toArray := by
    apply Array.ext'; rw [Array.toList_map, hk.ops hargs]
  exact EOp.of_run (v := v) (w' := w) (by simp [execOp, zak, resolve, ev, Deferred.ofValue, invoke, hc, e1]) h

/-! ### rows of the call's own -/

/-- A slice of the call's own (from block 'base' on), that may be written and appended to. -/
def Own {α : Type} (cs : α → List Value) (z : Nat) (E : TypeId) (w : World) (base : Nat) (v : Value) (xs : List α) : Prop :=
  w.ownsRow base E z v xs.length (xs.flatMap cs) ∧ ∀ x ∈ xs, (cs x).length = z

variable {α : Type} {cs : α → List Value} {z : Nat} {E : TypeId} {base : Nat} {v : Value} {xs : List α} {w' : World}

theorem flatMap_get {n : Nat} (hz : ∀ x ∈ xs, (cs x).length = n) : ∀ (i : Nat) (x : α), xs[i]? = some x → ∀ j u, (cs x)[j]? = some u → (xs.flatMap cs)[i * n + j]? = some u := by
  induction xs with
  | nil => intro i x h; simp at h
  | cons y r ih =>
    intro i x hx j u hu
    rw [List.flatMap_cons]
    cases i with
    | zero =>
      simp at hx; subst hx
      rw [Nat.zero_mul, Nat.zero_add, List.getElem?_append_left (by exact (List.getElem?_eq_some_iff.1 hu).1)]; exact hu
    | succ i =>
      have hy := hz y List.mem_cons_self
      rw [List.getElem?_append_right (by rw [hy, Nat.add_mul]; omega), hy, show (i + 1) * n + j - n = i * n + j by rw [Nat.add_mul]; omega]
      exact ih (fun x hx => hz x (List.mem_cons_of_mem _ hx)) i x (by simpa using hx) j u hu

theorem Own.sl (h : Own cs z E w base v xs) : SlT cs z w base w.heap.size v xs := by
  obtain ⟨h, hz⟩ := h
  rcases h.2 with ⟨rfl, h0⟩ | ⟨g, cap, cur, rfl, hb, hg, hnc, _, hsz, htake⟩
  · have : xs = [] := List.eq_nil_of_length_eq_zero h0
    subst this; exact SlT.nil (Nat.le_refl _)
  · have hlt : g < w.heap.size := (Array.getElem?_eq_some_iff.1 hg).1
    refine ⟨_, cap, by simp, by simpa using hnc, ?_, fun _ => ⟨g, 0, rfl, hb, hlt, fun i x hx => ⟨hlt, fun j u hu => ?_⟩⟩, Nat.le_refl _⟩
    · intro x hx; obtain ⟨y, hy, rfl⟩ := List.mem_map.1 hx; exact hz y hy
    · rw [List.getElem?_map] at hx
      obtain ⟨y, hy, rfl⟩ := Option.map_eq_some_iff.1 hx
      rw [cell_of_row w g _ cur E (0, 0) hg]
      have := flatMap_get hz i y hy j u hu
      rw [← htake, List.getElem?_take] at this
      split at this
      · simpa using this
      · cases this

theorem Own.upd {lo hi : Nat} (h : Own cs z E w base v xs) (U : Upd lo hi w w') (hh : ∀ g, v.ownBlock = some g → g < lo ∨ hi ≤ g) : Own cs z E w' base v xs := by
  refine ⟨⟨h.1.1, ?_⟩, h.2⟩
  rcases h.1.2 with hn | ⟨g, cap, cur, rfl, hb, hgg, rest⟩
  · exact .inl hn
  · refine .inr ⟨g, cap, cur, rfl, hb, ?_, rest⟩
    rw [U.block g (Array.getElem?_eq_some_iff.1 hgg).1 (hh g rfl)]
    exact hgg
theorem Own.ext (h : Own cs z E w base v xs) (U : Ext w w') : Own cs z E w' base v xs := h.upd U (fun _ _ => .inr (Nat.zero_le _))
theorem Own.lt (h : Own cs z E w base v xs) {g : Nat} (hg : v.ownBlock = some g) : base ≤ g ∧ g < w.heap.size := h.1.lt g hg
theorem Own.nil (w : World) (base : Nat) : Own cs z E w base (.slice none 0 0) [] := ⟨World.ownsRow_nil w base E z, by simp⟩
theorem Own.one (h : Own cs z E w base v xs) : v.oneCell' = true := h.sl.one
theorem Own.len (h : Own cs z E w base v xs) : Len v xs.length := h.sl.len
theorem Own.ne {β : Type} {cs' : β → List Value} {z' E' base' : Nat} {v' : Value} {ys : List β} (h : Own cs z E w base v xs) (h' : Own cs' z' E' w base' v' ys) (hE : E ≠ E') {g g' : Nat} (hg : v.ownBlock = some g) (hg' : v'.ownBlock = some g') : g ≠ g' := by
  rintro rfl
  rcases h.1.2 with ⟨rfl, _⟩ | ⟨g1, _, _, rfl, _, h1, _⟩
  · cases hg
  rcases h'.1.2 with ⟨rfl, _⟩ | ⟨g2, _, _, rfl, _, h2, _⟩
  · cases hg'
  simp [Value.ownBlock] at hg hg'
  subst hg; subst hg'
  rw [h1] at h2
  injection h2 with h2
  injection h2 with _ ht
  exact hE ht
/-- A new block that is a whole row. -/
theorem Box.own {g : Nat} {cc : List Value} (h : Box w g E cc) (hb : base ≤ g) (hc : cc = xs.flatMap cs) (hz : ∀ x ∈ xs, (cs x).length = z) (hm : xs.length ≤ maxLen) : Own cs z E w base (.slice (some ⟨g, 0, none⟩) xs.length xs.length) xs := by
  subst hc
  have hl : (xs.flatMap cs).length = xs.length * z := by
    clear h hm
    induction xs with
    | nil => simp
    | cons y r ih => rw [List.flatMap_cons, List.length_append, hz y List.mem_cons_self, ih (fun x hx => hz x (List.mem_cons_of_mem _ hx)), List.length_cons, Nat.add_mul]; omega
  refine ⟨⟨hl, .inr ⟨g, xs.length, _, rfl, hb, h, Nat.le_refl _, hm, by simpa using hl, ?_⟩⟩, hz⟩
  simp only
  rw [← hl, List.take_length]

theorem At.sl {b o n : Nat} {cc : List Value} (h : At w b o cc) (hc : cc = xs.flatMap cs) (hz : ∀ x ∈ xs, (cs x).length = z) (hn : n = xs.length) : SlT cs z w b (b + 1) (.slice (some ⟨b, o, none⟩) n n) xs := by
  subst hc; subst hn
  refine ⟨_, _, by simp; rfl, by simp, ?_, fun _ => ⟨b, o, rfl, Nat.le_refl _, by omega, fun i x hx => ⟨h.1, fun j u hu => ?_⟩⟩, h.1⟩
  · intro x hx; obtain ⟨y, hy, rfl⟩ := List.mem_map.1 hx; exact hz y hy
  · rw [List.getElem?_map] at hx
    obtain ⟨y, hy, rfl⟩ := Option.map_eq_some_iff.1 hx
    have := flatMap_get hz i y hy j u hu
    rw [Nat.add_assoc]
    exact h.2 _ _ this

theorem SlT.cell_flat {lo hi : Nat} (h : SlT cs z w lo hi v xs) {b o n c : Nat} (hv : v = .slice (some ⟨b, o, none⟩) n c) : ∀ j u, (xs.flatMap cs)[j]? = some u → w.cell? ⟨b, o + j, none⟩ = some u := by
  obtain ⟨A, c', h1, h2, h3, h4, _⟩ := h
  intro j u hu
  have hz' : ∀ x ∈ xs, (cs x).length = z := fun x hx => h3 _ (List.mem_map.2 ⟨x, hx, rfl⟩)
  have hne : xs ≠ [] := by rintro rfl; simp at hu
  obtain ⟨b2, o2, e1, e2, e3, e4⟩ := h4 (by simpa using hne)
  rw [h1, e1] at hv
  injection hv with hv1 _ _
  injection hv1 with hv1
  injection hv1 with hb ho _
  subst hb; subst ho
  -- the element and the place in it
  have key : ∀ (ys : List α) (i0 : Nat), (∀ x ∈ ys, (cs x).length = z) → (∀ i x, ys[i]? = some x → xs[i0 + i]? = some x) → ∀ j u, (ys.flatMap cs)[j]? = some u → w.cell? ⟨b2, o2 + (i0 * z + j), none⟩ = some u := by
    intro ys
    induction ys with
    | nil => intro i0 _ _ j u hu; simp at hu
    | cons y r ih =>
      intro i0 hzz hx j u hu
      rw [List.flatMap_cons] at hu
      have hy := hzz y List.mem_cons_self
      by_cases hj : j < z
      · rw [List.getElem?_append_left (by omega)] at hu
        have hat := e4 i0 (cs y) (by have h0 := hx 0 y (by simp); rw [Nat.add_zero] at h0; rw [List.getElem?_map, h0]; rfl)
        have := hat.2 j u hu
        rw [← Nat.add_assoc]; exact this
      · rw [List.getElem?_append_right (by omega), hy] at hu
        have := ih (i0 + 1) (fun x hx => hzz x (List.mem_cons_of_mem _ hx)) (fun i x hi => by have := hx (i + 1) x (by simpa using hi); rw [show i0 + 1 + i = i0 + (i + 1) by omega]; exact this) (j - z) u hu
        rw [show o2 + (i0 * z + j) = o2 + ((i0 + 1) * z + (j - z)) by rw [Nat.add_mul]; omega]; exact this
  have := key xs 0 hz' (fun i x hi => by simpa using hi) j u hu
  simpa using this

/-- append onto a row of the call's own. -/
theorem e_append' {t ty' : TypeId} {x y : Operand} {s : Value} {ys : List α} {lo hi bytes : Nat} {zv : Value} (hk : zaa ρ l) (hx : opv l x = some v) (hy : opv l y = some s) (ht : P.underlying t = some (.slice E))
    (hi' : ∃ i, P.info? E = some i ∧ i.zero = some zv ∧ i.size = z ∧ i.bytes = bytes) (hzs : zv.cells.size = z) (hsz : 0 < z)
    (hown : Own cs z E w base v xs) (hs : SlT cs z w lo hi s ys) (h1 : ∀ x ∈ ys, zcf (cs x)) (hlen : xs.length + ys.length ≤ maxLen) (hbytes : (xs.length + ys.length) * bytes ≤ 140737488355328) (hbase : base ≤ w.heap.size)
    (h : ∀ v' w', Own cs z E w' base v' (xs ++ ys) → (∃ a b, Upd a b w w' ∧ ((a = 0 ∧ b = 0) ∨ (v.ownBlock = some a ∧ b = a + 1 ∧ base ≤ a))) → (v'.ownBlock = v.ownBlock ∨ v'.ownBlock = some w.heap.size) → (Builtin.append_ #[t, t] ty' #[v, s]).run P w = .ok v' w' → K v' w') :
    EOp P (.call { callee := .builtin .append, args := #[x, y], argTypes := #[t, t] }) ty' ρ w K := by
  obtain ⟨i, i1, i2, i3, i4⟩ := hi'
  have hs' := hs
  obtain ⟨A, c, e1, e2, e3, e4, _⟩ := hs
  simp only [List.length_map] at e1 e2
  have hz' : ∀ x ∈ ys, (cs x).length = z := fun x hx => e3 _ (List.mem_map.2 ⟨x, hx, rfl⟩)
  have hfl : (ys.flatMap cs).length = ys.length * z := by
    clear e4 e1 e2 e3 hbytes hlen hs' h
    induction ys with
    | nil => simp
    | cons y r ih => rw [List.flatMap_cons, List.length_append, hz' y List.mem_cons_self, ih (fun x hx => h1 x (List.mem_cons_of_mem _ hx)) (fun x hx => hz' x (List.mem_cons_of_mem _ hx)), List.length_cons, Nat.add_mul]; omega
  have hall : ∀ u ∈ ys.flatMap cs, u.oneCell' = true := by
    intro u hu
    obtain ⟨y, hy, huy⟩ := List.mem_flatMap.1 hu
    exact (h1 y hy).all u huy
  have hup : ∀ {w'}, w.grownBy w' v.ownBlock → Dr w w' → ∃ a b, Upd a b w w' ∧ ((a = 0 ∧ b = 0) ∨ (v.ownBlock = some a ∧ b = a + 1 ∧ base ≤ a)) := by
    intro w' hg hd
    cases hv : v.ownBlock with
    | none => exact ⟨0, 0, ⟨hg.os, hg.tape, hg.output, hg.size, fun k hk _ => hg.block k hk (by rw [hv]; simp), hd⟩, .inl ⟨rfl, rfl⟩⟩
    | some g => exact ⟨g, g + 1, ⟨hg.os, hg.tape, hg.output, hg.size, fun k hk hh => hg.block k hk (by rw [hv]; simp; omega), hd⟩, .inr ⟨rfl, rfl, (hown.lt hv).1⟩⟩
  have hrun : ∃ v' w', (Builtin.append_ #[t, t] ty' #[v, s]).run P w = .ok v' w' ∧ Own cs z E w' base v' (xs ++ ys) ∧ w.grownBy w' v.ownBlock ∧ (v'.ownBlock = v.ownBlock ∨ v'.ownBlock = some w.heap.size) := by
    cases A with
    | none =>
      have hy0 : ys = [] := by
        rcases Nat.eq_zero_or_pos ys.length with h0 | h0
        · exact List.eq_nil_of_length_eq_zero h0
        · obtain ⟨b, o, hh, _⟩ := e4 (by intro e; simp at e; subst e; simp at h0)
          cases hh
      subst hy0
      refine ⟨v, w, ?_, by simpa using hown, World.grownBy.refl w _, .inl rfl⟩
      subst e1
      rcases hown.1.2 with ⟨rfl, h0⟩ | ⟨g, cap, cur, rfl, _, _, hnc, _⟩
      · simp [Builtin.append_, run_underlying ht, Go.sizeOf, typeInfo, i1, Builtin.lenOf, Builtin.firstCells]
      · simp [Builtin.append_, run_underlying ht, Go.sizeOf, typeInfo, i1, Builtin.lenOf, Builtin.firstCells, hnc, storeCells]
    | some ad =>
      have hcells : ∀ j u, (ys.flatMap cs)[j]? = some u → w.cell? (ad.add j) = some u := by
        intro j u hu
        obtain ⟨b, o, hh, _⟩ := e4 (by intro e; simp at e; subst e; simp at hu)
        injection hh with hh
        subst hh
        have ha : (⟨b, o, none⟩ : Addr).add j = ⟨b, o + j, none⟩ := by cases j <;> simp [Addr.add]
        rw [ha]
        exact hs'.cell_flat e1 j u hu
      obtain ⟨v', w', r1, r2, r3, _, r5⟩ := run_append_own_at (P := P) w base t ty' E i zv z bytes ht i1 i2 i3 i4 hzs hsz v xs.length (xs.flatMap cs) hown.1 ad ys.length c (ys.flatMap cs) hfl hcells hall hlen hbytes hbase
      refine ⟨v', w', by rw [e1]; exact r1, ⟨?_, ?_⟩, r3, r5⟩
      · rw [List.length_append, List.flatMap_append]; exact r2
      · intro x hx
        rcases List.mem_append.1 hx with hx | hx
        · exact hown.2 x hx
        · exact hz' x hx
  obtain ⟨v', w', r1, r2, r3, r4⟩ := hrun
  refine EOp.of_run (v := v') (w' := w') ?_ (h v' w' r2 (hup r3 (Dr.run r1)) r4 r1)
  simp [execOp, zak, resolve, invoke, builtin, hk.op hx, hk.op hy, r1]
theorem e_append {t ty' : TypeId} {x y : Operand} {s : Value} {ys : List α} {lo hi bytes : Nat} {zv : Value} (hk : zaa ρ l) (hx : opv l x = some v) (hy : opv l y = some s) (ht : P.underlying t = some (.slice E))
    (hi' : ∃ i, P.info? E = some i ∧ i.zero = some zv ∧ i.size = z ∧ i.bytes = bytes) (hzs : zv.cells.size = z) (hsz : 0 < z)
    (hown : Own cs z E w base v xs) (hs : SlT cs z w lo hi s ys) (h1 : ∀ x ∈ ys, zcf (cs x)) (hlen : xs.length + ys.length ≤ maxLen) (hbytes : (xs.length + ys.length) * bytes ≤ 140737488355328) (hbase : base ≤ w.heap.size)
    (h : ∀ v' w', Own cs z E w' base v' (xs ++ ys) → (∃ a b, Upd a b w w' ∧ ((a = 0 ∧ b = 0) ∨ (v.ownBlock = some a ∧ b = a + 1 ∧ base ≤ a))) → (v'.ownBlock = v.ownBlock ∨ v'.ownBlock = some w.heap.size) → K v' w') :
    EOp P (.call { callee := .builtin .append, args := #[x, y], argTypes := #[t, t] }) ty' ρ w K := by
  exact e_append' hk hx hy ht hi' hzs hsz hown hs h1 hlen hbytes hbase (fun v' w' a b c _ => h v' w' a b c)
end

/-! ### the order of strings -/

def cmpL : List UInt8 → List UInt8 → Int := Lib.compareBytes
def cmpS (a b : ByteArray) : Int := cmpL a.data.toList b.data.toList

section
variable {P : Program} {ty : TypeId} {ρ : Env} {w : World} {K : Value → World → Prop} {l : Kn}
end
end Lp
/-
  THE ENGINE, ninth part: stores into rows of the call's own; rows that are apart.
-/
namespace Lp
open Go Go.RowKit

theorem spl_app {cs r : List Value} {o : Nat} {vs : List Value} (h : o + vs.length ≤ cs.length) : spl (cs ++ r) o vs = spl cs o vs ++ r := by
  unfold spl
  rw [List.take_append_of_le_length (by omega), List.drop_append_of_le_length (by omega)]
  simp
theorem zbR {P : Program} {E : TypeId} {zv : Value} {z b : Nat} (h : (P.info? E).map (fun i => (i.zero, i.size, i.bytes)) = some (some zv, z, b)) : ∃ i, P.info? E = some i ∧ i.zero = some zv ∧ i.size = z ∧ i.bytes = b := by
  obtain ⟨i, h1, h2⟩ := Option.map_eq_some_iff.1 h
  simp only [Prod.mk.injEq] at h2
  exact ⟨i, h1, h2.1, h2.2.1, h2.2.2⟩
section
variable {α : Type} {cs : α → List Value} {z : Nat} {E : TypeId} {base : Nat} {v : Value} {xs : List α} {w w' : World}

theorem zcP (hz : ∀ x ∈ xs, (cs x).length = z) : (xs.flatMap cs).length = xs.length * z := by
  induction xs with
  | nil => simp
  | cons y r ih => rw [List.flatMap_cons, List.length_append, hz y List.mem_cons_self, ih (fun x hx => hz x (List.mem_cons_of_mem _ hx)), List.length_cons, Nat.add_mul]; omega

theorem spl_flat (hz : ∀ x ∈ xs, (cs x).length = z) {d : α} (hd : (cs d).length = z) : ∀ {k : Nat}, k < xs.length → spl (xs.flatMap cs) (k * z) (cs d) = (xs.set k d).flatMap cs := by
  induction xs with
  | nil => intro k h; simp at h
  | cons y r ih =>
    have hy := hz y List.mem_cons_self
    intro k hk
    cases k with
    | zero =>
      rw [List.set_cons_zero, List.flatMap_cons, List.flatMap_cons]
      unfold spl
      rw [Nat.zero_mul, List.take_zero, Nat.zero_add, hd, List.nil_append, ← hy, List.drop_left]
    | succ k =>
      have := ih (fun x hx => hz x (List.mem_cons_of_mem _ hx)) (by simpa using hk)
      rw [List.set_cons_succ, List.flatMap_cons, List.flatMap_cons, ← this]
      unfold spl
      rw [show (k + 1) * z = (cs y).length + k * z by rw [hy, Nat.add_mul]; omega, List.take_append, show (cs y).length + k * z + (cs d).length = (cs y).length + (k * z + (cs d).length) by omega, List.drop_append]
      rw [List.take_of_length_le (by omega), List.drop_eq_nil_of_le (by omega)]
      simp

/-- A row of the call's own that is not empty: its block. -/
theorem Own.form (h : Own cs z E w base v xs) (hn : 0 < xs.length) : ∃ cap r, v = .slice (some ⟨bl v, 0, none⟩) xs.length cap ∧ base ≤ bl v ∧ Box w (bl v) E (xs.flatMap cs ++ r) ∧ xs.length ≤ cap ∧ cap ≤ maxLen ∧ (xs.flatMap cs ++ r).length = cap * z := by
  rcases h.1.2 with ⟨_, h0⟩ | ⟨g, cap, cur, rfl, hb, hg, hnc, hm, hsz, htake⟩
  · omega
  · refine ⟨cap, cur.toList.drop (xs.length * z), rfl, hb, ?_, hnc, hm, ?_⟩
    · unfold Box; rw [← htake, List.take_append_drop]; simpa [bl] using hg
    · rw [← htake, List.take_append_drop]; simpa using hsz
theorem Own.block (h : Own cs z E w base v xs) (hn : 0 < xs.length) : base ≤ bl v ∧ bl v < w.heap.size ∧ of_ v = 0 ∧ v.ownBlock = some (bl v) := by
  obtain ⟨cap, r, e, hb, hB, _⟩ := h.form hn
  refine ⟨hb, hB.lt, ?_, ?_⟩
  · rw [e]; rfl
  · rw [e]; rfl

/-- Another row is appended to: rows of another type stay. -/
theorem Own.app {β : Type} {cs' : β → List Value} {z' E' base' : Nat} {v' : Value} {ys : List β} {a b : Nat} (h : Own cs z E w base v xs) (h0 : Own cs' z' E' w base' v' ys) (hE : E ≠ E') (U : Upd a b w w') (hU : (a = 0 ∧ b = 0) ∨ (v'.ownBlock = some a ∧ b = a + 1 ∧ base' ≤ a)) : Own cs z E w' base v xs := by
  refine h.upd U (fun g hg => ?_)
  rcases hU with ⟨rfl, rfl⟩ | ⟨ho, rfl, _⟩
  · exact .inr (Nat.zero_le _)
  · have := h.ne h0 hE hg ho; omega
theorem Own.off {β : Type} {cs' : β → List Value} {z' E' base' : Nat} {v' : Value} {ys : List β} {a b g : Nat} (h : Own cs z E w base v xs) (h0 : Own cs' z' E' w base' v' ys) (hE : E ≠ E') (hU : (a = 0 ∧ b = 0) ∨ (v'.ownBlock = some a ∧ b = a + 1 ∧ base' ≤ a)) (hg : v.ownBlock = some g) : g < a ∨ b ≤ g := by
  rcases hU with ⟨rfl, rfl⟩ | ⟨ho, rfl, _⟩
  · exact .inr (Nat.zero_le _)
  · have := h.ne h0 hE hg ho; omega
end
end Lp
