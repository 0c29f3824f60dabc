/-
  Rows and their order, as plain data: how two labels, two lists of labels, two rows stand.
-/
import Derived.Test.YtfjinapgehafiaaGreatProg
import Derived.Test.YtfjinapgehafiaaGreatDG
namespace Lp
open Go

abbrev dN (n : Nat) : D := .v (.int .i64 (n : Int))
/-- A row as data. -/
structure RowD where
  ls : List Lbl
  v : Int
  deriving DecidableEq
abbrev LLs := List (List RowD)
def Lbl.d (x : Lbl) : D := .agg [.s x.n, .s x.v]
def RowD.d (x : RowD) : D := .agg [.sh 2 (x.ls.map Lbl.d), .v (.int .i64 x.v)]

def or2 (a b : Int) : Int := if a ≠ 0 then a else b
def zaP : List Int → Int
  | [] => 0
  | a :: r => if a ≠ 0 then a else zaP r
theorem firstNZ_two (a b : Int) : zaP [a, b] = or2 a b := by
  unfold zaP zaP zaP or2; split
  · rfl
  · split <;> omega
def zB (a b : Lbl) : Int := or2 (cmpS a.n b.n) (cmpS a.v b.v)
def zI : List Lbl → List Lbl → Int
  | [], [] => 0
  | [], _ :: _ => -1
  | _ :: _, [] => 1
  | a :: r, b :: s => if zB a b ≠ 0 then zB a b else zI r s
def cmpI (a b : Int) : Int := if a < b then -1 else if b < a then 1 else 0
def zF (o : Int) (a b : RowD) : Int :=
  if o = 1 then or2 (cmpI a.v b.v) (zI a.ls b.ls) else if o = 2 then or2 (cmpI b.v a.v) (zI a.ls b.ls) else zI a.ls b.ls
def less (o : Int) (a b : RowD) : Bool := decide (zF o a b < 0)

theorem zaA {α : Type} {xs : List α} {k : Nat} {x : α} (h : xs[k]? = some x) : xs.drop k = x :: xs.drop (k + 1) := by
  have hk := get_lt h
  rw [List.drop_eq_getElem_cons hk]
  congr 1
  exact (List.getElem?_eq_some_iff.1 h).2
/-- The first that part. -/
theorem cmpLs_at {a b : List Lbl} {k : Nat} {x y : Lbl} (hx : a[k]? = some x) (hy : b[k]? = some y) (hd : zI a b = zI (a.drop k) (b.drop k)) (hc : zB x y ≠ 0) : zI a b = zB x y := by
  rw [hd, zaA hx, zaA hy]; unfold zI; rw [if_pos hc]
theorem cmpLs_next {a b : List Lbl} {k : Nat} {x y : Lbl} (hx : a[k]? = some x) (hy : b[k]? = some y) (hd : zI a b = zI (a.drop k) (b.drop k)) (hc : zB x y = 0) : zI a b = zI (a.drop (k + 1)) (b.drop (k + 1)) := by
  rw [hd, zaA hx, zaA hy]
  conv => lhs; unfold zI
  rw [if_neg (by omega)]
theorem cmpLs_right {a b : List Lbl} {k : Nat} {x : Lbl} (hx : a[k]? = some x) (hy : b.length ≤ k) (hd : zI a b = zI (a.drop k) (b.drop k)) : zI a b = 1 := by
  rw [hd, zaA hx, List.drop_eq_nil_of_le hy]; rfl
theorem cmpLs_end {a b : List Lbl} {k : Nat} (hx : a.length ≤ k) (hd : zI a b = zI (a.drop k) (b.drop k)) (hk : k ≤ a.length) : zI a b = if a.length < b.length then -1 else 0 := by
  rw [hd, List.drop_eq_nil_of_le hx]
  split
  · have : b.drop k ≠ [] := by intro h; have := congrArg List.length h; simp at this; omega
    cases h : b.drop k with
    | nil => exact absurd h this
    | cons y s => rfl
  · rw [List.drop_eq_nil_of_le (by omega)]; rfl

theorem firstNZ_next {ns : List Int} {k : Nat} {x : Int} (hx : ns[k]? = some x) (h : zaP ns = zaP (ns.drop k)) (hz : x = 0) : zaP ns = zaP (ns.drop (k + 1)) := by
  rw [h, zaA hx]; conv => lhs; unfold zaP
  rw [if_neg (by omega)]
theorem firstNZ_at {ns : List Int} {k : Nat} {x : Int} (hx : ns[k]? = some x) (h : zaP ns = zaP (ns.drop k)) (hz : x ≠ 0) : zaP ns = x := by
  rw [h, zaA hx]; unfold zaP; rw [if_pos hz]
theorem cmpLs_nil {a b : List Lbl} {k : Nat} (h1 : a.length ≤ k) (h2 : b.length ≤ k) (_h : k ≤ a.length) : zI (a.drop k) (b.drop k) = 0 := by
  rw [List.drop_eq_nil_of_le h1, List.drop_eq_nil_of_le h2]; rfl
theorem cmpLs_nil_l {a b : List Lbl} {k : Nat} (h1 : a.length ≤ k) (h2 : k < b.length) : zI (a.drop k) (b.drop k) = -1 := by
  obtain ⟨y, hy⟩ := zx b k h2
  rw [List.drop_eq_nil_of_le h1, zaA hy]; rfl
theorem cmpLs_nil_r {a b : List Lbl} {k : Nat} (h1 : k < a.length) (h2 : b.length ≤ k) : zI (a.drop k) (b.drop k) = 1 := by
  obtain ⟨y, hy⟩ := zx a k h1
  rw [List.drop_eq_nil_of_le h2, zaA hy]; rfl

def zam (ls : List Lbl) : Bool := (ls.take 30).all (fun x => decide (x.n.size ≤ 200) && decide (x.v.size ≤ 200)) && decide (ls.length ≤ 20)
def zbk (rs : List RowD) : Bool := (rs.take 100).all (fun r => zam r.ls) && decide (rs.length ≤ 60)

theorem zbp {α : Type} {f : α → Bool} {xs : List α} {k : Nat} {x : α} (hx : xs[k]? = some x) (h : (xs.take k).all f = true) (hf : f x = true) : (xs.take (k + 1)).all f = true := by
  rw [z0 hx, List.all_append, h]; simp [hf]
theorem all_take_bad {α : Type} {f : α → Bool} {xs : List α} {k n : Nat} {x : α} (hx : xs[k]? = some x) (hk : k < n) (hf : f x = false) : (xs.take n).all f = false := by
  rw [List.all_eq_false]
  refine ⟨x, ?_, by simp [hf]⟩
  have : (xs.take n)[k]? = some x := by rw [List.getElem?_take, if_pos hk]; exact hx
  exact List.mem_of_getElem? this
theorem all_take_le {α : Type} {f : α → Bool} {xs : List α} {k n : Nat} (h : (xs.take k).all f = true) (hk : xs.length ≤ k ∨ n ≤ k) : (xs.take n).all f = true := by
  rw [List.all_eq_true] at h ⊢
  intro x hx
  refine h x ?_
  rcases hk with hk | hk
  · rw [List.take_of_length_le hk]; exact List.mem_of_mem_take hx
  · have : xs.take n = (xs.take k).take n := by rw [List.take_take, Nat.min_eq_left hk]
    rw [this] at hx; exact List.mem_of_mem_take hx
theorem zaf {α : Type} {xs : List α} {k : Nat} {x : α} (h : xs[k]? = some x) : x ∈ xs := List.mem_of_getElem? h
theorem same_ne_len {α : Type} [DecidableEq α] {a b : List α} (h : a.length ≠ b.length) : decide (a = b) = false := by
  rw [decide_eq_false]; rintro rfl; exact h rfl
theorem same_ne_at {α : Type} [DecidableEq α] {a b : List α} {k : Nat} {x y : α} (hx : a[k]? = some x) (hy : b[k]? = some y) (h : x ≠ y) : decide (a = b) = false := by
  rw [decide_eq_false]; rintro rfl; rw [hx] at hy; cases hy; exact h rfl
theorem same_all {α : Type} [DecidableEq α] {a b : List α} {k : Nat} (hl : a.length = b.length) (hk : a.length ≤ k) (h : a.take k = b.take k) : decide (a = b) = true := by
  rw [decide_eq_true]; rwa [List.take_of_length_le hk, List.take_of_length_le (by omega)] at h
theorem same_snoc {α : Type} {a b : List α} {k : Nat} {x y : α} (hx : a[k]? = some x) (hy : b[k]? = some y) (h : a.take k = b.take k) (he : x = y) : a.take (k + 1) = b.take (k + 1) := by rw [z0 hx, z0 hy, h, he]

theorem lightL_bad {xs : List Lbl} {k : Nat} {x : Lbl} (hx : xs[k]? = some x) (hk : k < 30) (h : 200 < x.n.size ∨ 200 < x.v.size) : zam xs = false := by
  unfold zam; rw [all_take_bad hx hk]; · rfl
  rw [Bool.and_eq_false_iff, decide_eq_false_iff_not, decide_eq_false_iff_not]; omega
theorem lightL_end {xs : List Lbl} {k : Nat} (h : (xs.take k).all (fun x => decide (x.n.size ≤ 200) && decide (x.v.size ≤ 200)) = true) (hk : xs.length ≤ k ∨ 30 ≤ k) : zam xs = decide (xs.length ≤ 20) := by
  unfold zam; rw [all_take_le h hk, Bool.true_and]
theorem lightR_bad {xs : List RowD} {k : Nat} {x : RowD} (hx : xs[k]? = some x) (hk : k < 100) (h : zam x.ls = false) : zbk xs = false := by
  unfold zbk; rw [all_take_bad hx hk h]; rfl
theorem lightR_end {xs : List RowD} {k : Nat} (h : (xs.take k).all (fun r => zam r.ls) = true) (hk : xs.length ≤ k ∨ 100 ≤ k) : zbk xs = decide (xs.length ≤ 60) := by
  unfold zbk; rw [all_take_le h hk, Bool.true_and]
theorem lightR_len {rs : List RowD} (h : zbk rs = true) : rs.length ≤ 60 := by
  unfold zbk at h; simp only [Bool.and_eq_true, decide_eq_true_eq] at h; exact h.2
theorem lightL_len {ls : List Lbl} (h : zam ls = true) : ls.length ≤ 20 := by
  unfold zam at h; simp only [Bool.and_eq_true, decide_eq_true_eq] at h; exact h.2
theorem lightR_row {rs : List RowD} (h : zbk rs = true) {r : RowD} (hr : r ∈ rs) : zam r.ls = true := by
  have hl := lightR_len h
  unfold zbk at h
  simp only [Bool.and_eq_true] at h
  have h1 := h.1
  rw [List.take_of_length_le (by omega), List.all_eq_true] at h1
  exact h1 r hr
end Lp
/-
  What comes in, as data: labels, rows, lists of rows, texts; and a law whose answer is fixed.
-/
set_option linter.unusedVariables false
namespace Lp
open Go Go.RowKit Go.ChangeShapes Go.Deep Go.Proofs

instance : Inhabited Lbl := ⟨⟨ByteArray.empty, ByteArray.empty⟩⟩
instance : Inhabited RowD := ⟨⟨[], 0⟩⟩

/-- A call that owns nothing and whose answer is fixed. -/
theorem CD.law {P : Program} {f : FuncId} {ds : List D} {r : D} (h : CD P f [] ds (isR r)) {w : World} {vs : List Value} (hr : D.repA w (FA w) ds vs) : Calls P f vs.toArray w (Ret fun u w' => Ext w w' ∧ ∃ F', D.rep w' F' r u) := by
  refine (h.out w (FA w) vs hr (fun _ h => h) HOk.empty).mono ?_
  rintro e w' ⟨u, rfl, F', d', H', ⟨rfl, rfl⟩, hrep, g⟩
  have hno : ∀ b, ¬ blks [] b := fun _ ⟨_, h, _⟩ => by cases h
  exact ⟨u, rfl, ⟨g.os, g.tape, g.output, g.size, fun b hb _ => g.frame b hb (hno b)⟩, F', hrep⟩

section
variable {H : Type} {enc : TypeId × Value → H} {w : World} {held : Bool} {sp : Nat → Bool} {n : Nat}
theorem in_int {cs : List Value} {y : DataW H × List MemPlace} (h : DataW.trod enc Tryz.prog w 0 sp held n 3 cs = some y) : ∃ d : Int, InD w 1 (.v (.int .i64 d)) cs := by
  obtain ⟨i, e1, _, _⟩ := DataW.trod_int (by kernel_rfl) h
  exact ⟨i, by rw [e1]; exact InD.one rfl rfl⟩
theorem in_str {cs : List Value} {y : DataW H × List MemPlace} (h : DataW.trod enc Tryz.prog w 0 sp held n 9 cs = some y) : ∃ d : ByteArray, InD w 1 (.s d) cs := by
  obtain ⟨s0, e0, _, k0⟩ := DataW.trod_string (by kernel_rfl) h
  exact ⟨s0, by rw [e0]; exact InD.one ⟨rfl, k0⟩ rfl⟩
theorem in_lbl {cs : List Value} {y : DataW H × List MemPlace} (h : DataW.trod enc Tryz.prog w 0 sp held n 62 cs = some y) : ∃ d : Lbl, InD w 2 (Lbl.d d) cs := by
  obtain ⟨a, b, y0, y1, m, rfl, h0, h1⟩ := open_str2 (f0 := ⟨"Name", 9, 0, false, "", "", 0⟩) (f1 := ⟨"Value", 9, 1, false, "", "", 16⟩) (by kernel_rfl) rfl rfl (by kernel_rfl) (by kernel_rfl) (by kernel_rfl) h
  obtain ⟨s0, e0, _, k0⟩ := DataW.trod_string (by kernel_rfl) h0
  obtain ⟨s1, e1, _, k1⟩ := DataW.trod_string (by kernel_rfl) h1
  simp at e0 e1
  subst e0; subst e1
  exact ⟨⟨s0, s1⟩, .agg #[.string s0, .string s1], rfl, ⟨_, rfl, _, _, rfl, rfl, ⟨rfl, k0⟩, _, _, rfl, rfl, ⟨rfl, k1⟩, rfl⟩, fun c hc => by
    simp [Value.cells] at hc; rcases hc with rfl | rfl <;> rfl, rfl⟩
theorem in_labels {vs : List Value} {x : DataW H × List MemPlace} (h : DataW.trod enc Tryz.prog w 0 sp held n 50 vs = some x) : ∃ (v : Value) (ls : List Lbl), vs = [v] ∧ D.rep w (FA w) (.sh 2 (ls.map Lbl.d)) v := open_slD Lbl.d (by kernel_rfl) (by kernel_rfl) (by decide) h (fun _ _ _ h => in_lbl h)
theorem in_texts {vs : List Value} {x : DataW H × List MemPlace} (h : DataW.trod enc Tryz.prog w 0 sp held n 23 vs = some x) : ∃ (v : Value) (ls : List ByteArray), vs = [v] ∧ D.rep w (FA w) (.sh 1 (ls.map D.s)) v := open_slD D.s (by kernel_rfl) (by kernel_rfl) (by decide) h (fun _ _ _ h => in_str h)
theorem in_row {cs : List Value} {y : DataW H × List MemPlace} (h : DataW.trod enc Tryz.prog w 0 sp held n 53 cs = some y) : ∃ d : RowD, InD w 2 (RowD.d d) cs := by
  obtain ⟨a, b, y0, y1, m, rfl, h0, h1⟩ := open_str2 (f0 := ⟨"Labels", 50, 0, false, "", "", 0⟩) (f1 := ⟨"V", 3, 1, false, "", "", 24⟩) (by kernel_rfl) rfl rfl (by kernel_rfl) (by kernel_rfl) (by kernel_rfl) h
  obtain ⟨v, ls, e0, k0⟩ := in_labels h0
  obtain ⟨i, e1, _, _⟩ := DataW.trod_int (by kernel_rfl) h1
  have e3 : b = Value.int .i64 i := by simpa using e1
  have e4 : a = v := by simpa using e0
  subst e4; subst e3
  have hv : a.oneCell' = true := by obtain ⟨A, c, e, _⟩ := k0; rw [e]; rfl
  exact ⟨⟨ls, i⟩, .agg #[a, .int .i64 i], rfl, ⟨_, rfl, _, _, rfl, hv, k0, _, _, rfl, rfl, rfl, rfl⟩, fun c hc => by
    simp [Value.cells] at hc; rcases hc with rfl | rfl; exact hv; rfl, rfl⟩
theorem in_rows {vs : List Value} {x : DataW H × List MemPlace} (h : DataW.trod enc Tryz.prog w 0 sp held n 22 vs = some x) : ∃ (v : Value) (ls : List RowD), vs = [v] ∧ D.rep w (FA w) (.sh 2 (ls.map RowD.d)) v := open_slD RowD.d (by kernel_rfl) (by kernel_rfl) (by decide) h (fun _ _ _ h => in_row h)
end
end Lp
/-
  The program draws the order of what Go leaves open.
-/
namespace Lp
open Go Go.RowKit Go.Proofs
theorem z4 : Tryz.prog.follows .mixedOrders = true := by kernel_rfl
/-- short words for ways through code -/
abbrev T' : Bool := true
abbrev F' : Bool := false
abbrev dZ : D := .v (.slice none 0 0)
abbrev dP (g o : Nat) : D := .v (.pointer (some ⟨g, o, none⟩))
abbrev vS (g n c : Nat) : Value := .slice (some ⟨g, 0, none⟩) n c
end Lp
/-
  The rules for code once more: one computation stands for all that a step asks.
-/
set_option linter.unusedVariables false
namespace Lp
open Go Go.RowKit Go.Proofs
/-- a list, copied until it stands there entry by entry -/
def cpF {α : Type} : List α → Option (List α)
  | [] => some []
  | x :: r => match cpF r with
    | some l => some (x :: l)
    | none => none
theorem zdt {α : Type} : ∀ {l l' : List α}, cpF l = some l' → l = l'
  | [], _, h => by injection h
  | x :: r, l', h => by
    unfold cpF at h
    split at h
    · rename_i l hl; injection h with h; rw [← h, zdt hl]
    · cases h
def kpF : List Nat → Kd → Option Kd
  | [], _ => some []
  | t :: r, K => match z9 K t with
    | some d => match kpF r K with
      | some l => some ((t, d) :: l)
      | none => none
    | none => none
theorem kpF_sub : ∀ {ts : List Nat} {K K' : Kd}, kpF ts K = some K' → SubK K' K
  | [], _, _, h => by injection h with h; subst h; trivial
  | t :: r, K, K', h => by
    unfold kpF at h
    split at h
    · rename_i d hd
      split at h
      · rename_i l hl; injection h with h; subst h; exact ⟨⟨d, hd, Cv.rfl'⟩, kpF_sub hl⟩
      · cases h
    · cases h
theorem sa : ∀ {K' K : Kd}, K'.map (fun p => z9 K p.1) = K'.map (fun p => some p.2) → SubK K' K
  | [], _, _ => trivial
  | (t, d) :: r, K, h => by
    simp only [List.map_cons, List.cons.injEq] at h
    exact ⟨⟨d, h.1, Cv.rfl'⟩, sa h.2⟩
def snF : List Bool → Bool → Option (List Bool)
  | [], b => some [b]
  | x :: r, b => match snF r b with
    | some l => some (x :: l)
    | none => none
theorem zc8 : ∀ {p q : List Bool} {b : Bool}, snF p b = some q → p ++ [b] = q
  | [], _, _, h => by injection h
  | x :: r, q, b, h => by
    unfold snF at h
    split at h
    · rename_i l hl; injection h with h; rw [← h, List.cons_append, zc8 hl]
    · cases h
/-- what an operation without side conditions gives -/
def zdB (K : Kd) : Op → Option D
  | .move x => opD K x
  | .assign x => opD K x
  | .extract x n => match opD K x with
    | some (.tup ds) => nth ds n
    | _ => none
  | .pick c x y => match opD K c with
    | some (.v (.bool true)) => opD K x
    | some (.v (.bool false)) => opD K y
    | _ => none
  | .unOp .not _ x => match opD K x with
    | some (.v (.bool true)) => some (.v (.bool false))
    | some (.v (.bool false)) => some (.v (.bool true))
    | _ => none
  | .nilCheck x => match opD K x with
    | some (.v (.pointer (some a))) => some (.v (.pointer (some a)))
    | some (.el X o) => some (.el X o)
    | _ => none
  | _ => none
theorem pureD_ok {P : Program} {ty : TypeId} {K : Kd} {H : List Hp} {op : Op} {d : D} (h : zdB K op = some d) : Pu P op ty K H d := by
  unfold zdB at h
  split at h
  · exact zb h
  · exact p_assign h
  · split at h
    · rename_i hx; exact p_extract hx h
    · cases h
  · split at h
    · rename_i hc; exact p_pick_t hc h
    · rename_i hc; exact zbW hc h
    · cases h
  · split at h
    · rename_i hx; injection h with h; subst h; exact za9 (q := true) hx
    · rename_i hx; injection h with h; subst h; exact za9 (q := false) hx
    · cases h
  · split at h
    · rename_i hx; injection h with h; subst h; exact p_nilCheck hx
    · rename_i hx; injection h with h; subst h; exact p_nilCheck_el hx
    · cases h
  · cases h
/-- a cell and its datum -/
def oneC (N : Nat) (t : Tmp) : Option D → Option (Tmp × D)
  | some d => bif Nat.blt t N then some (t, d) else none
  | none => none
theorem oneC_ok {N : Nat} {t u : Tmp} {x : Option D} {d : D} (h : oneC N t x = some (u, d)) : t = u ∧ x = some d ∧ Nat.blt t N = true := by
  unfold oneC at h
  cases x with
  | none => cases h
  | some e =>
    cases hb : Nat.blt t N
    · simp [hb] at h
    · simp [hb] at h; exact ⟨h.1, by rw [h.2], rfl⟩
/-- an operation under a guard: what was computed there -/
def guardD (K : Kd) (want : Bool) (op : Op) : Option D → Option D
  | some (.v u) => match nb u, want with
    | some true, true => zdB K op
    | some false, false => zdB K op
    | some true, false => some (.v undef)
    | some false, true => some (.v undef)
    | none, _ => some (.v undef)
  | _ => none
/-- one operation: which cell it fills, and with what -/
def oneD (ops : List Oper) (i N : Nat) (K : Kd) : Option (Tmp × D) :=
  match opAt ops i with
  | some (some t, op, _, none) => oneC N t (zdB K op)
  | some (some t, op, _, some (j, want)) => match zaC ops j with
    | some s => bif Nat.blt s N then oneC N t (guardD K want op (z9 K s)) else none
    | none => none
  | _ => none
/-- n operations -/
def runD (ops : List Oper) (N : Nat) : Nat → Nat → Kd → Option (Nat × Kd)
  | 0, i, K => some (i, K)
  | n + 1, i, K => match oneD ops i N K with
    | some (t, d) => runD ops N n (i + 1) ((t, d) :: K)
    | none => none
def opP (ops : List Oper) (i N : Nat) : Option (Tmp × Op × TypeId) := match opAt ops i with
  | some (some t, op, ty, none) => bif Nat.blt t N then some (t, op, ty) else none
  | _ => none
def opE (ops : List Oper) (i N : Nat) : Option (Option Tmp × Op × TypeId) := match opAt ops i with
  | some (t, op, ty, none) => bif dok N t then some (t, op, ty) else none
  | _ => none
/-- the guard of an operation that runs -/
def gdF (ops : List Oper) (N : Nat) (K : Kd) (j : Nat) (want : Bool) : Bool := match zaC ops j with
  | some s => match z9 K s with
    | some (.v (.bool b)) => Nat.blt s N && (b == want)
    | _ => false
  | none => false
def opG (ops : List Oper) (i N : Nat) (K : Kd) : Option (Option Tmp × Op × TypeId) := match opAt ops i with
  | some (t, op, ty, some (j, want)) => match dok N t, gdF ops N K j want with
    | true, true => some (t, op, ty)
    | _, _ => none
  | _ => none
section
variable {P : Program} {N : Nat} {C : Ctx} {K : Kd} {H : List Hp} {ops : List Oper} {i : Nat} {Kt : Env → World → (Nat → Prop) → Prop}
theorem nb_b {u : Value} {b : Bool} (h : nb u = some b) : u = .bool b := by cases u <;> simp [nb] at h; rw [h]
theorem o1 {t : Tmp} {d : D} (h : oneD ops i N K = some (t, d)) (k : OpsD P N C ops (i + 1) ((t, d) :: K) H Kt) : OpsD P N C ops i K H Kt := by
  unfold oneD at h
  split at h
  · rename_i t' op ty ho
    obtain ⟨e1, e2, e3⟩ := oneC_ok h
    subst e1
    exact od_pu ho e3 (pureD_ok e2) k
  · rename_i t' op ty j want ho
    split at h
    · rename_i s hs
      cases hb : Nat.blt s N
      · simp [hb] at h
      · simp only [hb, cond_true] at h
        obtain ⟨e1, e2, e3⟩ := oneC_ok h
        subst e1
        unfold guardD at e2
        split at e2
        · rename_i u hl
          split at e2
          · rename_i hn; rw [nb_b hn] at hl; exact od_runp ho e3 hs hb hl (pureD_ok e2) k
          · rename_i hn; rw [nb_b hn] at hl; exact od_runp ho e3 hs hb hl (pureD_ok e2) k
          · rename_i hn; injection e2 with e2; subst e2; exact od_skip ho e3 hs hb hl (by rw [hn]; decide) k
          · rename_i hn; injection e2 with e2; subst e2; exact od_skip ho e3 hs hb hl (by rw [hn]; decide) k
          · rename_i hn; injection e2 with e2; subst e2; exact od_skip ho e3 hs hb hl (by rw [hn]; simp) k
        · cases e2
    · cases h
  · cases h
theorem oR (n : Nat) {j : Nat} {K' : Kd} (h : runD ops N n i K = some (j, K')) (k : OpsD P N C ops j K' H Kt) : OpsD P N C ops i K H Kt := by
  induction n generalizing i K with
  | zero => injection h with h; injection h with h1 h2; subst h1; subst h2; exact k
  | succ n ih =>
    unfold runD at h
    split at h
    · rename_i t d he; exact o1 he (ih h)
    · cases h
theorem opP_ok {t : Tmp} {op : Op} {ty : TypeId} (h : opP ops i N = some (t, op, ty)) : opAt ops i = some (some t, op, ty, none) ∧ Nat.blt t N = true := by
  unfold opP at h
  split at h
  · rename_i t' op' ty' ho
    cases hb : Nat.blt t' N
    · simp [hb] at h
    · simp [hb] at h; obtain ⟨h1, h2, h3⟩ := h; subst h1; subst h2; subst h3; exact ⟨ho, hb⟩
  · cases h
theorem opE_ok {t : Option Tmp} {op : Op} {ty : TypeId} (h : opE ops i N = some (t, op, ty)) : opAt ops i = some (t, op, ty, none) ∧ dok N t = true := by
  unfold opE at h
  split at h
  · rename_i t' op' ty' ho
    cases hb : dok N t'
    · simp [hb] at h
    · simp [hb] at h; obtain ⟨h1, h2, h3⟩ := h; subst h1; subst h2; subst h3; exact ⟨ho, hb⟩
  · cases h
theorem opG_ok {t : Option Tmp} {op : Op} {ty : TypeId} (h : opG ops i N K = some (t, op, ty)) : ∃ j want s, opAt ops i = some (t, op, ty, some (j, want)) ∧ dok N t = true ∧ zaC ops j = some s ∧ Nat.blt s N = true ∧ z9 K s = some (.v (.bool want)) := by
  unfold opG at h
  split at h
  · rename_i t' op' ty' j want ho
    split at h
    · rename_i h1 h2
      injection h with h; injection h with e1 h; injection h with e2 e3
      subst e1; subst e2; subst e3
      unfold gdF at h2
      split at h2
      · rename_i s hs
        split at h2
        · rename_i b hb
          simp only [Bool.and_eq_true, beq_iff_eq] at h2
          obtain ⟨h3, h4⟩ := h2; subst h4
          exact ⟨j, b, s, ho, h1, hs, h3, hb⟩
        · cases h2
      · cases h2
    · cases h
  · cases h
theorem oP {t : Tmp} {op : Op} {ty : TypeId} {d : D} (ho : opP ops i N = some (t, op, ty)) (h : Pu P op ty K H d) (k : OpsD P N C ops (i + 1) ((t, d) :: K) H Kt) : OpsD P N C ops i K H Kt := od_pu (opP_ok ho).1 (opP_ok ho).2 h k
theorem oE {t : Option Tmp} {op : Op} {ty : TypeId} {R : D → List Hp → Prop} (ho : opE ops i N = some (t, op, ty)) (h : Ef P op ty K H R) (k : ∀ d H', R d H' → OpsD P N C ops (i + 1) (upK K t d) H' Kt) : OpsD P N C ops i K H Kt := od_step (opE_ok ho).1 (opE_ok ho).2 h k
theorem oF {t : Option Tmp} {op : Op} {ty : TypeId} {R : D → List Hp → Prop} (ho : opG ops i N K = some (t, op, ty)) (h : Ef P op ty K H R) (k : ∀ d H', R d H' → OpsD P N C ops (i + 1) (upK K t d) H' Kt) : OpsD P N C ops i K H Kt := by
  obtain ⟨j, want, s, h1, h2, h3, h4, h5⟩ := opG_ok ho
  exact od_run h1 h2 h3 h4 h5 h k
theorem oG {t : Tmp} {op : Op} {ty : TypeId} {d : D} (ho : opG ops i N K = some (some t, op, ty)) (h : Pu P op ty K H d) (k : OpsD P N C ops (i + 1) ((t, d) :: K) H Kt) : OpsD P N C ops i K H Kt :=
  oF ho h.ef fun _ _ ⟨e1, e2⟩ => by subst e1; subst e2; exact k
/-- a call that only hands back a datum -/
theorem oW {t : Option Tmp} {f : FuncId} {args : Array Operand} {ats : Array TypeId} {ty : TypeId} {ds0 ds : List D} {d : D} (ho : opE ops i N = some (t, .call { callee := .value (.func f), args := args, argTypes := ats }, ty)) (hargs : opsD K args.toList = some ds0) (ha : ArgCs [] ds0 ds)
    (hc : ∀ args w, (callFunc f args).run P w = .ok (.enter f args) w) (hcall : CD P f [] ds (isR d)) (k : OpsD P N C ops (i + 1) (upK K t d) H Kt) : OpsD P N C ops i K H Kt :=
  oE ho (zK [] _ [] rfl hargs ha zw hc hcall (.inl rfl)) (by rintro _ _ ⟨_, ⟨rfl, rfl⟩, rfl⟩; exact k)
theorem oV {t : Option Tmp} {f : FuncId} {args : Array Operand} {ats : Array TypeId} {ty : TypeId} {ds0 ds : List D} {d : D} (ho : opG ops i N K = some (t, .call { callee := .value (.func f), args := args, argTypes := ats }, ty)) (hargs : opsD K args.toList = some ds0) (ha : ArgCs [] ds0 ds)
    (hc : ∀ args w, (callFunc f args).run P w = .ok (.enter f args) w) (hcall : CD P f [] ds (isR d)) (k : OpsD P N C ops (i + 1) (upK K t d) H Kt) : OpsD P N C ops i K H Kt :=
  oF ho (zK [] _ [] rfl hargs ha zw hc hcall (.inl rfl)) (by rintro _ _ ⟨_, ⟨rfl, rfl⟩, rfl⟩; exact k)
theorem acs {L : List Hp} : ∀ {ds : List D}, ArgCs L ds ds
  | [] => .nil
  | _ :: _ => .cons ArgC.id acs
theorem on {H' : List Hp} (h : cpF H = some H') (k : OpsD P N C ops i K H' Kt) : OpsD P N C ops i K H Kt := zdt h ▸ k
theorem ok (ts : List Nat) {K' : Kd} (h : kpF ts K = some K') (k : OpsD P N C ops i K' H Kt) : OpsD P N C ops i K H Kt := OpsD.sub K' (kpF_sub h) k
theorem os (t : Nat) {d d' : D} (h : z9 K t = some d) (e : d = d') (k : OpsD P N C ops i ((t, d') :: K) H Kt) : OpsD P N C ops i K H Kt := by
  subst e
  refine ⟨fun a w F ok hk g => k.out a w F ok (fun s u hu => ?_) g⟩
  simp only [z9] at hu
  by_cases e : s = t
  · subst e; rw [show Nat.beq s s = true from Nat.beq_refl s] at hu; simp only [cond_true, Option.some.injEq] at hu; subst hu; exact hk s _ h
  · rw [za5 e] at hu; exact hk s u hu
/-- behind the last operation: the code that follows -/
theorem oZ {b : Code} {Q : zax} (hn : Nat.ble ops.length i = true) (h : JD P N C b K H Q) : OpsD P N C ops i K H (fun ρ w F => qseq P N b Q .normal ρ w F) := zg (Q := qseq P N b Q) hn (zc h)
end
section
variable {P : Program} {N : Nat} {C : Ctx} {K : Kd} {H : List Hp} {Q : zax} {c : Code} {p pa pb : List Bool}
theorem jn {H' : List Hp} {b : Code} (h : cpF H = some H') (k : JD P N C b K H' Q) : JD P N C b K H Q := zdt h ▸ k
theorem pn {H' : List Hp} {e : Exit} (h : cpF H = some H') (k : PD C Q e K H') : PD C Q e K H := zdt h ▸ k
theorem jk (ts : List Nat) {K' : Kd} {b : Code} (h : kpF ts K = some K') (k : JD P N C b K' H Q) : JD P N C b K H Q := JD.sub K' (kpF_sub h) k
theorem pk (ts : List Nat) {K' : Kd} {e : Exit} (h : kpF ts K = some K') (k : PD C Q e K' H) : PD C Q e K H := PD.sub K' (kpF_sub h) k
theorem ja {K' : Kd} {b : Code} (h : cpF K = some K') (k : JD P N C b K' H Q) : JD P N C b K H Q := zdt h ▸ k
theorem js (t : Nat) {d d' : D} {b : Code} (h : z9 K t = some d) (e : d = d') (k : JD P N C b ((t, d') :: K) H Q) : JD P N C b K H Q := by
  subst e
  refine ⟨fun a w F ok hk g => k.out a w F ok (fun s u hu => ?_) g⟩
  simp only [z9] at hu
  by_cases e : s = t
  · subst e; rw [show Nat.beq s s = true from Nat.beq_refl s] at hu; simp only [cond_true, Option.some.injEq] at hu; subst hu; exact hk s _ h
  · rw [za5 e] at hu; exact hk s u hu
def sqF (c : Code) (p : List Bool) : Option (List Bool × List Bool) := match isSeq (cd c p), snF p false, snF p true with
  | true, some a, some b => some (a, b)
  | _, _, _ => none
theorem sqF_ok (h : sqF c p = some (pa, pb)) : isSeq (cd c p) = true ∧ p ++ [false] = pa ∧ p ++ [true] = pb := by
  unfold sqF at h
  split at h
  · rename_i h1 h2 h3; injection h with h; injection h with e1 e2; subst e1; subst e2; exact ⟨h1, zc8 h2, zc8 h3⟩
  · cases h
theorem jS (h : sqF c p = some (pa, pb)) (k : JD P N C (cd c pa) K H (qseq P N (cd c pb) Q)) : JD P N C (cd c p) K H Q := jd_seq _ _ (sqF_ok h).1 (sqF_ok h).2.1 (sqF_ok h).2.2 k
def sgF (c : Code) (p : List Bool) : Option (List Bool × List Bool) := match sqF c p with
  | some (a, b) => match zdb (cd c a) with
    | some false => some (a, b)
    | _ => none
  | none => none
theorem jT (h : sgF c p = some (pa, pb)) (k : OpsD P N C (zcj (cd c pa)) 0 K H (fun ρ w F => qseq P N (cd c pb) Q .normal ρ w F)) : JD P N C (cd c p) K H Q := by
  unfold sgF at h
  split at h
  · rename_i a b h1
    split at h
    · rename_i h2; injection h with h; injection h with e1 e2; subst e1; subst e2; exact jS h1 (za h2 k)
    · cases h
  · cases h
def cnF (c : Code) (p : List Bool) (K : Kd) : Option (List Bool × List Bool × D) := match condOf (cd c p), snF p false, snF p true with
  | some x, some a, some b => match opD K x with
    | some d => some (a, b, d)
    | none => none
  | _, _, _ => none
theorem jC {t : Bool} (h : cnF c p K = some (pa, pb, .v (.bool t))) (ht : t = true → JD P N C (cd c pa) K H Q) (hf : t = false → JD P N C (cd c pb) K H Q) : JD P N C (cd c p) K H Q := by
  unfold cnF at h
  split at h
  · rename_i x a b h1 h2 h3
    split at h
    · rename_i d hd; injection h with h; injection h with e1 h; injection h with e2 e3
      subst e1; subst e2; subst e3
      exact jd_cond _ _ h1 (zc8 h2) (zc8 h3) hd ht hf
    · cases h
  · cases h
theorem jD {φ : Prop} {_ : Decidable φ} (h : cnF c p K = some (pa, pb, .v (.bool (decide φ)))) (ht : φ → JD P N C (cd c pa) K H Q) (hf : ¬φ → JD P N C (cd c pb) K H Q) : JD P N C (cd c p) K H Q :=
  jC h (fun e => ht (of_decide_eq_true e)) (fun e => hf (of_decide_eq_false e))
theorem jCt (h : cnF c p K = some (pa, pb, .v (.bool true))) (ht : JD P N C (cd c pa) K H Q) : JD P N C (cd c p) K H Q := jC h (fun _ => ht) (fun e => by cases e)
theorem jCf (h : cnF c p K = some (pa, pb, .v (.bool false))) (hf : JD P N C (cd c pb) K H Q) : JD P N C (cd c p) K H Q := jC h (fun e => by cases e) (fun _ => hf)
def blF (c : Code) (p : List Bool) : Option (List Bool × Nat) := match blockOf (cd c p), snF p false with
  | some n, some a => some (a, n)
  | _, _ => none
theorem jB {id : Nat} (h : blF c p = some (pa, id)) (k : JD P N C (cd c pa) K H (zc9 id Q)) : JD P N C (cd c p) K H Q := by
  unfold blF at h
  split at h
  · rename_i h1 h2; injection h with h; injection h with e1 e2; subst e1; subst e2; exact jd_block _ h1 (zc8 h2) k
  · cases h
def lpF (c : Code) (p : List Bool) : Option (List Bool) := match isLoop (cd c p), snF p false with
  | true, some a => some a
  | _, _ => none
theorem zcS (h : lpF c p = some pa) : isLoop (cd c p) = true ∧ p ++ [false] = pa := by
  unfold lpF at h
  split at h
  · rename_i h1 h2; injection h with h; subst h; exact ⟨h1, zc8 h2⟩
  · cases h
abbrev ql1 {A0 : Type} (C : Ctx) (L : A0 → Kd) (HI : A0 → List Hp) (I : A0 → Prop) (μ : A0 → Nat) (a0 : A0) (Q : zax) : zax := zdo C (fun g : A0 => L g) (fun g : A0 => HI g) (fun g : A0 => I g) (fun g : A0 => μ g) a0 Q
theorem jl1 {A0 : Type} (L : A0 → Kd) (HI : A0 → List Hp) (I : A0 → Prop) (μ : A0 → Nat) (a0 : A0) (hk : lpF c p = some pa) (hs : SubK (L a0) K) (hH : HSub H (HI a0)) (hI : I a0) (h : ∀ b0, I b0 → JD P N C (cd c pa) (L b0) (HI b0) (ql1 C L HI I μ b0 Q)) : JD P N C (cd c p) K H Q :=
  jd_loop (fun g : A0 => L g) (fun g : A0 => HI g) (fun g : A0 => I g) (fun g : A0 => μ g) pa a0 (zcS hk).1 (zcS hk).2 hs hH hI (fun g hg => h g hg)
theorem pl1 {A0 : Type} {L : A0 → Kd} {HI : A0 → List Hp} {I : A0 → Prop} {μ : A0 → Nat} {a0 : A0} (b0 : A0) (hs : SubK (L b0) K) (hH : HSub H (HI b0)) (hI : I b0) (hμ : μ b0 < μ a0) : PD C (ql1 C L HI I μ a0 Q) .normal K H := pd_loop b0 hs hH hI hμ
abbrev ql2 {A0 A1 : Type} (C : Ctx) (L : A0 → A1 → Kd) (HI : A0 → A1 → List Hp) (I : A0 → A1 → Prop) (μ : A0 → A1 → Nat) (a0 : A0) (a1 : A1) (Q : zax) : zax := zdo C (fun g : A0 × A1 => L g.1 g.2) (fun g : A0 × A1 => HI g.1 g.2) (fun g : A0 × A1 => I g.1 g.2) (fun g : A0 × A1 => μ g.1 g.2) (a0, a1) Q
theorem jl2 {A0 A1 : Type} (L : A0 → A1 → Kd) (HI : A0 → A1 → List Hp) (I : A0 → A1 → Prop) (μ : A0 → A1 → Nat) (a0 : A0) (a1 : A1) (hk : lpF c p = some pa) (hs : SubK (L a0 a1) K) (hH : HSub H (HI a0 a1)) (hI : I a0 a1) (h : ∀ b0 b1, I b0 b1 → JD P N C (cd c pa) (L b0 b1) (HI b0 b1) (ql2 C L HI I μ b0 b1 Q)) : JD P N C (cd c p) K H Q :=
  jd_loop (fun g : A0 × A1 => L g.1 g.2) (fun g : A0 × A1 => HI g.1 g.2) (fun g : A0 × A1 => I g.1 g.2) (fun g : A0 × A1 => μ g.1 g.2) pa (a0, a1) (zcS hk).1 (zcS hk).2 hs hH hI (fun g hg => h g.1 g.2 hg)
theorem pl2 {A0 A1 : Type} {L : A0 → A1 → Kd} {HI : A0 → A1 → List Hp} {I : A0 → A1 → Prop} {μ : A0 → A1 → Nat} {a0 : A0} {a1 : A1} (b0 : A0) (b1 : A1) (hs : SubK (L b0 b1) K) (hH : HSub H (HI b0 b1)) (hI : I b0 b1) (hμ : μ b0 b1 < μ a0 a1) : PD C (ql2 C L HI I μ a0 a1 Q) .normal K H := pd_loop (b0, b1) hs hH hI hμ
abbrev ql3 {A0 A1 A2 : Type} (C : Ctx) (L : A0 → A1 → A2 → Kd) (HI : A0 → A1 → A2 → List Hp) (I : A0 → A1 → A2 → Prop) (μ : A0 → A1 → A2 → Nat) (a0 : A0) (a1 : A1) (a2 : A2) (Q : zax) : zax := zdo C (fun g : A0 × A1 × A2 => L g.1 g.2.1 g.2.2) (fun g : A0 × A1 × A2 => HI g.1 g.2.1 g.2.2) (fun g : A0 × A1 × A2 => I g.1 g.2.1 g.2.2) (fun g : A0 × A1 × A2 => μ g.1 g.2.1 g.2.2) (a0, a1, a2) Q
theorem jl3 {A0 A1 A2 : Type} (L : A0 → A1 → A2 → Kd) (HI : A0 → A1 → A2 → List Hp) (I : A0 → A1 → A2 → Prop) (μ : A0 → A1 → A2 → Nat) (a0 : A0) (a1 : A1) (a2 : A2) (hk : lpF c p = some pa) (hs : SubK (L a0 a1 a2) K) (hH : HSub H (HI a0 a1 a2)) (hI : I a0 a1 a2) (h : ∀ b0 b1 b2, I b0 b1 b2 → JD P N C (cd c pa) (L b0 b1 b2) (HI b0 b1 b2) (ql3 C L HI I μ b0 b1 b2 Q)) : JD P N C (cd c p) K H Q :=
  jd_loop (fun g : A0 × A1 × A2 => L g.1 g.2.1 g.2.2) (fun g : A0 × A1 × A2 => HI g.1 g.2.1 g.2.2) (fun g : A0 × A1 × A2 => I g.1 g.2.1 g.2.2) (fun g : A0 × A1 × A2 => μ g.1 g.2.1 g.2.2) pa (a0, a1, a2) (zcS hk).1 (zcS hk).2 hs hH hI (fun g hg => h g.1 g.2.1 g.2.2 hg)
theorem pl3 {A0 A1 A2 : Type} {L : A0 → A1 → A2 → Kd} {HI : A0 → A1 → A2 → List Hp} {I : A0 → A1 → A2 → Prop} {μ : A0 → A1 → A2 → Nat} {a0 : A0} {a1 : A1} {a2 : A2} (b0 : A0) (b1 : A1) (b2 : A2) (hs : SubK (L b0 b1 b2) K) (hH : HSub H (HI b0 b1 b2)) (hI : I b0 b1 b2) (hμ : μ b0 b1 b2 < μ a0 a1 a2) : PD C (ql3 C L HI I μ a0 a1 a2 Q) .normal K H := pd_loop (b0, b1, b2) hs hH hI hμ
abbrev ql4 {A0 A1 A2 A3 : Type} (C : Ctx) (L : A0 → A1 → A2 → A3 → Kd) (HI : A0 → A1 → A2 → A3 → List Hp) (I : A0 → A1 → A2 → A3 → Prop) (μ : A0 → A1 → A2 → A3 → Nat) (a0 : A0) (a1 : A1) (a2 : A2) (a3 : A3) (Q : zax) : zax := zdo C (fun g : A0 × A1 × A2 × A3 => L g.1 g.2.1 g.2.2.1 g.2.2.2) (fun g : A0 × A1 × A2 × A3 => HI g.1 g.2.1 g.2.2.1 g.2.2.2) (fun g : A0 × A1 × A2 × A3 => I g.1 g.2.1 g.2.2.1 g.2.2.2) (fun g : A0 × A1 × A2 × A3 => μ g.1 g.2.1 g.2.2.1 g.2.2.2) (a0, a1, a2, a3) Q
theorem jl4 {A0 A1 A2 A3 : Type} (L : A0 → A1 → A2 → A3 → Kd) (HI : A0 → A1 → A2 → A3 → List Hp) (I : A0 → A1 → A2 → A3 → Prop) (μ : A0 → A1 → A2 → A3 → Nat) (a0 : A0) (a1 : A1) (a2 : A2) (a3 : A3) (hk : lpF c p = some pa) (hs : SubK (L a0 a1 a2 a3) K) (hH : HSub H (HI a0 a1 a2 a3)) (hI : I a0 a1 a2 a3) (h : ∀ b0 b1 b2 b3, I b0 b1 b2 b3 → JD P N C (cd c pa) (L b0 b1 b2 b3) (HI b0 b1 b2 b3) (ql4 C L HI I μ b0 b1 b2 b3 Q)) : JD P N C (cd c p) K H Q :=
  jd_loop (fun g : A0 × A1 × A2 × A3 => L g.1 g.2.1 g.2.2.1 g.2.2.2) (fun g : A0 × A1 × A2 × A3 => HI g.1 g.2.1 g.2.2.1 g.2.2.2) (fun g : A0 × A1 × A2 × A3 => I g.1 g.2.1 g.2.2.1 g.2.2.2) (fun g : A0 × A1 × A2 × A3 => μ g.1 g.2.1 g.2.2.1 g.2.2.2) pa (a0, a1, a2, a3) (zcS hk).1 (zcS hk).2 hs hH hI (fun g hg => h g.1 g.2.1 g.2.2.1 g.2.2.2 hg)
theorem pl4 {A0 A1 A2 A3 : Type} {L : A0 → A1 → A2 → A3 → Kd} {HI : A0 → A1 → A2 → A3 → List Hp} {I : A0 → A1 → A2 → A3 → Prop} {μ : A0 → A1 → A2 → A3 → Nat} {a0 : A0} {a1 : A1} {a2 : A2} {a3 : A3} (b0 : A0) (b1 : A1) (b2 : A2) (b3 : A3) (hs : SubK (L b0 b1 b2 b3) K) (hH : HSub H (HI b0 b1 b2 b3)) (hI : I b0 b1 b2 b3) (hμ : μ b0 b1 b2 b3 < μ a0 a1 a2 a3) : PD C (ql4 C L HI I μ a0 a1 a2 a3 Q) .normal K H := pd_loop (b0, b1, b2, b3) hs hH hI hμ
end
theorem bA (a b : Bool) : ((a && b) = true) = (a = true ∧ b = true) := Bool.and_eq_true a b
theorem bB (a b : Bool) : ((a || b) = true) = (a = true ∨ b = true) := Bool.or_eq_true a b
theorem bC (b : Bool) : ((!b) = true) = (b = false) := Bool.not_eq_true' b
theorem bD (b : Bool) : ((!b) = false) = (b = true) := Bool.not_eq_false' b
theorem bE (a b : Bool) : ((a && b) = false) = (a = false ∨ b = false) := by cases a <;> cases b <;> simp
theorem bF (a b : Bool) : ((a || b) = false) = (a = false ∧ b = false) := by cases a <;> cases b <;> simp
theorem bG (p : Prop) [Decidable p] : (decide p = true) = p := decide_eq_true_eq
theorem bH (p : Prop) [Decidable p] : (decide p = false) = ¬p := by simp
theorem bI (p : Prop) [Decidable p] : (¬¬p) = p := by simp
theorem bJ {α : Sort _} (a b : α) : (a ≠ b) = ¬a = b := rfl
theorem la {α : Type} {a b : List α} : (a ++ b).length = a.length + b.length := List.length_append
theorem lc {α : Type} {a : α} {b : List α} : (a :: b).length = b.length + 1 := List.length_cons
theorem ln {α : Type} : ([] : List α).length = 0 := List.length_nil
theorem lm {α β : Type} {a : List α} {f : α → β} : (a.map f).length = a.length := List.length_map f
theorem lt' {α : Type} {n : Nat} {a : List α} : (a.take n).length = min n a.length := List.length_take
theorem ld {α : Type} {n : Nat} {a : List α} : (a.drop n).length = a.length - n := List.length_drop
theorem ls {α : Type} {n : Nat} {a : List α} {x : α} : (a.set n x).length = a.length := List.length_set
theorem lr {α : Type} {n : Nat} {x : α} : (List.replicate n x).length = n := List.length_replicate
end Lp
