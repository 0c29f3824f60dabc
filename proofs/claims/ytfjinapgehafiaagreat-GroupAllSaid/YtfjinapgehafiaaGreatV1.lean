/-
  Rows and their order, as plain data: how two labels, two lists of labels, two rows stand.
-/
import Derived.Test.YtfjinapgehafiaaGreatProg
import Derived.Test.YtfjinapgehafiaaGreatDG
namespace Lp
open Go

abbrev dN (n : Nat) : D := .v (.int .i64 (n : Int))
/-- A row as data. -/
structure RowD where
  ls : List Lbl
  v : Int
  deriving DecidableEq
abbrev LLs := List (List RowD)
def Lbl.d (x : Lbl) : D := .agg [.s x.n, .s x.v]
def RowD.d (x : RowD) : D := .agg [.sh 2 (x.ls.map Lbl.d), .v (.int .i64 x.v)]

def or2 (a b : Int) : Int := if a ≠ 0 then a else b
def zaI : List Int → Int
  | [] => 0
  | a :: r => if a ≠ 0 then a else zaI r
theorem firstNZ_two (a b : Int) : zaI [a, b] = or2 a b := by
  unfold zaI zaI zaI or2; split
  · rfl
  · split <;> omega
def zC (a b : Lbl) : Int := or2 (cmpS a.n b.n) (cmpS a.v b.v)
def zG : List Lbl → List Lbl → Int
  | [], [] => 0
  | [], _ :: _ => -1
  | _ :: _, [] => 1
  | a :: r, b :: s => if zC a b ≠ 0 then zC a b else zG r s
def cmpI (a b : Int) : Int := if a < b then -1 else if b < a then 1 else 0
def zE (o : Int) (a b : RowD) : Int :=
  if o = 1 then or2 (cmpI a.v b.v) (zG a.ls b.ls) else if o = 2 then or2 (cmpI b.v a.v) (zG a.ls b.ls) else zG a.ls b.ls
def less (o : Int) (a b : RowD) : Bool := decide (zE o a b < 0)

theorem zaw {α : Type} {xs : List α} {k : Nat} {x : α} (h : xs[k]? = some x) : xs.drop k = x :: xs.drop (k + 1) := by
  have hk := get_lt h
  rw [List.drop_eq_getElem_cons hk]
  congr 1
  exact (List.getElem?_eq_some_iff.1 h).2
/-- The first that part. -/
theorem cmpLs_at {a b : List Lbl} {k : Nat} {x y : Lbl} (hx : a[k]? = some x) (hy : b[k]? = some y) (hd : zG a b = zG (a.drop k) (b.drop k)) (hc : zC x y ≠ 0) : zG a b = zC x y := by
  rw [hd, zaw hx, zaw hy]; unfold zG; rw [if_pos hc]
theorem cmpLs_next {a b : List Lbl} {k : Nat} {x y : Lbl} (hx : a[k]? = some x) (hy : b[k]? = some y) (hd : zG a b = zG (a.drop k) (b.drop k)) (hc : zC x y = 0) : zG a b = zG (a.drop (k + 1)) (b.drop (k + 1)) := by
  rw [hd, zaw hx, zaw hy]
  conv => lhs; unfold zG
  rw [if_neg (by omega)]
theorem cmpLs_right {a b : List Lbl} {k : Nat} {x : Lbl} (hx : a[k]? = some x) (hy : b.length ≤ k) (hd : zG a b = zG (a.drop k) (b.drop k)) : zG a b = 1 := by
  rw [hd, zaw hx, List.drop_eq_nil_of_le hy]; rfl
theorem cmpLs_end {a b : List Lbl} {k : Nat} (hx : a.length ≤ k) (hd : zG a b = zG (a.drop k) (b.drop k)) (hk : k ≤ a.length) : zG a b = if a.length < b.length then -1 else 0 := by
  rw [hd, List.drop_eq_nil_of_le hx]
  split
  · have : b.drop k ≠ [] := by intro h; have := congrArg List.length h; simp at this; omega
    cases h : b.drop k with
    | nil => exact absurd h this
    | cons y s => rfl
  · rw [List.drop_eq_nil_of_le (by omega)]; rfl

theorem firstNZ_next {ns : List Int} {k : Nat} {x : Int} (hx : ns[k]? = some x) (h : zaI ns = zaI (ns.drop k)) (hz : x = 0) : zaI ns = zaI (ns.drop (k + 1)) := by
  rw [h, zaw hx]; conv => lhs; unfold zaI
  rw [if_neg (by omega)]
theorem firstNZ_at {ns : List Int} {k : Nat} {x : Int} (hx : ns[k]? = some x) (h : zaI ns = zaI (ns.drop k)) (hz : x ≠ 0) : zaI ns = x := by
  rw [h, zaw hx]; unfold zaI; rw [if_pos hz]
theorem cmpLs_nil {a b : List Lbl} {k : Nat} (h1 : a.length ≤ k) (h2 : b.length ≤ k) (_h : k ≤ a.length) : zG (a.drop k) (b.drop k) = 0 := by
  rw [List.drop_eq_nil_of_le h1, List.drop_eq_nil_of_le h2]; rfl
theorem cmpLs_nil_l {a b : List Lbl} {k : Nat} (h1 : a.length ≤ k) (h2 : k < b.length) : zG (a.drop k) (b.drop k) = -1 := by
  obtain ⟨y, hy⟩ := zy b k h2
  rw [List.drop_eq_nil_of_le h1, zaw hy]; rfl
theorem cmpLs_nil_r {a b : List Lbl} {k : Nat} (h1 : k < a.length) (h2 : b.length ≤ k) : zG (a.drop k) (b.drop k) = 1 := by
  obtain ⟨y, hy⟩ := zy a k h1
  rw [List.drop_eq_nil_of_le h2, zaw hy]; rfl

def zam (ls : List Lbl) : Bool := (ls.take 30).all (fun x => decide (x.n.size ≤ 200) && decide (x.v.size ≤ 200)) && decide (ls.length ≤ 20)
def zbi (rs : List RowD) : Bool := (rs.take 100).all (fun r => zam r.ls) && decide (rs.length ≤ 60)

theorem zbc {α : Type} {f : α → Bool} {xs : List α} {k : Nat} {x : α} (hx : xs[k]? = some x) (h : (xs.take k).all f = true) (hf : f x = true) : (xs.take (k + 1)).all f = true := by
  rw [zaa hx, List.all_append, h]; simp [hf]
theorem all_take_bad {α : Type} {f : α → Bool} {xs : List α} {k n : Nat} {x : α} (hx : xs[k]? = some x) (hk : k < n) (hf : f x = false) : (xs.take n).all f = false := by
  rw [List.all_eq_false]
  refine ⟨x, ?_, by simp [hf]⟩
  have : (xs.take n)[k]? = some x := by rw [List.getElem?_take, if_pos hk]; exact hx
  exact List.mem_of_getElem? this
theorem all_take_le {α : Type} {f : α → Bool} {xs : List α} {k n : Nat} (h : (xs.take k).all f = true) (hk : xs.length ≤ k ∨ n ≤ k) : (xs.take n).all f = true := by
  rw [List.all_eq_true] at h ⊢
  intro x hx
  refine h x ?_
  rcases hk with hk | hk
  · rw [List.take_of_length_le hk]; exact List.mem_of_mem_take hx
  · have : xs.take n = (xs.take k).take n := by rw [List.take_take, Nat.min_eq_left hk]
    rw [this] at hx; exact List.mem_of_mem_take hx
theorem zal {α : Type} {xs : List α} {k : Nat} {x : α} (h : xs[k]? = some x) : x ∈ xs := List.mem_of_getElem? h
theorem zbj {α : Type} [DecidableEq α] {a b : List α} (h : a.length ≠ b.length) : decide (a = b) = false := by
  rw [decide_eq_false]; rintro rfl; exact h rfl
theorem same_ne_at {α : Type} [DecidableEq α] {a b : List α} {k : Nat} {x y : α} (hx : a[k]? = some x) (hy : b[k]? = some y) (h : x ≠ y) : decide (a = b) = false := by
  rw [decide_eq_false]; rintro rfl; rw [hx] at hy; cases hy; exact h rfl
theorem zb3 {α : Type} [DecidableEq α] {a b : List α} {k : Nat} (hl : a.length = b.length) (hk : a.length ≤ k) (h : a.take k = b.take k) : decide (a = b) = true := by
  rw [decide_eq_true]; rwa [List.take_of_length_le hk, List.take_of_length_le (by omega)] at h
theorem same_snoc {α : Type} {a b : List α} {k : Nat} {x y : α} (hx : a[k]? = some x) (hy : b[k]? = some y) (h : a.take k = b.take k) (he : x = y) : a.take (k + 1) = b.take (k + 1) := by rw [zaa hx, zaa hy, h, he]

theorem lightL_bad {xs : List Lbl} {k : Nat} {x : Lbl} (hx : xs[k]? = some x) (hk : k < 30) (h : 200 < x.n.size ∨ 200 < x.v.size) : zam xs = false := by
  unfold zam; rw [all_take_bad hx hk]; · rfl
  rw [Bool.and_eq_false_iff, decide_eq_false_iff_not, decide_eq_false_iff_not]; omega
theorem lightL_end {xs : List Lbl} {k : Nat} (h : (xs.take k).all (fun x => decide (x.n.size ≤ 200) && decide (x.v.size ≤ 200)) = true) (hk : xs.length ≤ k ∨ 30 ≤ k) : zam xs = decide (xs.length ≤ 20) := by
  unfold zam; rw [all_take_le h hk, Bool.true_and]
theorem lightR_bad {xs : List RowD} {k : Nat} {x : RowD} (hx : xs[k]? = some x) (hk : k < 100) (h : zam x.ls = false) : zbi xs = false := by
  unfold zbi; rw [all_take_bad hx hk h]; rfl
theorem lightR_end {xs : List RowD} {k : Nat} (h : (xs.take k).all (fun r => zam r.ls) = true) (hk : xs.length ≤ k ∨ 100 ≤ k) : zbi xs = decide (xs.length ≤ 60) := by
  unfold zbi; rw [all_take_le h hk, Bool.true_and]
theorem lightR_len {rs : List RowD} (h : zbi rs = true) : rs.length ≤ 60 := by
  unfold zbi at h; simp only [Bool.and_eq_true, decide_eq_true_eq] at h; exact h.2
theorem lightL_len {ls : List Lbl} (h : zam ls = true) : ls.length ≤ 20 := by
  unfold zam at h; simp only [Bool.and_eq_true, decide_eq_true_eq] at h; exact h.2
theorem lightR_row {rs : List RowD} (h : zbi rs = true) {r : RowD} (hr : r ∈ rs) : zam r.ls = true := by
  have hl := lightR_len h
  unfold zbi at h
  simp only [Bool.and_eq_true] at h
  have h1 := h.1
  rw [List.take_of_length_le (by omega), List.all_eq_true] at h1
  exact h1 r hr
end Lp
/-
  What comes in, as data: labels, rows, lists of rows, texts; and a law whose answer is fixed.
-/
set_option linter.unusedVariables false
namespace Lp
open Go Go.RowKit Go.ChangeShapes Go.Deep Go.Proofs

instance : Inhabited Lbl := ⟨⟨ByteArray.empty, ByteArray.empty⟩⟩
instance : Inhabited RowD := ⟨⟨[], 0⟩⟩

/-- A call that owns nothing and whose answer is fixed. -/
theorem CD.law {P : Program} {f : FuncId} {ds : List D} {r : D} (h : CD P f [] ds (isR r)) {w : World} {vs : List Value} (hr : D.repA w (FA w) ds vs) : Calls P f vs.toArray w (Ret fun u w' => Ext w w' ∧ ∃ F', D.rep w' F' r u) := by
  refine (h.out w (FA w) vs hr (fun _ h => h) HOk.empty).mono ?_
  rintro e w' ⟨u, rfl, F', d', H', ⟨rfl, rfl⟩, hrep, g⟩
  have hno : ∀ b, ¬ blks [] b := fun _ ⟨_, h, _⟩ => by cases h
  exact ⟨u, rfl, ⟨g.os, g.tape, g.output, g.size, fun b hb _ => g.frame b hb (hno b)⟩, F', hrep⟩

section
variable {H : Type} {enc : TypeId × Value → H} {w : World} {held : Bool} {sp : Nat → Bool} {n : Nat}
theorem in_lbl {cs : List Value} {y : DataW H × List MemPlace} (h : DataW.trod enc Tryz.prog w 0 sp held n 62 cs = some y) : ∃ d : Lbl, InD w 2 (Lbl.d d) cs := by
  obtain ⟨a, b, y0, y1, m, rfl, h0, h1⟩ := open_str2 (f0 := ⟨"Name", 9, 0, false, "", "", 0⟩) (f1 := ⟨"Value", 9, 1, false, "", "", 16⟩) (by kernel_rfl) rfl rfl (by kernel_rfl) (by kernel_rfl) (by kernel_rfl) h
  obtain ⟨s0, e0, _, k0⟩ := DataW.trod_string (by kernel_rfl) h0
  obtain ⟨s1, e1, _, k1⟩ := DataW.trod_string (by kernel_rfl) h1
  simp at e0 e1
  subst e0; subst e1
  exact ⟨⟨s0, s1⟩, .agg #[.string s0, .string s1], rfl, ⟨_, rfl, _, _, rfl, rfl, ⟨rfl, k0⟩, _, _, rfl, rfl, ⟨rfl, k1⟩, rfl⟩, fun c hc => by
    simp [Value.cells] at hc; rcases hc with rfl | rfl <;> rfl, rfl⟩
theorem in_labels {vs : List Value} {x : DataW H × List MemPlace} (h : DataW.trod enc Tryz.prog w 0 sp held n 50 vs = some x) : ∃ (v : Value) (ls : List Lbl), vs = [v] ∧ D.rep w (FA w) (.sh 2 (ls.map Lbl.d)) v := open_slD Lbl.d (by kernel_rfl) (by kernel_rfl) (by decide) h (fun _ _ _ h => in_lbl h)
theorem in_row {cs : List Value} {y : DataW H × List MemPlace} (h : DataW.trod enc Tryz.prog w 0 sp held n 53 cs = some y) : ∃ d : RowD, InD w 2 (RowD.d d) cs := by
  obtain ⟨a, b, y0, y1, m, rfl, h0, h1⟩ := open_str2 (f0 := ⟨"Labels", 50, 0, false, "", "", 0⟩) (f1 := ⟨"V", 3, 1, false, "", "", 24⟩) (by kernel_rfl) rfl rfl (by kernel_rfl) (by kernel_rfl) (by kernel_rfl) h
  obtain ⟨v, ls, e0, k0⟩ := in_labels h0
  obtain ⟨i, e1, _, _⟩ := DataW.trod_int (by kernel_rfl) h1
  have e3 : b = Value.int .i64 i := by simpa using e1
  have e4 : a = v := by simpa using e0
  subst e4; subst e3
  have hv : a.oneCell' = true := by obtain ⟨A, c, e, _⟩ := k0; rw [e]; rfl
  exact ⟨⟨ls, i⟩, .agg #[a, .int .i64 i], rfl, ⟨_, rfl, _, _, rfl, hv, k0, _, _, rfl, rfl, rfl, rfl⟩, fun c hc => by
    simp [Value.cells] at hc; rcases hc with rfl | rfl; exact hv; rfl, rfl⟩
theorem in_rows {vs : List Value} {x : DataW H × List MemPlace} (h : DataW.trod enc Tryz.prog w 0 sp held n 22 vs = some x) : ∃ (v : Value) (ls : List RowD), vs = [v] ∧ D.rep w (FA w) (.sh 2 (ls.map RowD.d)) v := open_slD RowD.d (by kernel_rfl) (by kernel_rfl) (by decide) h (fun _ _ _ h => in_row h)
end
end Lp
/-
  The program draws the order of what Go leaves open.
-/
namespace Lp
open Go Go.RowKit Go.Proofs
theorem z7 : Tryz.prog.follows .mixedOrders = true := by kernel_rfl
/-- short words for ways through code -/
abbrev T' : Bool := true
abbrev F' : Bool := false
abbrev dZ : D := .v (.slice none 0 0)
abbrev dP (g o : Nat) : D := .v (.pointer (some ⟨g, o, none⟩))
abbrev vS (g n c : Nat) : Value := .slice (some ⟨g, 0, none⟩) n c
end Lp
/-
  The rules for code once more: one computation stands for all that a step asks.
-/
set_option linter.unusedVariables false
namespace Lp
open Go Go.RowKit Go.Proofs
/-- a list, copied until it stands there entry by entry -/
def cpF {α : Type} : List α → Option (List α)
  | [] => some []
  | x :: r => match cpF r with
    | some l => some (x :: l)
    | none => none
theorem zc2 {α : Type} : ∀ {l l' : List α}, cpF l = some l' → l = l'
  | [], _, h => by injection h
  | x :: r, l', h => by
    unfold cpF at h
    split at h
    · rename_i l hl; injection h with h; rw [← h, zc2 hl]
    · cases h
def kpF : List Nat → Kd → Option Kd
  | [], _ => some []
  | t :: r, K => match z8 K t with
    | some d => match kpF r K with
      | some l => some ((t, d) :: l)
      | none => none
    | none => none
theorem kpF_sub : ∀ {ts : List Nat} {K K' : Kd}, kpF ts K = some K' → SubK K' K
  | [], _, _, h => by injection h with h; subst h; trivial
  | t :: r, K, K', h => by
    unfold kpF at h
    split at h
    · rename_i d hd
      split at h
      · rename_i l hl; injection h with h; subst h; exact ⟨⟨d, hd, Cv.rfl'⟩, kpF_sub hl⟩
      · cases h
    · cases h
theorem sa : ∀ {K' K : Kd}, K'.map (fun p => z8 K p.1) = K'.map (fun p => some p.2) → SubK K' K
  | [], _, _ => trivial
  | (t, d) :: r, K, h => by
    simp only [List.map_cons, List.cons.injEq] at h
    exact ⟨⟨d, h.1, Cv.rfl'⟩, sa h.2⟩
def snF : List Bool → Bool → Option (List Bool)
  | [], b => some [b]
  | x :: r, b => match snF r b with
    | some l => some (x :: l)
    | none => none
theorem zcK : ∀ {p q : List Bool} {b : Bool}, snF p b = some q → p ++ [b] = q
  | [], _, _, h => by injection h
  | x :: r, q, b, h => by
    unfold snF at h
    split at h
    · rename_i l hl; injection h with h; rw [← h, List.cons_append, zcK hl]
    · cases h
/-- what an operation without side conditions gives -/
def zc9 (K : Kd) : Op → Option D
  | .move x => opD K x
  | .assign x => opD K x
  | .extract x n => match opD K x with
    | some (.tup ds) => nth ds n
    | _ => none
  | .pick c x y => match opD K c with
    | some (.v (.bool true)) => opD K x
    | some (.v (.bool false)) => opD K y
    | _ => none
  | .unOp .not _ x => match opD K x with
    | some (.v (.bool true)) => some (.v (.bool false))
    | some (.v (.bool false)) => some (.v (.bool true))
    | _ => none
  | .nilCheck x => match opD K x with
    | some (.v (.pointer (some a))) => some (.v (.pointer (some a)))
    | some (.el X o) => some (.el X o)
    | _ => none
  | _ => none
theorem pureD_ok {P : Program} {ty : TypeId} {K : Kd} {H : List Hp} {op : Op} {d : D} (h : zc9 K op = some d) : Pu P op ty K H d := by
  unfold zc9 at h
  split at h
  · exact zb h
  · exact p_assign h
  · split at h
    · rename_i hx; exact p_extract hx h
    · cases h
  · split at h
    · rename_i hc; exact p_pick_t hc h
    · rename_i hc; exact zbD hc h
    · cases h
  · split at h
    · rename_i hx; injection h with h; subst h; exact zaV (q := true) hx
    · rename_i hx; injection h with h; subst h; exact zaV (q := false) hx
    · cases h
  · split at h
    · rename_i hx; injection h with h; subst h; exact p_nilCheck hx
    · rename_i hx; injection h with h; subst h; exact p_nilCheck_el hx
    · cases h
  · cases h
/-- a cell and its datum -/
def oneC (N : Nat) (t : Tmp) : Option D → Option (Tmp × D)
  | some d => bif Nat.blt t N then some (t, d) else none
  | none => none
theorem oneC_ok {N : Nat} {t u : Tmp} {x : Option D} {d : D} (h : oneC N t x = some (u, d)) : t = u ∧ x = some d ∧ Nat.blt t N = true := by
  unfold oneC at h
  cases x with
  | none => cases h
  | some e =>
    cases hb : Nat.blt t N
    · simp [hb] at h
    · simp [hb] at h; exact ⟨h.1, by rw [h.2], rfl⟩
/-- an operation under a guard: what was computed there -/
def guardD (K : Kd) (want : Bool) (op : Op) : Option D → Option D
  | some (.v u) => match nb u, want with
    | some true, true => zc9 K op
    | some false, false => zc9 K op
    | some true, false => some (.v undef)
    | some false, true => some (.v undef)
    | none, _ => some (.v undef)
  | _ => none
/-- one operation: which cell it fills, and with what -/
def oneD (ops : List Oper) (i N : Nat) (K : Kd) : Option (Tmp × D) :=
  match opAt ops i with
  | some (some t, op, _, none) => oneC N t (zc9 K op)
  | some (some t, op, _, some (j, want)) => match zaA ops j with
    | some s => bif Nat.blt s N then oneC N t (guardD K want op (z8 K s)) else none
    | none => none
  | _ => none
/-- n operations -/
def runD (ops : List Oper) (N : Nat) : Nat → Nat → Kd → Option (Nat × Kd)
  | 0, i, K => some (i, K)
  | n + 1, i, K => match oneD ops i N K with
    | some (t, d) => runD ops N n (i + 1) ((t, d) :: K)
    | none => none
def opP (ops : List Oper) (i N : Nat) : Option (Tmp × Op × TypeId) := match opAt ops i with
  | some (some t, op, ty, none) => bif Nat.blt t N then some (t, op, ty) else none
  | _ => none
def opE (ops : List Oper) (i N : Nat) : Option (Option Tmp × Op × TypeId) := match opAt ops i with
  | some (t, op, ty, none) => bif dok N t then some (t, op, ty) else none
  | _ => none
/-- the guard of an operation that runs -/
def gdF (ops : List Oper) (N : Nat) (K : Kd) (j : Nat) (want : Bool) : Bool := match zaA ops j with
  | some s => match z8 K s with
    | some (.v (.bool b)) => Nat.blt s N && (b == want)
    | _ => false
  | none => false
def opG (ops : List Oper) (i N : Nat) (K : Kd) : Option (Option Tmp × Op × TypeId) := match opAt ops i with
  | some (t, op, ty, some (j, want)) => match dok N t, gdF ops N K j want with
    | true, true => some (t, op, ty)
    | _, _ => none
  | _ => none
section
variable {P : Program} {N : Nat} {C : Ctx} {K : Kd} {H : List Hp} {ops : List Oper} {i : Nat} {Kt : Env → World → (Nat → Prop) → Prop}
theorem nb_b {u : Value} {b : Bool} (h : nb u = some b) : u = .bool b := by cases u <;> simp [nb] at h; rw [h]
theorem o1 {t : Tmp} {d : D} (h : oneD ops i N K = some (t, d)) (k : OpsD P N C ops (i + 1) ((t, d) :: K) H Kt) : OpsD P N C ops i K H Kt := by
  unfold oneD at h
  split at h
  · rename_i t' op ty ho
    obtain ⟨e1, e2, e3⟩ := oneC_ok h
    subst e1
    exact od_pu ho e3 (pureD_ok e2) k
  · rename_i t' op ty j want ho
    split at h
    · rename_i s hs
      cases hb : Nat.blt s N
      · simp [hb] at h
      · simp only [hb, cond_true] at h
        obtain ⟨e1, e2, e3⟩ := oneC_ok h
        subst e1
        unfold guardD at e2
        split at e2
        · rename_i u hl
          split at e2
          · rename_i hn; rw [nb_b hn] at hl; exact od_runp ho e3 hs hb hl (pureD_ok e2) k
          · rename_i hn; rw [nb_b hn] at hl; exact od_runp ho e3 hs hb hl (pureD_ok e2) k
          · rename_i hn; injection e2 with e2; subst e2; exact od_skip ho e3 hs hb hl (by rw [hn]; decide) k
          · rename_i hn; injection e2 with e2; subst e2; exact od_skip ho e3 hs hb hl (by rw [hn]; decide) k
          · rename_i hn; injection e2 with e2; subst e2; exact od_skip ho e3 hs hb hl (by rw [hn]; simp) k
        · cases e2
    · cases h
  · cases h
theorem oR (n : Nat) {j : Nat} {K' : Kd} (h : runD ops N n i K = some (j, K')) (k : OpsD P N C ops j K' H Kt) : OpsD P N C ops i K H Kt := by
  induction n generalizing i K with
  | zero => injection h with h; injection h with h1 h2; subst h1; subst h2; exact k
  | succ n ih =>
    unfold runD at h
    split at h
    · rename_i t d he; exact o1 he (ih h)
    · cases h
theorem opP_ok {t : Tmp} {op : Op} {ty : TypeId} (h : opP ops i N = some (t, op, ty)) : opAt ops i = some (some t, op, ty, none) ∧ Nat.blt t N = true := by
  unfold opP at h
  split at h
  · rename_i t' op' ty' ho
    cases hb : Nat.blt t' N
    · simp [hb] at h
    · simp [hb] at h; obtain ⟨h1, h2, h3⟩ := h; subst h1; subst h2; subst h3; exact ⟨ho, hb⟩
  · cases h
theorem opE_ok {t : Option Tmp} {op : Op} {ty : TypeId} (h : opE ops i N = some (t, op, ty)) : opAt ops i = some (t, op, ty, none) ∧ dok N t = true := by
  unfold opE at h
  split at h
  · rename_i t' op' ty' ho
    cases hb : dok N t'
    · simp [hb] at h
    · simp [hb] at h; obtain ⟨h1, h2, h3⟩ := h; subst h1; subst h2; subst h3; exact ⟨ho, hb⟩
  · cases h
theorem opG_ok {t : Option Tmp} {op : Op} {ty : TypeId} (h : opG ops i N K = some (t, op, ty)) : ∃ j want s, opAt ops i = some (t, op, ty, some (j, want)) ∧ dok N t = true ∧ zaA ops j = some s ∧ Nat.blt s N = true ∧ z8 K s = some (.v (.bool want)) := by
  unfold opG at h
  split at h
  · rename_i t' op' ty' j want ho
    split at h
    · rename_i h1 h2
      injection h with h; injection h with e1 h; injection h with e2 e3
      subst e1; subst e2; subst e3
      unfold gdF at h2
      split at h2
      · rename_i s hs
        split at h2
        · rename_i b hb
          simp only [Bool.and_eq_true, beq_iff_eq] at h2
          obtain ⟨h3, h4⟩ := h2; subst h4
          exact ⟨j, b, s, ho, h1, hs, h3, hb⟩
        · cases h2
      · cases h2
    · cases h
  · cases h
theorem oP {t : Tmp} {op : Op} {ty : TypeId} {d : D} (ho : opP ops i N = some (t, op, ty)) (h : Pu P op ty K H d) (k : OpsD P N C ops (i + 1) ((t, d) :: K) H Kt) : OpsD P N C ops i K H Kt := od_pu (opP_ok ho).1 (opP_ok ho).2 h k
theorem oE {t : Option Tmp} {op : Op} {ty : TypeId} {R : D → List Hp → Prop} (ho : opE ops i N = some (t, op, ty)) (h : Ef P op ty K H R) (k : ∀ d H', R d H' → OpsD P N C ops (i + 1) (upK K t d) H' Kt) : OpsD P N C ops i K H Kt := od_step (opE_ok ho).1 (opE_ok ho).2 h k
theorem oF {t : Option Tmp} {op : Op} {ty : TypeId} {R : D → List Hp → Prop} (ho : opG ops i N K = some (t, op, ty)) (h : Ef P op ty K H R) (k : ∀ d H', R d H' → OpsD P N C ops (i + 1) (upK K t d) H' Kt) : OpsD P N C ops i K H Kt := by
  obtain ⟨j, want, s, h1, h2, h3, h4, h5⟩ := opG_ok ho
  exact od_run h1 h2 h3 h4 h5 h k
theorem oG {t : Tmp} {op : Op} {ty : TypeId} {d : D} (ho : opG ops i N K = some (some t, op, ty)) (h : Pu P op ty K H d) (k : OpsD P N C ops (i + 1) ((t, d) :: K) H Kt) : OpsD P N C ops i K H Kt :=
  oF ho h.ef fun _ _ ⟨e1, e2⟩ => by subst e1; subst e2; exact k
/-- a call that only hands back a datum -/
theorem oW {t : Option Tmp} {f : FuncId} {args : Array Operand} {ats : Array TypeId} {ty : TypeId} {ds0 ds : List D} {d : D} (ho : opE ops i N = some (t, .call { callee := .value (.func f), args := args, argTypes := ats }, ty)) (hargs : opsD K args.toList = some ds0) (ha : ArgCs [] ds0 ds)
    (hc : ∀ args w, (callFunc f args).run P w = .ok (.enter f args) w) (hcall : CD P f [] ds (isR d)) (k : OpsD P N C ops (i + 1) (upK K t d) H Kt) : OpsD P N C ops i K H Kt :=
  oE ho (zH [] _ [] rfl hargs ha zu hc hcall (.inl rfl)) (by rintro _ _ ⟨_, ⟨rfl, rfl⟩, rfl⟩; exact k)
theorem oV {t : Option Tmp} {f : FuncId} {args : Array Operand} {ats : Array TypeId} {ty : TypeId} {ds0 ds : List D} {d : D} (ho : opG ops i N K = some (t, .call { callee := .value (.func f), args := args, argTypes := ats }, ty)) (hargs : opsD K args.toList = some ds0) (ha : ArgCs [] ds0 ds)
    (hc : ∀ args w, (callFunc f args).run P w = .ok (.enter f args) w) (hcall : CD P f [] ds (isR d)) (k : OpsD P N C ops (i + 1) (upK K t d) H Kt) : OpsD P N C ops i K H Kt :=
  oF ho (zH [] _ [] rfl hargs ha zu hc hcall (.inl rfl)) (by rintro _ _ ⟨_, ⟨rfl, rfl⟩, rfl⟩; exact k)
theorem acs {L : List Hp} : ∀ {ds : List D}, ArgCs L ds ds
  | [] => .nil
  | _ :: _ => .cons ArgC.id acs
theorem on {H' : List Hp} (h : cpF H = some H') (k : OpsD P N C ops i K H' Kt) : OpsD P N C ops i K H Kt := zc2 h ▸ k
theorem ok (ts : List Nat) {K' : Kd} (h : kpF ts K = some K') (k : OpsD P N C ops i K' H Kt) : OpsD P N C ops i K H Kt := OpsD.sub K' (kpF_sub h) k
theorem os (t : Nat) {d d' : D} (h : z8 K t = some d) (e : d = d') (k : OpsD P N C ops i ((t, d') :: K) H Kt) : OpsD P N C ops i K H Kt := by
  subst e
  refine ⟨fun a w F ok hk g => k.out a w F ok (fun s u hu => ?_) g⟩
  simp only [z8] at hu
  by_cases e : s = t
  · subst e; rw [show Nat.beq s s = true from Nat.beq_refl s] at hu; simp only [cond_true, Option.some.injEq] at hu; subst hu; exact hk s _ h
  · rw [zaY e] at hu; exact hk s u hu
/-- behind the last operation: the code that follows -/
theorem oZ {b : Code} {Q : zas} (hn : Nat.ble ops.length i = true) (h : JD P N C b K H Q) : OpsD P N C ops i K H (fun ρ w F => qseq P N b Q .normal ρ w F) := zi (Q := qseq P N b Q) hn (zd h)
end
section
variable {P : Program} {N : Nat} {C : Ctx} {K : Kd} {H : List Hp} {Q : zas} {c : Code} {p pa pb : List Bool}
theorem jn {H' : List Hp} {b : Code} (h : cpF H = some H') (k : JD P N C b K H' Q) : JD P N C b K H Q := zc2 h ▸ k
theorem pn {H' : List Hp} {e : Exit} (h : cpF H = some H') (k : PD C Q e K H') : PD C Q e K H := zc2 h ▸ k
theorem jk (ts : List Nat) {K' : Kd} {b : Code} (h : kpF ts K = some K') (k : JD P N C b K' H Q) : JD P N C b K H Q := JD.sub K' (kpF_sub h) k
theorem pk (ts : List Nat) {K' : Kd} {e : Exit} (h : kpF ts K = some K') (k : PD C Q e K' H) : PD C Q e K H := PD.sub K' (kpF_sub h) k
theorem ja {K' : Kd} {b : Code} (h : cpF K = some K') (k : JD P N C b K' H Q) : JD P N C b K H Q := zc2 h ▸ k
theorem js (t : Nat) {d d' : D} {b : Code} (h : z8 K t = some d) (e : d = d') (k : JD P N C b ((t, d') :: K) H Q) : JD P N C b K H Q := by
  subst e
  refine ⟨fun a w F ok hk g => k.out a w F ok (fun s u hu => ?_) g⟩
  simp only [z8] at hu
  by_cases e : s = t
  · subst e; rw [show Nat.beq s s = true from Nat.beq_refl s] at hu; simp only [cond_true, Option.some.injEq] at hu; subst hu; exact hk s _ h
  · rw [zaY e] at hu; exact hk s u hu
def sqF (c : Code) (p : List Bool) : Option (List Bool × List Bool) := match isSeq (cd c p), snF p false, snF p true with
  | true, some a, some b => some (a, b)
  | _, _, _ => none
theorem sqF_ok (h : sqF c p = some (pa, pb)) : isSeq (cd c p) = true ∧ p ++ [false] = pa ∧ p ++ [true] = pb := by
  unfold sqF at h
  split at h
  · rename_i h1 h2 h3; injection h with h; injection h with e1 e2; subst e1; subst e2; exact ⟨h1, zcK h2, zcK h3⟩
  · cases h
theorem jS (h : sqF c p = some (pa, pb)) (k : JD P N C (cd c pa) K H (qseq P N (cd c pb) Q)) : JD P N C (cd c p) K H Q := jd_seq _ _ (sqF_ok h).1 (sqF_ok h).2.1 (sqF_ok h).2.2 k
def sgF (c : Code) (p : List Bool) : Option (List Bool × List Bool) := match sqF c p with
  | some (a, b) => match zcM (cd c a) with
    | some false => some (a, b)
    | _ => none
  | none => none
theorem jT (h : sgF c p = some (pa, pb)) (k : OpsD P N C (zbY (cd c pa)) 0 K H (fun ρ w F => qseq P N (cd c pb) Q .normal ρ w F)) : JD P N C (cd c p) K H Q := by
  unfold sgF at h
  split at h
  · rename_i a b h1
    split at h
    · rename_i h2; injection h with h; injection h with e1 e2; subst e1; subst e2; exact jS h1 (za h2 k)
    · cases h
  · cases h
def cnF (c : Code) (p : List Bool) (K : Kd) : Option (List Bool × List Bool × D) := match condOf (cd c p), snF p false, snF p true with
  | some x, some a, some b => match opD K x with
    | some d => some (a, b, d)
    | none => none
  | _, _, _ => none
theorem jC {t : Bool} (h : cnF c p K = some (pa, pb, .v (.bool t))) (ht : t = true → JD P N C (cd c pa) K H Q) (hf : t = false → JD P N C (cd c pb) K H Q) : JD P N C (cd c p) K H Q := by
  unfold cnF at h
  split at h
  · rename_i x a b h1 h2 h3
    split at h
    · rename_i d hd; injection h with h; injection h with e1 h; injection h with e2 e3
      subst e1; subst e2; subst e3
      exact jd_cond _ _ h1 (zcK h2) (zcK h3) hd ht hf
    · cases h
  · cases h
theorem jD {φ : Prop} {_ : Decidable φ} (h : cnF c p K = some (pa, pb, .v (.bool (decide φ)))) (ht : φ → JD P N C (cd c pa) K H Q) (hf : ¬φ → JD P N C (cd c pb) K H Q) : JD P N C (cd c p) K H Q :=
  jC h (fun e => ht (of_decide_eq_true e)) (fun e => hf (of_decide_eq_false e))
theorem jCt (h : cnF c p K = some (pa, pb, .v (.bool true))) (ht : JD P N C (cd c pa) K H Q) : JD P N C (cd c p) K H Q := jC h (fun _ => ht) (fun e => by cases e)
theorem jCf (h : cnF c p K = some (pa, pb, .v (.bool false))) (hf : JD P N C (cd c pb) K H Q) : JD P N C (cd c p) K H Q := jC h (fun e => by cases e) (fun _ => hf)
def blF (c : Code) (p : List Bool) : Option (List Bool × Nat) := match blockOf (cd c p), snF p false with
  | some n, some a => some (a, n)
  | _, _ => none
theorem jB {id : Nat} (h : blF c p = some (pa, id)) (k : JD P N C (cd c pa) K H (zcU id Q)) : JD P N C (cd c p) K H Q := by
  unfold blF at h
  split at h
  · rename_i h1 h2; injection h with h; injection h with e1 e2; subst e1; subst e2; exact jd_block _ h1 (zcK h2) k
  · cases h
def lpF (c : Code) (p : List Bool) : Option (List Bool) := match isLoop (cd c p), snF p false with
  | true, some a => some a
  | _, _ => none
theorem zcw (h : lpF c p = some pa) : isLoop (cd c p) = true ∧ p ++ [false] = pa := by
  unfold lpF at h
  split at h
  · rename_i h1 h2; injection h with h; subst h; exact ⟨h1, zcK h2⟩
  · cases h
abbrev ql1 {A0 : Type} (C : Ctx) (L : A0 → Kd) (HI : A0 → List Hp) (I : A0 → Prop) (μ : A0 → Nat) (a0 : A0) (Q : zas) : zas := zcY C (fun g : A0 => L g) (fun g : A0 => HI g) (fun g : A0 => I g) (fun g : A0 => μ g) a0 Q
theorem jl1 {A0 : Type} (L : A0 → Kd) (HI : A0 → List Hp) (I : A0 → Prop) (μ : A0 → Nat) (a0 : A0) (hk : lpF c p = some pa) (hs : SubK (L a0) K) (hH : HSub H (HI a0)) (hI : I a0) (h : ∀ b0, I b0 → JD P N C (cd c pa) (L b0) (HI b0) (ql1 C L HI I μ b0 Q)) : JD P N C (cd c p) K H Q :=
  jd_loop (fun g : A0 => L g) (fun g : A0 => HI g) (fun g : A0 => I g) (fun g : A0 => μ g) pa a0 (zcw hk).1 (zcw hk).2 hs hH hI (fun g hg => h g hg)
theorem pl1 {A0 : Type} {L : A0 → Kd} {HI : A0 → List Hp} {I : A0 → Prop} {μ : A0 → Nat} {a0 : A0} (b0 : A0) (hs : SubK (L b0) K) (hH : HSub H (HI b0)) (hI : I b0) (hμ : μ b0 < μ a0) : PD C (ql1 C L HI I μ a0 Q) .normal K H := pd_loop b0 hs hH hI hμ
abbrev ql2 {A0 A1 : Type} (C : Ctx) (L : A0 → A1 → Kd) (HI : A0 → A1 → List Hp) (I : A0 → A1 → Prop) (μ : A0 → A1 → Nat) (a0 : A0) (a1 : A1) (Q : zas) : zas := zcY C (fun g : A0 × A1 => L g.1 g.2) (fun g : A0 × A1 => HI g.1 g.2) (fun g : A0 × A1 => I g.1 g.2) (fun g : A0 × A1 => μ g.1 g.2) (a0, a1) Q
theorem jl2 {A0 A1 : Type} (L : A0 → A1 → Kd) (HI : A0 → A1 → List Hp) (I : A0 → A1 → Prop) (μ : A0 → A1 → Nat) (a0 : A0) (a1 : A1) (hk : lpF c p = some pa) (hs : SubK (L a0 a1) K) (hH : HSub H (HI a0 a1)) (hI : I a0 a1) (h : ∀ b0 b1, I b0 b1 → JD P N C (cd c pa) (L b0 b1) (HI b0 b1) (ql2 C L HI I μ b0 b1 Q)) : JD P N C (cd c p) K H Q :=
  jd_loop (fun g : A0 × A1 => L g.1 g.2) (fun g : A0 × A1 => HI g.1 g.2) (fun g : A0 × A1 => I g.1 g.2) (fun g : A0 × A1 => μ g.1 g.2) pa (a0, a1) (zcw hk).1 (zcw hk).2 hs hH hI (fun g hg => h g.1 g.2 hg)
theorem pl2 {A0 A1 : Type} {L : A0 → A1 → Kd} {HI : A0 → A1 → List Hp} {I : A0 → A1 → Prop} {μ : A0 → A1 → Nat} {a0 : A0} {a1 : A1} (b0 : A0) (b1 : A1) (hs : SubK (L b0 b1) K) (hH : HSub H (HI b0 b1)) (hI : I b0 b1) (hμ : μ b0 b1 < μ a0 a1) : PD C (ql2 C L HI I μ a0 a1 Q) .normal K H := pd_loop (b0, b1) hs hH hI hμ
abbrev ql3 {A0 A1 A2 : Type} (C : Ctx) (L : A0 → A1 → A2 → Kd) (HI : A0 → A1 → A2 → List Hp) (I : A0 → A1 → A2 → Prop) (μ : A0 → A1 → A2 → Nat) (a0 : A0) (a1 : A1) (a2 : A2) (Q : zas) : zas := zcY C (fun g : A0 × A1 × A2 => L g.1 g.2.1 g.2.2) (fun g : A0 × A1 × A2 => HI g.1 g.2.1 g.2.2) (fun g : A0 × A1 × A2 => I g.1 g.2.1 g.2.2) (fun g : A0 × A1 × A2 => μ g.1 g.2.1 g.2.2) (a0, a1, a2) Q
theorem jl3 {A0 A1 A2 : Type} (L : A0 → A1 → A2 → Kd) (HI : A0 → A1 → A2 → List Hp) (I : A0 → A1 → A2 → Prop) (μ : A0 → A1 → A2 → Nat) (a0 : A0) (a1 : A1) (a2 : A2) (hk : lpF c p = some pa) (hs : SubK (L a0 a1 a2) K) (hH : HSub H (HI a0 a1 a2)) (hI : I a0 a1 a2) (h : ∀ b0 b1 b2, I b0 b1 b2 → JD P N C (cd c pa) (L b0 b1 b2) (HI b0 b1 b2) (ql3 C L HI I μ b0 b1 b2 Q)) : JD P N C (cd c p) K H Q :=
  jd_loop (fun g : A0 × A1 × A2 => L g.1 g.2.1 g.2.2) (fun g : A0 × A1 × A2 => HI g.1 g.2.1 g.2.2) (fun g : A0 × A1 × A2 => I g.1 g.2.1 g.2.2) (fun g : A0 × A1 × A2 => μ g.1 g.2.1 g.2.2) pa (a0, a1, a2) (zcw hk).1 (zcw hk).2 hs hH hI (fun g hg => h g.1 g.2.1 g.2.2 hg)
theorem pl3 {A0 A1 A2 : Type} {L : A0 → A1 → A2 → Kd} {HI : A0 → A1 → A2 → List Hp} {I : A0 → A1 → A2 → Prop} {μ : A0 → A1 → A2 → Nat} {a0 : A0} {a1 : A1} {a2 : A2} (b0 : A0) (b1 : A1) (b2 : A2) (hs : SubK (L b0 b1 b2) K) (hH : HSub H (HI b0 b1 b2)) (hI : I b0 b1 b2) (hμ : μ b0 b1 b2 < μ a0 a1 a2) : PD C (ql3 C L HI I μ a0 a1 a2 Q) .normal K H := pd_loop (b0, b1, b2) hs hH hI hμ
abbrev ql4 {A0 A1 A2 A3 : Type} (C : Ctx) (L : A0 → A1 → A2 → A3 → Kd) (HI : A0 → A1 → A2 → A3 → List Hp) (I : A0 → A1 → A2 → A3 → Prop) (μ : A0 → A1 → A2 → A3 → Nat) (a0 : A0) (a1 : A1) (a2 : A2) (a3 : A3) (Q : zas) : zas := zcY C (fun g : A0 × A1 × A2 × A3 => L g.1 g.2.1 g.2.2.1 g.2.2.2) (fun g : A0 × A1 × A2 × A3 => HI g.1 g.2.1 g.2.2.1 g.2.2.2) (fun g : A0 × A1 × A2 × A3 => I g.1 g.2.1 g.2.2.1 g.2.2.2) (fun g : A0 × A1 × A2 × A3 => μ g.1 g.2.1 g.2.2.1 g.2.2.2) (a0, a1, a2, a3) Q
theorem jl4 {A0 A1 A2 A3 : Type} (L : A0 → A1 → A2 → A3 → Kd) (HI : A0 → A1 → A2 → A3 → List Hp) (I : A0 → A1 → A2 → A3 → Prop) (μ : A0 → A1 → A2 → A3 → Nat) (a0 : A0) (a1 : A1) (a2 : A2) (a3 : A3) (hk : lpF c p = some pa) (hs : SubK (L a0 a1 a2 a3) K) (hH : HSub H (HI a0 a1 a2 a3)) (hI : I a0 a1 a2 a3) (h : ∀ b0 b1 b2 b3, I b0 b1 b2 b3 → JD P N C (cd c pa) (L b0 b1 b2 b3) (HI b0 b1 b2 b3) (ql4 C L HI I μ b0 b1 b2 b3 Q)) : JD P N C (cd c p) K H Q :=
  jd_loop (fun g : A0 × A1 × A2 × A3 => L g.1 g.2.1 g.2.2.1 g.2.2.2) (fun g : A0 × A1 × A2 × A3 => HI g.1 g.2.1 g.2.2.1 g.2.2.2) (fun g : A0 × A1 × A2 × A3 => I g.1 g.2.1 g.2.2.1 g.2.2.2) (fun g : A0 × A1 × A2 × A3 => μ g.1 g.2.1 g.2.2.1 g.2.2.2) pa (a0, a1, a2, a3) (zcw hk).1 (zcw hk).2 hs hH hI (fun g hg => h g.1 g.2.1 g.2.2.1 g.2.2.2 hg)
theorem pl4 {A0 A1 A2 A3 : Type} {L : A0 → A1 → A2 → A3 → Kd} {HI : A0 → A1 → A2 → A3 → List Hp} {I : A0 → A1 → A2 → A3 → Prop} {μ : A0 → A1 → A2 → A3 → Nat} {a0 : A0} {a1 : A1} {a2 : A2} {a3 : A3} (b0 : A0) (b1 : A1) (b2 : A2) (b3 : A3) (hs : SubK (L b0 b1 b2 b3) K) (hH : HSub H (HI b0 b1 b2 b3)) (hI : I b0 b1 b2 b3) (hμ : μ b0 b1 b2 b3 < μ a0 a1 a2 a3) : PD C (ql4 C L HI I μ a0 a1 a2 a3 Q) .normal K H := pd_loop (b0, b1, b2, b3) hs hH hI hμ
end
theorem bA (a b : Bool) : ((a && b) = true) = (a = true ∧ b = true) := Bool.and_eq_true a b
theorem bB (a b : Bool) : ((a || b) = true) = (a = true ∨ b = true) := Bool.or_eq_true a b
theorem bC (b : Bool) : ((!b) = true) = (b = false) := Bool.not_eq_true' b
theorem bD (b : Bool) : ((!b) = false) = (b = true) := Bool.not_eq_false' b
theorem bE (a b : Bool) : ((a && b) = false) = (a = false ∨ b = false) := by cases a <;> cases b <;> simp
theorem bF (a b : Bool) : ((a || b) = false) = (a = false ∧ b = false) := by cases a <;> cases b <;> simp
theorem bG (p : Prop) [Decidable p] : (decide p = true) = p := decide_eq_true_eq
theorem bH (p : Prop) [Decidable p] : (decide p = false) = ¬p := by simp
theorem bI (p : Prop) [Decidable p] : (¬¬p) = p := by simp
theorem bJ {α : Sort _} (a b : α) : (a ≠ b) = ¬a = b := rfl
theorem la {α : Type} {a b : List α} : (a ++ b).length = a.length + b.length := List.length_append
theorem lc {α : Type} {a : α} {b : List α} : (a :: b).length = b.length + 1 := List.length_cons
theorem ln {α : Type} : ([] : List α).length = 0 := List.length_nil
theorem lm {α β : Type} {a : List α} {f : α → β} : (a.map f).length = a.length := List.length_map f
theorem lt' {α : Type} {n : Nat} {a : List α} : (a.take n).length = min n a.length := List.length_take
theorem ld {α : Type} {n : Nat} {a : List α} : (a.drop n).length = a.length - n := List.length_drop
theorem ls {α : Type} {n : Nat} {a : List α} {x : α} : (a.set n x).length = a.length := List.length_set
theorem lr {α : Type} {n : Nat} {x : α} : (List.replicate n x).length = n := List.length_replicate
end Lp
/- Walks, printed by a program of mine. -/
set_option linter.unusedSimpArgs false
set_option linter.unusedVariables false
set_option maxHeartbeats 4000000
set_option maxRecDepth 100000
namespace Lp
open Go Go.RowKit Go.Proofs

namespace HdYtfjinapgehafiaaGreatV1
theorem zac (b o : Nat) : ∀ w, (Instr.fieldAt 62 (.pointer (some ⟨b, o, none⟩)) 0).run Tryz.prog w = .ok (.pointer (some ⟨b, o + 0, none⟩)) w := fun _ => by kernel_rfl
theorem zaC (b o : Nat) : ∀ w, (Instr.fieldAt 62 (.pointer (some ⟨b, o, none⟩)) 1).run Tryz.prog w = .ok (.pointer (some ⟨b, o + 1, none⟩)) w := fun _ => by kernel_rfl
end HdYtfjinapgehafiaaGreatV1
open HdYtfjinapgehafiaaGreatV1

theorem ext_cmpstring (a b : ByteArray) (w : World) : (callFunc 221 #[.string a, .string b]).run Tryz.prog w = .ok (.value (.int .i64 (cmpS a b))) w := by
  rw [run_callFunc_extern Tryz.func221 (by kernel_rfl) (by kernel_rfl) (by kernel_rfl) (e := Extern.BytealgCompare.compare) (by kernel_rfl), Lib.run_compareString]
  rfl

theorem p_cmpstring {ty : TypeId} {K : Kd} {H : List Hp} {x y : Operand} {ats : Array TypeId} {a b : ByteArray} (hx : opS K x = some a) (hy : opS K y = some b) : Pu Tryz.prog (.call { callee := .value (.func 221), args := #[x, y], argTypes := ats }) ty K H (dI (cmpS a b)) :=
  ⟨fun ρ w F hk _ _ => e_ext (vs := [.string a, .string b]) (zB ρ [x, y]) (by rw [show (#[x, y] : Array Operand).toList = [x, y] from rfl, zb8 ρ [x, y] [x, y] (fun _ h => h)]; simp [hk.opS hx, hk.opS hy]) (ext_cmpstring a b) ⟨rfl, rfl⟩⟩

theorem CompareString_c (a : ByteArray) (b : ByteArray)  :
    CD Tryz.prog 203 [] [.s a, .s b] (isR (dI (cmpS a b))) := by
  refine zq Tryz.func203 rfl (N := 8) rfl rfl (fun C => ?_)
  refine jk [0, 1] rfl ?_
  refine JD.bd 0 rfl (fun bd0 => ?_)
  have sz0 : a.size ≤ 9223372036854775807 := bd0
  refine JD.bd 1 rfl (fun bd1 => ?_)
  have sz1 : b.size ≤ 9223372036854775807 := bd1
  refine jT rfl (oR 1 rfl (oZ rfl (jT rfl (oR 2 rfl (oP rfl (p_cmpstring rfl rfl) (oR 1 rfl (oZ rfl (zm rfl ?_))))))))
  exact zj Tryz.results203 (.cons (zr (zg rfl) (Cv.eq (congrArg (fun n => D.v (.int .i64 n)) (by rfl)))) .nil) rfl HSub.none ⟨rfl, rfl⟩

theorem Compare_c (a : ByteArray) (b : ByteArray)  :
    CD Tryz.prog 188 [] [.s a, .s b] (isR (dI (cmpS a b))) := by
  refine zq Tryz.func188 rfl (N := 8) rfl rfl (fun C => ?_)
  refine jk [0, 1] rfl ?_
  refine JD.bd 0 rfl (fun bd0 => ?_)
  have sz0 : a.size ≤ 9223372036854775807 := bd0
  refine JD.bd 1 rfl (fun bd1 => ?_)
  have sz1 : b.size ≤ 9223372036854775807 := bd1
  refine jT rfl (oR 1 rfl (oZ rfl (jT rfl (oR 2 rfl (oW rfl rfl acs Tryz.call203 (CompareString_c a b) (oR 1 rfl (oZ rfl (zm rfl ?_))))))))
  exact zj Tryz.results188 (.cons (zg rfl) .nil) rfl HSub.none ⟨rfl, rfl⟩

theorem isNaN_c (x : Int)  :
    CD Tryz.prog 183 [] [dI x] (isR (dB false)) := by
  refine zq Tryz.func183 rfl (N := 6) rfl rfl (fun C => ?_)
  refine jk [0] rfl (jT rfl (oR 1 rfl (oZ rfl (jT rfl (oR 2 rfl (oP rfl (zbs rfl rfl (decide_eq_false (fun h => h rfl))) (oR 1 rfl (oZ rfl (zm rfl ?_)))))))))
  exact zj Tryz.results183 (.cons (zg rfl) .nil) rfl HSub.none ⟨rfl, rfl⟩

theorem cmpI_c (x : Int) (y : Int)  :
    CD Tryz.prog 147 [] [dI x, dI y] (isR (dI (cmpI x y))) := by
  refine zq Tryz.func147 rfl (N := 20) rfl rfl (fun C => ?_)
  refine jk [0, 1] rfl (jT rfl (oR 1 rfl (oZ rfl (jT rfl (oR 1 rfl (oW rfl rfl acs Tryz.call183 (isNaN_c x) (oR 1 rfl (oZ rfl (jT rfl (oR 1 rfl (oW rfl rfl acs Tryz.call183 (isNaN_c y) (oR 1 rfl (oZ rfl (jS rfl (jT rfl (oR 1 rfl (oZ rfl (jCf rfl (zk rfl (zd (jS rfl (jT rfl (oR 1 rfl (oZ rfl (jCf rfl (zk rfl (zd (jS rfl (jT rfl (oR 2 rfl (oP rfl (zP rfl rfl rfl) (oZ rfl (jk [0, 1, 4, 16] rfl ?_)))))))))))))))))))))))))))))))))
  refine jD rfl (fun hc1 => ?_) (fun hc1 => ?_)
  · skip
    refine jT rfl (oR 1 rfl (oZ rfl (zm rfl (zc ?_))))
    exact zj Tryz.results147 (.cons (zr (zg rfl) (Cv.eq (congrArg (fun n => D.v (.int .i64 n)) (by unfold cmpI; simp [*])))) .nil) rfl HSub.none ⟨rfl, rfl⟩
  · skip
    refine zk rfl (zd (jS rfl (jT rfl (oR 2 rfl (oP rfl (zat rfl rfl rfl) (oZ rfl ?_))))))
    refine jD rfl (fun hc2 => ?_) (fun hc2 => ?_)
    · skip
      refine jT rfl (oR 1 rfl (oZ rfl (zm rfl (zc ?_))))
      exact zj Tryz.results147 (.cons (zr (zg rfl) (Cv.eq (congrArg (fun n => D.v (.int .i64 n)) (by unfold cmpI; simp [*])))) .nil) rfl HSub.none ⟨rfl, rfl⟩
    · skip
      refine zk rfl (zd (jT rfl (oR 1 rfl (oZ rfl (zm rfl ?_)))))
      exact zj Tryz.results147 (.cons (zr (zg rfl) (Cv.eq (congrArg (fun n => D.v (.int .i64 n)) (by unfold cmpI; simp [*])))) .nil) rfl HSub.none ⟨rfl, rfl⟩

theorem Or_c (ns : List Int)  :
    CD Tryz.prog 146 [] [.sh 1 (ns.map dI)] (isR (dI (zaI ns))) := by
  refine zq Tryz.func146 rfl (N := 18) rfl rfl (fun C => ?_)
  refine jk [0] rfl ?_
  refine JD.bd 0 rfl (fun bd0 => ?_)
  have nl0 := zO bd0
  refine jT rfl (oR 1 rfl (oZ rfl (jT rfl (oR 1 rfl (oZ rfl (jS rfl (jT rfl (oR 1 rfl (oP rfl (z1 (n := ns.length) rfl Tryz.runUnderlying122 (by simp only [lm, lc, ln])) (oR 1 rfl (oZ rfl (jB rfl (jl1 (fun (a_ : Nat) => [(3, dI 0), (6, .sh 1 (ns.map dI)), (7, dN ns.length), (8, dN a_)]) (fun a_ => []) (fun a_ => (a_ ≤ ns.length) ∧ (zaI ns = zaI (ns.drop a_))) (fun a_ => ns.length - a_) 0 rfl (sa rfl) HSub.rfl' ⟨Nat.zero_le _, by simp⟩ ?_)))))))))))))
  rintro k ⟨hk, hf⟩
  refine ja rfl (jn rfl (jT rfl (oP rfl (zP rfl rfl rfl) (oZ rfl (jS rfl ?_)))))
  refine jD rfl (fun hc1 => ?_) (fun hc1 => ?_)
  · skip
    refine zk rfl (zd (jS rfl (jB rfl (jT rfl ?_))))
    obtain ⟨x1, hx1⟩ := zy ns k (by omega)
    refine oP rfl (zo (k := k) rfl rfl Tryz.runUnderlying122 Tryz.sizeOf3 (by first | rfl | omega) (zf hx1)) (oP rfl (zz rfl Tryz.isAgg3 rfl) (oR 1 rfl (oZ rfl (jT rfl (oR 2 rfl (oP rfl (zbs rfl rfl rfl) (oZ rfl ?_)))))))
    refine jD rfl (fun hc2 => ?_) (fun hc2 => ?_)
    · skip
      refine jT rfl (oR 2 rfl (oZ rfl (zm rfl (ze (zc (zJ (ze (zc ?_))))))))
      exact zj Tryz.results146 (.cons (zr (zg rfl) (Cv.eq (congrArg (fun n => D.v (.int .i64 n)) (by exact (firstNZ_at hx1 hf (by assumption)).symm)))) .nil) rfl HSub.none ⟨rfl, rfl⟩
    · skip
      refine zk rfl (zw (zd (za rfl (oP rfl (zQ (c := ((k + 1 : Nat) : Int)) rfl rfl (zD (by omega) (by omega))) (oR 1 rfl (zi rfl ?_))))))
      exact pl1 (k + 1) (sa rfl) HSub.rfl' ⟨by omega, firstNZ_next hx1 hf (by omega)⟩ (by omega)
  · skip
    refine zK rfl (zp (zn (zl (zd (jT rfl (oR 2 rfl (oZ rfl (zm rfl ?_))))))))
    exact zj Tryz.results146 (.cons (zr (zg rfl) (Cv.eq (congrArg (fun n => D.v (.int .i64 n)) (by rw [hf, List.drop_eq_nil_of_le (by omega)]; rfl)))) .nil) rfl HSub.none ⟨rfl, rfl⟩

theorem order_c (a : Lbl) (b : Lbl)  :
    CD Tryz.prog 154 [] [Lbl.d a, Lbl.d b] (isR (dI (zC a b))) := by
  refine zq Tryz.func154 rfl (N := 17) rfl rfl (fun C => ?_)
  refine jk [0, 1] rfl ?_
  refine JD.bd 0 rfl (fun bd0 => ?_)
  refine JD.bd 1 rfl (fun bd1 => ?_)
  refine jT rfl (oE rfl (zbI rfl (CellD.agg)) ?_)
  rintro _ _ ⟨g1, rfl, rfl⟩
  refine oE rfl (zbI rfl (CellD.agg)) ?_
  rintro _ _ ⟨g2, rfl, rfl⟩
  refine oR 1 rfl (oZ rfl (jS rfl (jk [0, 1, 2, 3, 4] rfl (jn rfl (zT 9 [(5, dP g1 0, none), (6, .s a.n, none), (7, dP g2 0, none), (8, .s b.n, none), (9, dI (cmpS a.n b.n), none), (10, dP g1 1, none), (11, .s a.v, none), (12, dP g2 1, none), (13, .s b.v, none)] [.bx g2 62 (Lbl.d b), .bx g1 62 (Lbl.d a)] (Hn := [.bx g2 62 (Lbl.d b), .bx g1 62 (Lbl.d a)]) z7 rfl rfl rfl rfl HSub.rfl' rfl ⟨sa_p rfl rfl rfl (zs rfl zac rfl), sa_p rfl rfl rfl (zI rfl (i := 1) rfl Tryz.isAgg9 rfl), sa_p rfl rfl rfl (zs rfl zac rfl), sa_p rfl rfl rfl (zI rfl (i := 0) rfl Tryz.isAgg9 rfl), sa_q rfl rfl rfl (zaO rfl (.cons Cv.rfl' (.cons Cv.rfl' .nil)) Tryz.call188 (Compare_c a.n b.n) za2), sa_p rfl rfl rfl (zs rfl zaC rfl), sa_p rfl rfl rfl (zI rfl (i := 1) rfl Tryz.isAgg9 rfl), sa_p rfl rfl rfl (zs rfl zaC rfl), sa_p rfl rfl rfl (zI rfl (i := 0) rfl Tryz.isAgg9 rfl), trivial⟩ (ok [0, 1, 2, 3, 4, 5, 6, 7, 8, 9, 10, 11, 12, 13] rfl (oW rfl rfl acs Tryz.call188 (Compare_c a.v b.v) (oE rfl (zab [.tmp 9, .tmp 14] rfl rfl (.cons (CellD.v rfl) (.cons (CellD.v rfl) .nil)) rfl Tryz.runUnderlying122 Tryz.sizeOf3 Tryz.zeroValue3 rfl rfl rfl rfl) ?_))))))))
  rintro _ _ ⟨g3, rfl, rfl⟩
  refine oE rfl (zH [] _ [.sl (vS g3 2 2) 1 3 ([dI (cmpS a.n b.n), dI (cmpS a.v b.v)])] rfl rfl (.cons (ArgC.own (j := 0) rfl rfl) .nil) (zav (j := 0) rfl zu) Tryz.call146 (Or_c [cmpS a.n b.n, cmpS a.v b.v]) (.inr (za7 rfl))) ?_
  rintro _ _ ⟨_, ⟨rfl, rfl⟩, rfl⟩
  refine on rfl (oR 1 rfl (oZ rfl (jk [4] rfl (zm rfl ?_))))
  exact zj Tryz.results154 (.cons (zr (zg rfl) (Cv.eq (congrArg (fun n => D.v (.int .i64 n)) (by rw [firstNZ_two]; rfl)))) .nil) rfl HSub.none ⟨rfl, rfl⟩

theorem CompareFunc_c (a b : List Lbl)  :
    CD Tryz.prog 153 [] [.sh 2 (a.map Lbl.d), .sh 2 (b.map Lbl.d), .fn 154 [] []] (isR (dI (zG a b))) := by
  refine zq Tryz.func153 rfl (N := 39) rfl rfl (fun C => ?_)
  refine jk [0, 1, 2] rfl ?_
  refine JD.bd 0 rfl (fun bd0 => ?_)
  have nl0 := zO bd0
  refine JD.bd 1 rfl (fun bd1 => ?_)
  have nl1 := zO bd1
  refine jT rfl (oR 1 rfl (oZ rfl (jS rfl (jT rfl (oR 1 rfl (oP rfl (z1 (n := a.length) rfl Tryz.runUnderlying50 (by simp only [lm, lc, ln])) (oR 1 rfl (oZ rfl (jB rfl (jl1 (fun (a_ : Nat) => [(0, .sh 2 (a.map Lbl.d)), (1, .sh 2 (b.map Lbl.d)), (2, .fn 154 [] []), (11, .sh 2 (a.map Lbl.d)), (12, dN a.length), (13, dN a_)]) (fun a_ => []) (fun a_ => (a_ ≤ a.length) ∧ (zG a b = zG (a.drop a_) (b.drop a_))) (fun a_ => a.length - a_) 0 rfl (sa rfl) HSub.rfl' ⟨Nat.zero_le _, by simp⟩ ?_))))))))))
  rintro k ⟨hk, hf⟩
  refine ja rfl (jn rfl (jT rfl (oP rfl (zP rfl rfl rfl) (oZ rfl (jS rfl ?_)))))
  refine jD rfl (fun hc1 => ?_) (fun hc1 => ?_)
  · skip
    refine zk rfl (zd (jS rfl (jB rfl (jT rfl (oR 1 rfl ?_)))))
    obtain ⟨x1, hx1⟩ := zy a k (by omega)
    refine oP rfl (zo (k := k) rfl rfl Tryz.runUnderlying50 Tryz.sizeOf62 (by first | rfl | omega) (zf hx1)) (oP rfl (zau (d := Lbl.d x1) rfl Tryz.isAgg62 Tryz.sizeOf62 rfl rfl) (oE rfl (zap (zv := (.agg #[(.string ByteArray.empty), (.string ByteArray.empty)])) Tryz.zeroValue62 ⟨rfl, rfl, trivial⟩ (Cv.vagg (by decide))) ?_))
    rintro _ _ ⟨g2, rfl, rfl⟩
    refine oR 1 rfl (oE rfl (z2 (i := 0) (X' := Lbl.d x1) rfl rfl rfl (CellD.agg) Tryz.sizeOf62 rfl rfl rfl) ?_)
    rintro _ _ ⟨rfl, rfl⟩
    refine on rfl (oZ rfl (jS rfl (jT rfl (oR 2 rfl (oP rfl (z1 (n := b.length) rfl Tryz.runUnderlying50 (by simp only [lm, lc, ln])) (oP rfl (zS rfl rfl rfl) (oZ rfl ?_)))))))
    refine jD rfl (fun hc3 => ?_) (fun hc3 => ?_)
    · skip
      refine jT rfl (oR 1 rfl (oZ rfl (zm rfl (zc (ze (zc (zJ (ze (zc ?_)))))))))
      exact zj Tryz.results153 (.cons (zr (zg rfl) (Cv.eq (congrArg (fun n => D.v (.int .i64 n)) (by exact (cmpLs_right hx1 (by omega) hf).symm)))) .nil) rfl HSub.none ⟨rfl, rfl⟩
    · skip
      refine zk rfl (zd (jT rfl (oR 2 rfl ?_)))
      obtain ⟨x2, hx2⟩ := zy b k (by omega)
      refine oP rfl (zo (k := k) rfl rfl Tryz.runUnderlying50 Tryz.sizeOf62 (by first | rfl | omega) (zf hx2)) (oP rfl (zau (d := Lbl.d x2) rfl Tryz.isAgg62 Tryz.sizeOf62 rfl rfl) (oE rfl (zap (zv := (.agg #[(.string ByteArray.empty), (.string ByteArray.empty)])) Tryz.zeroValue62 ⟨rfl, rfl, trivial⟩ (Cv.vagg (by decide))) ?_))
      rintro _ _ ⟨g4, rfl, rfl⟩
      refine oE rfl (z2 (i := 0) (X' := Lbl.d x2) rfl rfl rfl (CellD.agg) Tryz.sizeOf62 rfl rfl rfl) ?_
      rintro _ _ ⟨rfl, rfl⟩
      refine on rfl (oZ rfl (jT rfl (oR 1 rfl (oP rfl (za8 (d := Lbl.d x1) rfl (i := 1) rfl Tryz.isAgg62 Tryz.sizeOf62 rfl rfl) (oP rfl (za8 (d := Lbl.d x2) rfl (i := 0) rfl Tryz.isAgg62 Tryz.sizeOf62 rfl rfl) (oE rfl (za1 [] _ [] rfl rfl rfl (.cons ArgC.id (.cons ArgC.id .nil)) zu Tryz.call154 (order_c x1 x2) (.inl rfl)) ?_))))))
      rintro _ _ ⟨_, ⟨rfl, rfl⟩, rfl⟩
      refine on rfl (oR 1 rfl (oZ rfl (jT rfl (oR 1 rfl (oP rfl (zbs rfl rfl rfl) (oZ rfl ?_))))))
      refine jD rfl (fun hc5 => ?_) (fun hc5 => ?_)
      · skip
        refine jT rfl (oR 2 rfl (oZ rfl (zm rfl (ze (zc (zJ (ze (zc ?_))))))))
        exact zj Tryz.results153 (.cons (zr (zg rfl) (Cv.eq (congrArg (fun n => D.v (.int .i64 n)) (by exact (cmpLs_at hx1 hx2 hf (by assumption)).symm)))) .nil) rfl HSub.none ⟨rfl, rfl⟩
      · skip
        refine zk rfl (zw (zd (za rfl (oP rfl (zQ (c := ((k + 1 : Nat) : Int)) rfl rfl (zD (by omega) (by omega))) (oR 1 rfl (zi rfl ?_))))))
        exact pl1 (k + 1) (sa rfl) HSub.none ⟨by omega, cmpLs_next hx1 hx2 hf (by omega)⟩ (by omega)
  · skip
    refine zK rfl (zp (zn (zl (zd (jS rfl (jT rfl (oR 1 rfl (oP rfl (z1 (n := a.length) rfl Tryz.runUnderlying50 (by simp only [lm, lc, ln])) (oR 1 rfl (oP rfl (z1 (n := b.length) rfl Tryz.runUnderlying50 (by simp only [lm, lc, ln])) (oP rfl (zP rfl rfl rfl) (oZ rfl (jk [38] rfl ?_)))))))))))))
    refine jD rfl (fun hc6 => ?_) (fun hc6 => ?_)
    · skip
      refine jT rfl (oR 1 rfl (oZ rfl (zm rfl (zc ?_))))
      exact zj Tryz.results153 (.cons (zr (zg rfl) (Cv.eq (congrArg (fun n => D.v (.int .i64 n)) (by rw [cmpLs_end (by omega) hf (by omega)]; first | rw [if_pos (by omega)] | rw [if_neg (by omega)])))) .nil) rfl HSub.none ⟨rfl, rfl⟩
    · skip
      refine zk rfl (zd (jT rfl (oR 1 rfl (oZ rfl (zm rfl ?_)))))
      exact zj Tryz.results153 (.cons (zr (zg rfl) (Cv.eq (congrArg (fun n => D.v (.int .i64 n)) (by rw [cmpLs_end (by omega) hf (by omega)]; first | rw [if_pos (by omega)] | rw [if_neg (by omega)])))) .nil) rfl HSub.none ⟨rfl, rfl⟩

theorem zbV (a : List Lbl) (b : List Lbl)  :
    CD Tryz.prog 106 [] [.sh 2 (a.map Lbl.d), .sh 2 (b.map Lbl.d)] (isR (dI (zG a b))) := by
  refine zq Tryz.func106 rfl (N := 8) rfl rfl (fun C => ?_)
  refine jk [0, 1] rfl ?_
  refine JD.bd 0 rfl (fun bd0 => ?_)
  have nl0 := zO bd0
  refine JD.bd 1 rfl (fun bd1 => ?_)
  have nl1 := zO bd1
  refine jT rfl (oR 1 rfl (oZ rfl (jT rfl (oR 2 rfl (oW rfl rfl acs Tryz.call153 (CompareFunc_c a b) (oR 1 rfl (oZ rfl (zm rfl ?_))))))))
  exact zj Tryz.results106 (.cons (zg rfl) .nil) rfl HSub.none ⟨rfl, rfl⟩

theorem texts_c (a : ByteArray) (b : ByteArray)  :
    CD Tryz.prog 120 [] [.s a, .s b] (isR (dI (cmpS a b))) := by
  refine zq Tryz.func120 rfl (N := 13) rfl rfl (fun C => ?_)
  refine jk [0, 1] rfl ?_
  refine JD.bd 0 rfl (fun bd0 => ?_)
  have sz0 : a.size ≤ 9223372036854775807 := bd0
  refine JD.bd 1 rfl (fun bd1 => ?_)
  have sz1 : b.size ≤ 9223372036854775807 := bd1
  refine jT rfl (oR 1 rfl (oZ rfl (jS rfl (jB rfl (jT rfl (oR 2 rfl (oP rfl (p_lts rfl rfl rfl) (oR 1 rfl (oZ rfl ?_)))))))))
  refine jD rfl (fun hc1 => ?_) (fun hc1 => ?_)
  · skip
    refine jT rfl (oR 1 rfl (oZ rfl (zm rfl (ze (zc ?_)))))
    exact zj Tryz.results120 (.cons (zr (zg rfl) (Cv.eq (congrArg (fun n => D.v (.int .i64 n)) (by rcases cmpS_cases a b with h | h | h <;> rw [h] <;> omega)))) .nil) rfl HSub.none ⟨rfl, rfl⟩
  · skip
    refine jT rfl (oR 2 rfl (oP rfl (p_gts rfl rfl rfl) (oR 1 rfl (oZ rfl (jk [4, 9] rfl ?_)))))
    refine jD rfl (fun hc2 => ?_) (fun hc2 => ?_)
    · skip
      refine jT rfl (oR 1 rfl (oZ rfl (zm rfl (ze (zc ?_)))))
      exact zj Tryz.results120 (.cons (zr (zg rfl) (Cv.eq (congrArg (fun n => D.v (.int .i64 n)) (by rcases cmpS_cases a b with h | h | h <;> rw [h] <;> omega)))) .nil) rfl HSub.none ⟨rfl, rfl⟩
    · skip
      refine zk rfl (zw (zd (jT rfl (oR 1 rfl (oZ rfl (zm rfl ?_))))))
      exact zj Tryz.results120 (.cons (zr (zg rfl) (Cv.eq (congrArg (fun n => D.v (.int .i64 n)) (by rcases cmpS_cases a b with h | h | h <;> rw [h] <;> omega)))) .nil) rfl HSub.none ⟨rfl, rfl⟩

theorem refCompare_c (a : List Lbl) (b : List Lbl)  :
    CD Tryz.prog 54 [] [.sh 2 (a.map Lbl.d), .sh 2 (b.map Lbl.d)] (isR (dI (zG a b))) := by
  refine zq Tryz.func54 rfl (N := 58) rfl rfl (fun C => ?_)
  refine jk [0, 1] rfl ?_
  refine JD.bd 0 rfl (fun bd0 => ?_)
  have nl0 := zO bd0
  refine JD.bd 1 rfl (fun bd1 => ?_)
  have nl1 := zO bd1
  refine jT rfl (oR 1 rfl (oZ rfl (jS rfl (jT rfl (oR 1 rfl (oZ rfl (jB rfl (jl1 (fun (a_ : Nat) => [(0, .sh 2 (a.map Lbl.d)), (1, .sh 2 (b.map Lbl.d)), (5, dN a_)]) (fun a_ => []) (fun a_ => (a_ ≤ a.length) ∧ (a_ ≤ b.length) ∧ (zG a b = zG (a.drop a_) (b.drop a_))) (fun a_ => a.length - a_) 0 rfl (sa rfl) HSub.rfl' ⟨Nat.zero_le _, Nat.zero_le _, by simp⟩ ?_))))))))
  rintro k ⟨hk, hk2, hf⟩
  refine ja rfl (jn rfl (jS rfl (jS rfl (jk [0, 1, 5] rfl ?_))))
  refine zai 16 ((decide (((k : Nat) : Int) < ((a.length : Nat) : Int)) && decide (((k : Nat) : Int) < ((b.length : Nat) : Int)))) [] (fun _ hQ1 => ?_) ?_
  · skip
    by_cases hg2 : ((k : Nat) : Int) < ((a.length : Nat) : Int)
    · skip
      refine za rfl (oR 2 rfl (oP rfl (z1 (n := a.length) rfl Tryz.runUnderlying50 (by simp only [lm, lc, ln])) (oP rfl (zP rfl rfl (decide_eq_true hg2)) (oR 3 rfl (oG rfl (z1 (n := b.length) rfl Tryz.runUnderlying50 (by simp only [lm, lc, ln])) (oG rfl (zP rfl rfl rfl) (oR 1 rfl (zi rfl ?_))))))))
      exact PD.sub ((16, dB (decide (((k : Nat) : Int) < ((a.length : Nat) : Int)) && decide (((k : Nat) : Int) < ((b.length : Nat) : Int)))) :: [(0, .sh 2 (a.map Lbl.d)), (1, .sh 2 (b.map Lbl.d)), (5, dN k)]) ⟨sc rfl (Cv.eq (congrArg (fun b => D.v (.bool b)) (by first | (simp [hg2]; done) | (simp_all; done)))), sk rfl, sk rfl, sk rfl, trivial⟩ hQ1
    · skip
      refine za rfl (oR 2 rfl (oP rfl (z1 (n := a.length) rfl Tryz.runUnderlying50 (by simp only [lm, lc, ln])) (oP rfl (zP rfl rfl (decide_eq_false hg2)) (oR 6 rfl (zi rfl ?_)))))
      exact PD.sub ((16, dB (decide (((k : Nat) : Int) < ((a.length : Nat) : Int)) && decide (((k : Nat) : Int) < ((b.length : Nat) : Int)))) :: [(0, .sh 2 (a.map Lbl.d)), (1, .sh 2 (b.map Lbl.d)), (5, dN k)]) ⟨sc rfl (Cv.eq (congrArg (fun b => D.v (.bool b)) (by first | (simp [hg2]; done) | (simp_all; done)))), sk rfl, sk rfl, sk rfl, trivial⟩ hQ1
  · skip
    refine zd ?_
    refine jC rfl (fun hc3 => ?_) (fun hc3 => ?_)
    · simp only [bA, bB, bC, bD, bE, bF, bG, bH, bI, bJ] at hc3
      refine zk rfl (zd (jS rfl (jB rfl (jS rfl (jk [0, 1, 5, 16] rfl (jn rfl ?_))))))
      obtain ⟨x1, hx1⟩ := zy a k (by omega)
      obtain ⟨x2, hx2⟩ := zy b k (by omega)
      refine zT 10 [(19, .sh 2 (a.map Lbl.d), none), (20, dN k, none), (21, .el (Lbl.d x1) 0, none), (22, .el (Lbl.d x1) 0, none), (23, .s x1.n, none), (24, .sh 2 (b.map Lbl.d), none), (25, dN k, none), (26, .el (Lbl.d x2) 0, none), (27, .el (Lbl.d x2) 0, none), (28, .s x2.n, none)] [] (Hn := []) z7 rfl rfl rfl rfl HSub.rfl' rfl ⟨sa_p rfl rfl rfl (zb rfl), sa_p rfl rfl rfl (zb rfl), sa_p rfl rfl rfl (zo (k := k) rfl rfl Tryz.runUnderlying50 Tryz.sizeOf62 (by first | rfl | omega) (zf hx1)), sa_p rfl rfl rfl (zx rfl zac rfl), sa_p rfl rfl rfl (zz rfl Tryz.isAgg9 rfl), sa_p rfl rfl rfl (zb rfl), sa_p rfl rfl rfl (zb rfl), sa_p rfl rfl rfl (zo (k := k) rfl rfl Tryz.runUnderlying50 Tryz.sizeOf62 (by first | rfl | omega) (zf hx2)), sa_p rfl rfl rfl (zx rfl zac rfl), sa_p rfl rfl rfl (zz rfl Tryz.isAgg9 rfl), trivial⟩ (ok [0, 1, 5, 16, 19, 20, 21, 22, 23, 24, 25, 26, 27, 28] rfl (oW rfl rfl acs Tryz.call120 (texts_c x1.n x2.n) (oR 1 rfl (oZ rfl (jS rfl (jT rfl (oR 1 rfl (oP rfl (zL rfl rfl rfl) (oZ rfl ?_)))))))))
      refine jD rfl (fun hc4 => ?_) (fun hc4 => ?_)
      · skip
        refine jk [0, 1, 5, 6, 16, 19, 20, 21, 22, 23, 24, 25, 26, 27, 28, 29, 30, 31] rfl (jn rfl (zT 10 [(32, .sh 2 (a.map Lbl.d), none), (33, dN k, none), (34, .el (Lbl.d x1) 0, none), (35, .el (Lbl.d x1) 1, none), (36, .s x1.v, none), (37, .sh 2 (b.map Lbl.d), none), (38, dN k, none), (39, .el (Lbl.d x2) 0, none), (40, .el (Lbl.d x2) 1, none), (41, .s x2.v, none)] [] (Hn := []) z7 rfl rfl rfl rfl HSub.rfl' rfl ⟨sa_p rfl rfl rfl (zb rfl), sa_p rfl rfl rfl (zb rfl), sa_p rfl rfl rfl (zo (k := k) rfl rfl Tryz.runUnderlying50 Tryz.sizeOf62 (by first | rfl | omega) (zf hx1)), sa_p rfl rfl rfl (zx rfl zaC rfl), sa_p rfl rfl rfl (zz rfl Tryz.isAgg9 rfl), sa_p rfl rfl rfl (zb rfl), sa_p rfl rfl rfl (zb rfl), sa_p rfl rfl rfl (zo (k := k) rfl rfl Tryz.runUnderlying50 Tryz.sizeOf62 (by first | rfl | omega) (zf hx2)), sa_p rfl rfl rfl (zx rfl zaC rfl), sa_p rfl rfl rfl (zz rfl Tryz.isAgg9 rfl), trivial⟩ (ok [0, 1, 5, 6, 16, 19, 20, 21, 22, 23, 24, 25, 26, 27, 28, 29, 30, 31, 32, 33, 34, 35, 36, 37, 38, 39, 40, 41] rfl (oW rfl rfl acs Tryz.call120 (texts_c x1.v x2.v) (oR 1 rfl (oZ rfl (jT rfl (oR 1 rfl (oP rfl (zbs rfl rfl rfl) (oZ rfl ?_))))))))))
        refine jD rfl (fun hc5 => ?_) (fun hc5 => ?_)
        · skip
          refine jT rfl (oR 2 rfl (oZ rfl (zm rfl (ze (zc (zJ (ze (zc ?_))))))))
          exact zj Tryz.results54 (.cons (zr (zg rfl) (Cv.eq (congrArg (fun n => D.v (.int .i64 n)) (by rw [cmpLs_at hx1 hx2 hf (by unfold zC or2; split <;> omega)]; unfold zC or2; first | rw [if_pos (by omega)] | rw [if_neg (by omega)])))) .nil) rfl HSub.none ⟨rfl, rfl⟩
        · skip
          refine zk rfl (zw (zd (za rfl (oR 1 rfl (oP rfl (zQ (c := ((k + 1 : Nat) : Int)) rfl rfl (zD (by omega) (by omega))) (oR 1 rfl (zi rfl ?_)))))))
          exact pl1 (k + 1) (sa rfl) HSub.rfl' ⟨by omega, by omega, cmpLs_next hx1 hx2 hf (by unfold zC or2; split <;> omega)⟩ (by omega)
      · skip
        refine zk rfl (zd (jT rfl (oR 1 rfl (oP rfl (zbs rfl rfl rfl) (oZ rfl ?_)))))
        refine jD rfl (fun hc6 => ?_) (fun hc6 => ?_)
        · skip
          refine jT rfl (oR 2 rfl (oZ rfl (zm rfl (ze (zc (zJ (ze (zc ?_))))))))
          exact zj Tryz.results54 (.cons (zr (zg rfl) (Cv.eq (congrArg (fun n => D.v (.int .i64 n)) (by rw [cmpLs_at hx1 hx2 hf (by unfold zC or2; split <;> omega)]; unfold zC or2; first | rw [if_pos (by omega)] | rw [if_neg (by omega)])))) .nil) rfl HSub.none ⟨rfl, rfl⟩
        · skip
          refine zk rfl (zw (zd (za rfl (oR 1 rfl (oP rfl (zQ (c := ((k + 1 : Nat) : Int)) rfl rfl (zD (by omega) (by omega))) (oR 1 rfl (zi rfl ?_)))))))
          exact pl1 (k + 1) (sa rfl) HSub.rfl' ⟨by omega, by omega, cmpLs_next hx1 hx2 hf (by unfold zC or2; split <;> omega)⟩ (by omega)
    · simp only [bA, bB, bC, bD, bE, bF, bG, bH, bI, bJ] at hc3
      refine zK rfl (zp (zn (zl (zd (jS rfl (jB rfl (jT rfl (oR 1 rfl (oP rfl (z1 (n := a.length) rfl Tryz.runUnderlying50 (by simp only [lm, lc, ln])) (oR 1 rfl (oP rfl (z1 (n := b.length) rfl Tryz.runUnderlying50 (by simp only [lm, lc, ln])) (oP rfl (zP rfl rfl rfl) (oR 1 rfl (oZ rfl ?_))))))))))))))
      refine jD rfl (fun hc7 => ?_) (fun hc7 => ?_)
      · skip
        refine jT rfl (oR 1 rfl (oZ rfl (jk [4] rfl (zm rfl (ze (zc ?_))))))
        exact zj Tryz.results54 (.cons (zr (zg rfl) (Cv.eq (congrArg (fun n => D.v (.int .i64 n)) (by rw [hf]; first | rw [cmpLs_nil (by omega) (by omega) (by omega)] | rw [cmpLs_nil_l (by omega) (by omega)] | rw [cmpLs_nil_r (by omega) (by omega)])))) .nil) rfl HSub.none ⟨rfl, rfl⟩
      · skip
        refine jT rfl (oR 1 rfl (oP rfl (z1 (n := a.length) rfl Tryz.runUnderlying50 (by simp only [lm, lc, ln])) (oR 1 rfl (oP rfl (z1 (n := b.length) rfl Tryz.runUnderlying50 (by simp only [lm, lc, ln])) (oP rfl (zat rfl rfl rfl) (oR 1 rfl (oZ rfl (jk [52] rfl ?_))))))))
        refine jD rfl (fun hc8 => ?_) (fun hc8 => ?_)
        · skip
          refine jT rfl (oR 1 rfl (oZ rfl (zm rfl (ze (zc ?_)))))
          exact zj Tryz.results54 (.cons (zr (zg rfl) (Cv.eq (congrArg (fun n => D.v (.int .i64 n)) (by rw [hf]; first | rw [cmpLs_nil (by omega) (by omega) (by omega)] | rw [cmpLs_nil_l (by omega) (by omega)] | rw [cmpLs_nil_r (by omega) (by omega)])))) .nil) rfl HSub.none ⟨rfl, rfl⟩
        · skip
          refine zk rfl (zw (zd (jT rfl (oR 1 rfl (oZ rfl (zm rfl ?_))))))
          exact zj Tryz.results54 (.cons (zr (zg rfl) (Cv.eq (congrArg (fun n => D.v (.int .i64 n)) (by rw [hf]; first | rw [cmpLs_nil (by omega) (by omega) (by omega)] | rw [cmpLs_nil_l (by omega) (by omega)] | rw [cmpLs_nil_r (by omega) (by omega)])))) .nil) rfl HSub.none ⟨rfl, rfl⟩
end Lp
