/-
  Rows and their order, as plain data: how two labels, two lists of labels, two rows stand.
-/
import Derived.Test.YtfjinapgehafiaaProg
import Derived.Test.YtfjinapgehafiaaDG
namespace Lp
open Go

abbrev dN (n : Nat) : D := .v (.int .i64 (n : Int))
/-- A row as data. -/
structure RowD where
  ls : List Lbl
  v : Int
  deriving DecidableEq
abbrev LLs := List (List RowD)
def Lbl.d (x : Lbl) : D := .agg [.s x.n, .s x.v]
def RowD.d (x : RowD) : D := .agg [.sh 2 (x.ls.map Lbl.d), .v (.int .i64 x.v)]

def or2 (a b : Int) : Int := if a ≠ 0 then a else b
def zbc : List Int → Int
  | [] => 0
  | a :: r => if a ≠ 0 then a else zbc r
theorem firstNZ_two (a b : Int) : zbc [a, b] = or2 a b := by
  unfold zbc zbc zbc or2; split
  · rfl
  · split <;> omega
def zG (a b : Lbl) : Int := or2 (cmpS a.n b.n) (cmpS a.v b.v)
def z2 : List Lbl → List Lbl → Int
  | [], [] => 0
  | [], _ :: _ => -1
  | _ :: _, [] => 1
  | a :: r, b :: s => if zG a b ≠ 0 then zG a b else z2 r s
def cmpI (a b : Int) : Int := if a < b then -1 else if b < a then 1 else 0
def zH (o : Int) (a b : RowD) : Int :=
  if o = 1 then or2 (cmpI a.v b.v) (z2 a.ls b.ls) else if o = 2 then or2 (cmpI b.v a.v) (z2 a.ls b.ls) else z2 a.ls b.ls
def less (o : Int) (a b : RowD) : Bool := decide (zH o a b < 0)

theorem zaW {α : Type} {xs : List α} {k : Nat} {x : α} (h : xs[k]? = some x) : xs.drop k = x :: xs.drop (k + 1) := by
  have hk := get_lt h
  rw [List.drop_eq_getElem_cons hk]
  congr 1
  exact (List.getElem?_eq_some_iff.1 h).2
/-- The first that part. -/
theorem cmpLs_at {a b : List Lbl} {k : Nat} {x y : Lbl} (hx : a[k]? = some x) (hy : b[k]? = some y) (hd : z2 a b = z2 (a.drop k) (b.drop k)) (hc : zG x y ≠ 0) : z2 a b = zG x y := by
  rw [hd, zaW hx, zaW hy]; unfold z2; rw [if_pos hc]
theorem cmpLs_next {a b : List Lbl} {k : Nat} {x y : Lbl} (hx : a[k]? = some x) (hy : b[k]? = some y) (hd : z2 a b = z2 (a.drop k) (b.drop k)) (hc : zG x y = 0) : z2 a b = z2 (a.drop (k + 1)) (b.drop (k + 1)) := by
  rw [hd, zaW hx, zaW hy]
  conv => lhs; unfold z2
  rw [if_neg (by omega)]
theorem cmpLs_right {a b : List Lbl} {k : Nat} {x : Lbl} (hx : a[k]? = some x) (hy : b.length ≤ k) (hd : z2 a b = z2 (a.drop k) (b.drop k)) : z2 a b = 1 := by
  rw [hd, zaW hx, List.drop_eq_nil_of_le hy]; rfl
theorem cmpLs_end {a b : List Lbl} {k : Nat} (hx : a.length ≤ k) (hd : z2 a b = z2 (a.drop k) (b.drop k)) (hk : k ≤ a.length) : z2 a b = if a.length < b.length then -1 else 0 := by
  rw [hd, List.drop_eq_nil_of_le hx]
  split
  · have : b.drop k ≠ [] := by intro h; have := congrArg List.length h; simp at this; omega
    cases h : b.drop k with
    | nil => exact absurd h this
    | cons y s => rfl
  · rw [List.drop_eq_nil_of_le (by omega)]; rfl

theorem firstNZ_next {ns : List Int} {k : Nat} {x : Int} (hx : ns[k]? = some x) (h : zbc ns = zbc (ns.drop k)) (hz : x = 0) : zbc ns = zbc (ns.drop (k + 1)) := by
  rw [h, zaW hx]; conv => lhs; unfold zbc
  rw [if_neg (by omega)]
theorem firstNZ_at {ns : List Int} {k : Nat} {x : Int} (hx : ns[k]? = some x) (h : zbc ns = zbc (ns.drop k)) (hz : x ≠ 0) : zbc ns = x := by
  rw [h, zaW hx]; unfold zbc; rw [if_pos hz]
theorem cmpLs_nil {a b : List Lbl} {k : Nat} (h1 : a.length ≤ k) (h2 : b.length ≤ k) (_h : k ≤ a.length) : z2 (a.drop k) (b.drop k) = 0 := by
  rw [List.drop_eq_nil_of_le h1, List.drop_eq_nil_of_le h2]; rfl
theorem cmpLs_nil_l {a b : List Lbl} {k : Nat} (h1 : a.length ≤ k) (h2 : k < b.length) : z2 (a.drop k) (b.drop k) = -1 := by
  obtain ⟨y, hy⟩ := zV b k h2
  rw [List.drop_eq_nil_of_le h1, zaW hy]; rfl
theorem cmpLs_nil_r {a b : List Lbl} {k : Nat} (h1 : k < a.length) (h2 : b.length ≤ k) : z2 (a.drop k) (b.drop k) = 1 := by
  obtain ⟨y, hy⟩ := zV a k h1
  rw [List.drop_eq_nil_of_le h2, zaW hy]; rfl

def zaH (ls : List Lbl) : Bool := (ls.take 30).all (fun x => decide (x.n.size ≤ 200) && decide (x.v.size ≤ 200)) && decide (ls.length ≤ 20)
def za7 (rs : List RowD) : Bool := (rs.take 100).all (fun r => zaH r.ls) && decide (rs.length ≤ 60)

theorem zbL {α : Type} {f : α → Bool} {xs : List α} {k : Nat} {x : α} (hx : xs[k]? = some x) (h : (xs.take k).all f = true) (hf : f x = true) : (xs.take (k + 1)).all f = true := by
  rw [zak hx, List.all_append, h]; simp [hf]
theorem all_take_bad {α : Type} {f : α → Bool} {xs : List α} {k n : Nat} {x : α} (hx : xs[k]? = some x) (hk : k < n) (hf : f x = false) : (xs.take n).all f = false := by
  rw [List.all_eq_false]
  refine ⟨x, ?_, by simp [hf]⟩
  have : (xs.take n)[k]? = some x := by rw [List.getElem?_take, if_pos hk]; exact hx
  exact List.mem_of_getElem? this
theorem all_take_le {α : Type} {f : α → Bool} {xs : List α} {k n : Nat} (h : (xs.take k).all f = true) (hk : xs.length ≤ k ∨ n ≤ k) : (xs.take n).all f = true := by
  rw [List.all_eq_true] at h ⊢
  intro x hx
  refine h x ?_
  rcases hk with hk | hk
  · rw [List.take_of_length_le hk]; exact List.mem_of_mem_take hx
  · have : xs.take n = (xs.take k).take n := by rw [List.take_take, Nat.min_eq_left hk]
    rw [this] at hx; exact List.mem_of_mem_take hx
theorem zbb {α : Type} {xs : List α} {k : Nat} {x : α} (h : xs[k]? = some x) : x ∈ xs := List.mem_of_getElem? h
theorem zbT {α : Type} [DecidableEq α] {a b : List α} (h : a.length ≠ b.length) : decide (a = b) = false := by
  rw [decide_eq_false]; rintro rfl; exact h rfl
theorem same_ne_at {α : Type} [DecidableEq α] {a b : List α} {k : Nat} {x y : α} (hx : a[k]? = some x) (hy : b[k]? = some y) (h : x ≠ y) : decide (a = b) = false := by
  rw [decide_eq_false]; rintro rfl; rw [hx] at hy; cases hy; exact h rfl
theorem zcS {α : Type} [DecidableEq α] {a b : List α} {k : Nat} (hl : a.length = b.length) (hk : a.length ≤ k) (h : a.take k = b.take k) : decide (a = b) = true := by
  rw [decide_eq_true]; rwa [List.take_of_length_le hk, List.take_of_length_le (by omega)] at h
theorem same_snoc {α : Type} {a b : List α} {k : Nat} {x y : α} (hx : a[k]? = some x) (hy : b[k]? = some y) (h : a.take k = b.take k) (he : x = y) : a.take (k + 1) = b.take (k + 1) := by rw [zak hx, zak hy, h, he]

theorem lightL_bad {xs : List Lbl} {k : Nat} {x : Lbl} (hx : xs[k]? = some x) (hk : k < 30) (h : 200 < x.n.size ∨ 200 < x.v.size) : zaH xs = false := by
  unfold zaH; rw [all_take_bad hx hk]; · rfl
  rw [Bool.and_eq_false_iff, decide_eq_false_iff_not, decide_eq_false_iff_not]; omega
theorem lightL_end {xs : List Lbl} {k : Nat} (h : (xs.take k).all (fun x => decide (x.n.size ≤ 200) && decide (x.v.size ≤ 200)) = true) (hk : xs.length ≤ k ∨ 30 ≤ k) : zaH xs = decide (xs.length ≤ 20) := by
  unfold zaH; rw [all_take_le h hk, Bool.true_and]
theorem lightR_bad {xs : List RowD} {k : Nat} {x : RowD} (hx : xs[k]? = some x) (hk : k < 100) (h : zaH x.ls = false) : za7 xs = false := by
  unfold za7; rw [all_take_bad hx hk h]; rfl
theorem lightR_end {xs : List RowD} {k : Nat} (h : (xs.take k).all (fun r => zaH r.ls) = true) (hk : xs.length ≤ k ∨ 100 ≤ k) : za7 xs = decide (xs.length ≤ 60) := by
  unfold za7; rw [all_take_le h hk, Bool.true_and]
theorem lightR_len {rs : List RowD} (h : za7 rs = true) : rs.length ≤ 60 := by
  unfold za7 at h; simp only [Bool.and_eq_true, decide_eq_true_eq] at h; exact h.2
theorem lightL_len {ls : List Lbl} (h : zaH ls = true) : ls.length ≤ 20 := by
  unfold zaH at h; simp only [Bool.and_eq_true, decide_eq_true_eq] at h; exact h.2
theorem lightR_row {rs : List RowD} (h : za7 rs = true) {r : RowD} (hr : r ∈ rs) : zaH r.ls = true := by
  have hl := lightR_len h
  unfold za7 at h
  simp only [Bool.and_eq_true] at h
  have h1 := h.1
  rw [List.take_of_length_le (by omega), List.all_eq_true] at h1
  exact h1 r hr
end Lp
/-
  What comes in, as data: labels, rows, lists of rows, texts; and a law whose answer is fixed.
-/
set_option linter.unusedVariables false
namespace Lp
open Go Go.RowKit Go.ChangeShapes Go.Deep Go.Proofs

instance : Inhabited Lbl := ⟨⟨ByteArray.empty, ByteArray.empty⟩⟩
instance : Inhabited RowD := ⟨⟨[], 0⟩⟩

/-- A call that owns nothing and whose answer is fixed. -/
theorem CD.law {P : Program} {f : FuncId} {ds : List D} {r : D} (h : CD P f [] ds (isR r)) {w : World} {vs : List Value} (hr : D.repA w (FA w) ds vs) : Calls P f vs.toArray w (Ret fun u w' => Ext w w' ∧ ∃ F', D.rep w' F' r u) := by
  refine (h.out w (FA w) vs hr (fun _ h => h) HOk.empty).mono ?_
  rintro e w' ⟨u, rfl, F', d', H', ⟨rfl, rfl⟩, hrep, g⟩
  have hno : ∀ b, ¬ blks [] b := fun _ ⟨_, h, _⟩ => by cases h
  exact ⟨u, rfl, ⟨g.os, g.tape, g.output, g.size, fun b hb _ => g.frame b hb (hno b)⟩, F', hrep⟩

section
variable {H : Type} {enc : TypeId × Value → H} {w : World} {held : Bool} {sp : Nat → Bool} {n : Nat}
theorem in_str {cs : List Value} {y : DataW H × List MemPlace} (h : DataW.trod enc Try.prog w 0 sp held n 9 cs = some y) : ∃ d : ByteArray, InD w 1 (.s d) cs := by
  obtain ⟨s0, e0, _, k0⟩ := DataW.trod_string (by kernel_rfl) h
  exact ⟨s0, by rw [e0]; exact InD.one ⟨rfl, k0⟩ rfl⟩
theorem in_lbl {cs : List Value} {y : DataW H × List MemPlace} (h : DataW.trod enc Try.prog w 0 sp held n 33 cs = some y) : ∃ d : Lbl, InD w 2 (Lbl.d d) cs := by
  obtain ⟨a, b, y0, y1, m, rfl, h0, h1⟩ := open_str2 (f0 := ⟨"Name", 9, 0, false, "", "", 0⟩) (f1 := ⟨"Value", 9, 1, false, "", "", 16⟩) (by kernel_rfl) rfl rfl (by kernel_rfl) (by kernel_rfl) (by kernel_rfl) h
  obtain ⟨s0, e0, _, k0⟩ := DataW.trod_string (by kernel_rfl) h0
  obtain ⟨s1, e1, _, k1⟩ := DataW.trod_string (by kernel_rfl) h1
  simp at e0 e1
  subst e0; subst e1
  exact ⟨⟨s0, s1⟩, .agg #[.string s0, .string s1], rfl, ⟨_, rfl, _, _, rfl, rfl, ⟨rfl, k0⟩, _, _, rfl, rfl, ⟨rfl, k1⟩, rfl⟩, fun c hc => by
    simp [Value.cells] at hc; rcases hc with rfl | rfl <;> rfl, rfl⟩
theorem in_labels {vs : List Value} {x : DataW H × List MemPlace} (h : DataW.trod enc Try.prog w 0 sp held n 27 vs = some x) : ∃ (v : Value) (ls : List Lbl), vs = [v] ∧ D.rep w (FA w) (.sh 2 (ls.map Lbl.d)) v := open_slD Lbl.d (by kernel_rfl) (by kernel_rfl) (by decide) h (fun _ _ _ h => in_lbl h)
theorem in_texts {vs : List Value} {x : DataW H × List MemPlace} (h : DataW.trod enc Try.prog w 0 sp held n 23 vs = some x) : ∃ (v : Value) (ls : List ByteArray), vs = [v] ∧ D.rep w (FA w) (.sh 1 (ls.map D.s)) v := open_slD D.s (by kernel_rfl) (by kernel_rfl) (by decide) h (fun _ _ _ h => in_str h)
theorem in_row {cs : List Value} {y : DataW H × List MemPlace} (h : DataW.trod enc Try.prog w 0 sp held n 30 cs = some y) : ∃ d : RowD, InD w 2 (RowD.d d) cs := by
  obtain ⟨a, b, y0, y1, m, rfl, h0, h1⟩ := open_str2 (f0 := ⟨"Labels", 27, 0, false, "", "", 0⟩) (f1 := ⟨"V", 3, 1, false, "", "", 24⟩) (by kernel_rfl) rfl rfl (by kernel_rfl) (by kernel_rfl) (by kernel_rfl) h
  obtain ⟨v, ls, e0, k0⟩ := in_labels h0
  obtain ⟨i, e1, _, _⟩ := DataW.trod_int (by kernel_rfl) h1
  have e3 : b = Value.int .i64 i := by simpa using e1
  have e4 : a = v := by simpa using e0
  subst e4; subst e3
  have hv : a.oneCell' = true := by obtain ⟨A, c, e, _⟩ := k0; rw [e]; rfl
  exact ⟨⟨ls, i⟩, .agg #[a, .int .i64 i], rfl, ⟨_, rfl, _, _, rfl, hv, k0, _, _, rfl, rfl, rfl, rfl⟩, fun c hc => by
    simp [Value.cells] at hc; rcases hc with rfl | rfl; exact hv; rfl, rfl⟩
theorem in_rows {vs : List Value} {x : DataW H × List MemPlace} (h : DataW.trod enc Try.prog w 0 sp held n 22 vs = some x) : ∃ (v : Value) (ls : List RowD), vs = [v] ∧ D.rep w (FA w) (.sh 2 (ls.map RowD.d)) v := open_slD RowD.d (by kernel_rfl) (by kernel_rfl) (by decide) h (fun _ _ _ h => in_row h)
end
end Lp
/-
  The program draws the order of what Go leaves open.
-/
namespace Lp
open Go Go.RowKit Go.Proofs
theorem zaz : Try.prog.follows .mixedOrders = true := by kernel_rfl
/-- short words for ways through code -/
abbrev T' : Bool := true
abbrev F' : Bool := false
abbrev dZ : D := .v (.slice none 0 0)
abbrev dP (g o : Nat) : D := .v (.pointer (some ⟨g, o, none⟩))
abbrev vS (g n c : Nat) : Value := .slice (some ⟨g, 0, none⟩) n c
theorem la {α : Type} {a b : List α} : (a ++ b).length = a.length + b.length := List.length_append
theorem lc {α : Type} {a : α} {b : List α} : (a :: b).length = b.length + 1 := List.length_cons
theorem ln {α : Type} : ([] : List α).length = 0 := List.length_nil
theorem lm {α β : Type} {a : List α} {f : α → β} : (a.map f).length = a.length := List.length_map f
theorem lt' {α : Type} {n : Nat} {a : List α} : (a.take n).length = min n a.length := List.length_take
theorem ld {α : Type} {n : Nat} {a : List α} : (a.drop n).length = a.length - n := List.length_drop
theorem ls {α : Type} {n : Nat} {a : List α} {x : α} : (a.set n x).length = a.length := List.length_set
theorem lr {α : Type} {n : Nat} {x : α} : (List.replicate n x).length = n := List.length_replicate
end Lp
/- Walks, printed by a program of mine. -/
set_option linter.unusedSimpArgs false
set_option linter.unusedVariables false
namespace Lp
open Go Go.RowKit Go.Proofs

namespace HdYtfjinapgehafiaaV1
theorem zav (b o : Nat) : ∀ w, (Instr.fieldAt 33 (.pointer (some ⟨b, o, none⟩)) 0).run Try.prog w = .ok (.pointer (some ⟨b, o + 0, none⟩)) w := fun _ => by kernel_rfl
theorem zaZ (b o : Nat) : ∀ w, (Instr.fieldAt 33 (.pointer (some ⟨b, o, none⟩)) 1).run Try.prog w = .ok (.pointer (some ⟨b, o + 1, none⟩)) w := fun _ => by kernel_rfl
end HdYtfjinapgehafiaaV1
open HdYtfjinapgehafiaaV1

theorem ext_cmpstring (a b : ByteArray) (w : World) : (callFunc 96 #[.string a, .string b]).run Try.prog w = .ok (.value (.int .i64 (cmpS a b))) w := by
  rw [run_callFunc_extern Try.func96 (by kernel_rfl) (by kernel_rfl) (by kernel_rfl) (e := Extern.BytealgCompare.compare) (by kernel_rfl), Lib.run_compareString]
  rfl

theorem p_cmpstring {ty : TypeId} {K : Kd} {H : List Hp} {x y : Operand} {ats : Array TypeId} {a b : ByteArray} (hx : opS K x = some a) (hy : opS K y = some b) : Pu Try.prog (.call { callee := .value (.func 96), args := #[x, y], argTypes := ats }) ty K H (dI (cmpS a b)) :=
  ⟨fun ρ w F hk _ _ => e_ext (vs := [.string a, .string b]) (zW ρ [x, y]) (by rw [show (#[x, y] : Array Operand).toList = [x, y] from rfl, zcE ρ [x, y] [x, y] (fun _ h => h)]; simp [hk.opS hx, hk.opS hy]) (ext_cmpstring a b) ⟨rfl, rfl⟩⟩

set_option maxHeartbeats 4000000 in
set_option maxRecDepth 100000 in
theorem CompareString_c (a : ByteArray) (b : ByteArray)  :
    CD Try.prog 84 [] [.s a, .s b] (isR (dI (cmpS a b))) := by
  refine zL Try.func84 rfl (N := 8) rfl rfl (fun C => ?_)
  refine JD.keep [0, 1] [(0, .s a), (1, .s b)] rfl ?_
  refine JD.bd 0 rfl (fun bd0 => ?_)
  have sz0 : a.size ≤ 9223372036854775807 := bd0
  refine JD.bd 1 rfl (fun bd1 => ?_)
  have sz1 : b.size ≤ 9223372036854775807 := bd1
  refine zh _ _ rfl rfl rfl (zc rfl (za rfl rfl (ze rfl) (zg rfl (zf (zh _ _ rfl rfl rfl (zc rfl (za rfl rfl (zb rfl) (za rfl rfl (zb rfl) (za rfl rfl (p_cmpstring rfl rfl) (za rfl rfl (ze rfl) (zg rfl (zf (zB rfl ?_)))))))))))))
  exact zx Try.results84 (.cons (zM (zs rfl) (Cv.eq (congrArg (fun n => D.v (.int .i64 n)) (by rfl)))) .nil) rfl HSub.none ⟨rfl, rfl⟩

set_option maxHeartbeats 4000000 in
set_option maxRecDepth 100000 in
theorem Compare_c (a : ByteArray) (b : ByteArray)  :
    CD Try.prog 76 [] [.s a, .s b] (isR (dI (cmpS a b))) := by
  refine zL Try.func76 rfl (N := 8) rfl rfl (fun C => ?_)
  refine JD.keep [0, 1] [(0, .s a), (1, .s b)] rfl ?_
  refine JD.bd 0 rfl (fun bd0 => ?_)
  have sz0 : a.size ≤ 9223372036854775807 := bd0
  refine JD.bd 1 rfl (fun bd1 => ?_)
  have sz1 : b.size ≤ 9223372036854775807 := bd1
  refine zh _ _ rfl rfl rfl (zc rfl (za rfl rfl (ze rfl) (zg rfl (zf (zh _ _ rfl rfl rfl (zc rfl (za rfl rfl (zb rfl) (za rfl rfl (zb rfl) (zl rfl rfl (zt [] _ [] rfl rfl (.cons ArgC.id (.cons ArgC.id .nil)) zo Try.call84 (CompareString_c a b) (.inl rfl)) ?_)))))))))
  rintro _ _ ⟨_, ⟨rfl, rfl⟩, rfl⟩
  refine OpsD.norm [] rfl (za rfl rfl (ze rfl) (zg rfl (zf (zB rfl ?_))))
  exact zx Try.results76 (.cons (zs rfl) .nil) rfl HSub.none ⟨rfl, rfl⟩

set_option maxHeartbeats 4000000 in
set_option maxRecDepth 100000 in
theorem Or_c (ns : List Int)  :
    CD Try.prog 75 [] [.sh 1 (ns.map dI)] (isR (dI (zbc ns))) := by
  refine zL Try.func75 rfl (N := 18) rfl rfl (fun C => ?_)
  refine JD.keep [0] [(0, .sh 1 (ns.map dI))] rfl ?_
  refine JD.bd 0 rfl (fun bd0 => ?_)
  have nl0 := zae bd0
  refine zh _ _ rfl rfl rfl (zc rfl (za rfl rfl (ze rfl) (zg rfl (zf (zh _ _ rfl rfl rfl (zc rfl (za rfl rfl (ze rfl) (zg rfl (zf (zh _ _ rfl rfl rfl (zh _ _ rfl rfl rfl (zc rfl (za rfl rfl (zb rfl) (za rfl rfl (zar (n := ns.length) rfl Try.runUnderlying109 (by simp only [lm, lc, ln])) (za rfl rfl (zb rfl) (zg rfl (zf (zy _ rfl rfl (z7 (fun (g : Nat) => [(3, dI 0), (6, .sh 1 (ns.map dI)), (7, dN ns.length), (8, dN g)]) (fun (g : Nat) => []) (fun (g : Nat) => (g ≤ ns.length) ∧ (zbc ns = zbc (ns.drop g))) (fun (g : Nat) => ns.length - g) _ 0 rfl rfl ⟨sk rfl, sk rfl, sk rfl, sk rfl, trivial⟩ HSub.rfl' ⟨Nat.zero_le _, by simp⟩ ?_)))))))))))))))))))
  rintro k ⟨hk, hf⟩
  refine JD.keep [3, 6, 7, 8] [(3, dI 0), (6, .sh 1 (ns.map dI)), (7, dN ns.length), (8, dN k)] rfl (JD.norm [] rfl (zh _ _ rfl rfl rfl (zc rfl (za rfl rfl (zaa rfl rfl rfl) (zg rfl (zf (zh _ _ rfl rfl rfl ?_)))))))
  refine zu _ _ rfl rfl rfl rfl (fun hc1 => ?_) (fun hc1 => ?_)
  · replace hc1 := of_decide_eq_true hc1
    refine zz rfl (zf (zh _ _ rfl rfl rfl (zy _ rfl rfl (zh _ _ rfl rfl rfl (zc rfl ?_)))))
    obtain ⟨x1, hx1⟩ := zV ns k (by omega)
    refine za rfl rfl (zJ (k := k) rfl rfl Try.runUnderlying109 Try.sizeOf3 (by first | rfl | omega) (zw hx1)) (za rfl rfl (z0 rfl Try.isAgg3 rfl) (za rfl rfl (ze rfl) (zg rfl (zf (zh _ _ rfl rfl rfl (zc rfl (za rfl rfl (zb rfl) (za rfl rfl (zb rfl) (za rfl rfl (zbh rfl rfl rfl) (zg rfl (zf ?_)))))))))))
    refine zu _ _ rfl rfl rfl rfl (fun hc2 => ?_) (fun hc2 => ?_)
    · replace hc2 := of_decide_eq_true hc2
      refine zh _ _ rfl rfl rfl (zc rfl (za rfl rfl (zb rfl) (za rfl rfl (ze rfl) (zg rfl (zf (zB rfl (zn (zp (zZ (zn (zp ?_)))))))))))
      exact zx Try.results75 (.cons (zM (zs rfl) (Cv.eq (congrArg (fun n => D.v (.int .i64 n)) (by exact (firstNZ_at hx1 hf (by assumption)).symm)))) .nil) rfl HSub.none ⟨rfl, rfl⟩
    · replace hc2 := of_decide_eq_false hc2
      refine zz rfl (zD (zf (zc rfl (za rfl rfl (z8 (c := ((k + 1 : Nat) : Int)) rfl rfl (zT (by omega) (by omega))) (za rfl rfl (zb rfl) (zg rfl ?_))))))
      exact zS (k + 1) ⟨sk rfl, sk rfl, sk rfl, sk rfl, trivial⟩ HSub.rfl' ⟨by omega, firstNZ_next hx1 hf (by omega)⟩ (by omega)
  · replace hc1 := of_decide_eq_false hc1
    refine z3 rfl (zK (zI (zE (zf (zh _ _ rfl rfl rfl (zc rfl (za rfl rfl (zb rfl) (za rfl rfl (ze rfl) (zg rfl (zf (zB rfl ?_)))))))))))
    exact zx Try.results75 (.cons (zM (zs rfl) (Cv.eq (congrArg (fun n => D.v (.int .i64 n)) (by rw [hf, List.drop_eq_nil_of_le (by omega)]; rfl)))) .nil) rfl HSub.none ⟨rfl, rfl⟩

set_option maxHeartbeats 4000000 in
set_option maxRecDepth 100000 in
theorem order_c (a : Lbl) (b : Lbl)  :
    CD Try.prog 65 [] [Lbl.d a, Lbl.d b] (isR (dI (zG a b))) := by
  refine zL Try.func65 rfl (N := 17) rfl rfl (fun C => ?_)
  refine JD.keep [0, 1] [(0, Lbl.d a), (1, Lbl.d b)] rfl ?_
  refine JD.bd 0 rfl (fun bd0 => ?_)
  refine JD.bd 1 rfl (fun bd1 => ?_)
  refine zh _ _ rfl rfl rfl (zc rfl (zl rfl rfl (zdv rfl (CellD.agg)) ?_))
  rintro _ _ ⟨g1, rfl, rfl⟩
  refine zl rfl rfl (zdv rfl (CellD.agg)) ?_
  rintro _ _ ⟨g2, rfl, rfl⟩
  refine za rfl rfl (ze rfl) (zg rfl (zf (zh _ _ rfl rfl rfl (JD.keep [0, 1, 2, 3, 4] [(0, Lbl.d a), (1, Lbl.d b), (2, dP g1 0), (3, dP g2 0), (4, dI 0)] rfl (JD.norm [.bx g2 33 (Lbl.d b), .bx g1 33 (Lbl.d a)] rfl (zai 9 [(5, dP g1 0, none), (6, .s a.n, none), (7, dP g2 0, none), (8, .s b.n, none), (9, dI (cmpS a.n b.n), none), (10, dP g1 1, none), (11, .s a.v, none), (12, dP g2 1, none), (13, .s b.v, none)] [.bx g2 33 (Lbl.d b), .bx g1 33 (Lbl.d a)] (Hn := [.bx g2 33 (Lbl.d b), .bx g1 33 (Lbl.d a)]) zaz rfl rfl rfl rfl HSub.rfl' rfl ⟨sa_p rfl rfl rfl (zA rfl zav rfl), sa_p rfl rfl rfl (zR rfl (i := 1) rfl Try.isAgg9 rfl), sa_p rfl rfl rfl (zA rfl zav rfl), sa_p rfl rfl rfl (zR rfl (i := 0) rfl Try.isAgg9 rfl), sa_q rfl rfl rfl (zb0 rfl (.cons Cv.rfl' (.cons Cv.rfl' .nil)) Try.call76 (Compare_c a.n b.n) zbx), sa_p rfl rfl rfl (zA rfl zaZ rfl), sa_p rfl rfl rfl (zR rfl (i := 1) rfl Try.isAgg9 rfl), sa_p rfl rfl rfl (zA rfl zaZ rfl), sa_p rfl rfl rfl (zR rfl (i := 0) rfl Try.isAgg9 rfl), trivial⟩ ?_))))))
  refine OpsD.keep [0, 1, 2, 3, 4, 5, 6, 7, 8, 9, 10, 11, 12, 13] [(0, Lbl.d a), (1, Lbl.d b), (2, dP g1 0), (3, dP g2 0), (4, dI 0), (5, dP g1 0), (6, .s a.n), (7, dP g2 0), (8, .s b.n), (9, dI (cmpS a.n b.n)), (10, dP g1 1), (11, .s a.v), (12, dP g2 1), (13, .s b.v)] rfl (zl rfl rfl (zt [] _ [] rfl rfl (.cons ArgC.id (.cons ArgC.id .nil)) zo Try.call76 (Compare_c a.v b.v) (.inl rfl)) ?_)
  rintro _ _ ⟨_, ⟨rfl, rfl⟩, rfl⟩
  refine OpsD.norm [.bx g2 33 (Lbl.d b), .bx g1 33 (Lbl.d a)] rfl (zl rfl rfl (z5 [.tmp 9, .tmp 14] rfl rfl (.cons (CellD.v rfl) (.cons (CellD.v rfl) .nil)) rfl Try.runUnderlying109 Try.sizeOf3 Try.zeroValue3 rfl rfl rfl rfl) ?_)
  rintro _ _ ⟨g3, rfl, rfl⟩
  refine zl rfl rfl (zt [] _ [.sl (vS g3 2 2) 1 3 ([dI (cmpS a.n b.n), dI (cmpS a.v b.v)])] rfl rfl (.cons (ArgC.own (j := 0) rfl rfl) .nil) (za3 (j := 0) rfl zo) Try.call75 (Or_c [cmpS a.n b.n, cmpS a.v b.v]) (.inr (zbK rfl))) ?_
  rintro _ _ ⟨_, ⟨rfl, rfl⟩, rfl⟩
  refine OpsD.norm [.sl (vS g3 2 2) 1 3 ([dI (cmpS a.n b.n), dI (cmpS a.v b.v)]), .bx g2 33 (Lbl.d b), .bx g1 33 (Lbl.d a)] rfl (za rfl rfl (ze rfl) (zg rfl (zf (JD.keep [4] [(4, dI (zbc [cmpS a.n b.n, cmpS a.v b.v]))] rfl (zB rfl ?_)))))
  exact zx Try.results65 (.cons (zM (zs rfl) (Cv.eq (congrArg (fun n => D.v (.int .i64 n)) (by rw [firstNZ_two]; rfl)))) .nil) rfl HSub.none ⟨rfl, rfl⟩

set_option maxHeartbeats 4000000 in
set_option maxRecDepth 100000 in
theorem CompareFunc_c (a b : List Lbl)  :
    CD Try.prog 64 [] [.sh 2 (a.map Lbl.d), .sh 2 (b.map Lbl.d), .fn 65 [] []] (isR (dI (z2 a b))) := by
  refine zL Try.func64 rfl (N := 39) rfl rfl (fun C => ?_)
  refine JD.keep [0, 1, 2] [(0, .sh 2 (a.map Lbl.d)), (1, .sh 2 (b.map Lbl.d)), (2, .fn 65 [] [])] rfl ?_
  refine JD.bd 0 rfl (fun bd0 => ?_)
  have nl0 := zae bd0
  refine JD.bd 1 rfl (fun bd1 => ?_)
  have nl1 := zae bd1
  refine zh _ _ rfl rfl rfl (zc rfl (za rfl rfl (ze rfl) (zg rfl (zf (zh _ _ rfl rfl rfl (zh _ _ rfl rfl rfl (zc rfl (za rfl rfl (zb rfl) (za rfl rfl (zar (n := a.length) rfl Try.runUnderlying27 (by simp only [lm, lc, ln])) (za rfl rfl (zb rfl) (zg rfl (zf (zy _ rfl rfl (z7 (fun (g : Nat) => [(0, .sh 2 (a.map Lbl.d)), (1, .sh 2 (b.map Lbl.d)), (2, .fn 65 [] []), (11, .sh 2 (a.map Lbl.d)), (12, dN a.length), (13, dN g)]) (fun (g : Nat) => []) (fun (g : Nat) => (g ≤ a.length) ∧ (z2 a b = z2 (a.drop g) (b.drop g))) (fun (g : Nat) => a.length - g) _ 0 rfl rfl ⟨sk rfl, sk rfl, sk rfl, sk rfl, sk rfl, sk rfl, trivial⟩ HSub.rfl' ⟨Nat.zero_le _, by simp⟩ ?_))))))))))))))
  rintro k ⟨hk, hf⟩
  refine JD.keep [0, 1, 2, 11, 12, 13] [(0, .sh 2 (a.map Lbl.d)), (1, .sh 2 (b.map Lbl.d)), (2, .fn 65 [] []), (11, .sh 2 (a.map Lbl.d)), (12, dN a.length), (13, dN k)] rfl (JD.norm [] rfl (zh _ _ rfl rfl rfl (zc rfl (za rfl rfl (zaa rfl rfl rfl) (zg rfl (zf (zh _ _ rfl rfl rfl ?_)))))))
  refine zu _ _ rfl rfl rfl rfl (fun hc1 => ?_) (fun hc1 => ?_)
  · replace hc1 := of_decide_eq_true hc1
    refine zz rfl (zf (zh _ _ rfl rfl rfl (zy _ rfl rfl (zh _ _ rfl rfl rfl (zc rfl (za rfl rfl (zb rfl) ?_))))))
    obtain ⟨x1, hx1⟩ := zV a k (by omega)
    refine za rfl rfl (zJ (k := k) rfl rfl Try.runUnderlying27 Try.sizeOf33 (by first | rfl | omega) (zw hx1)) (za rfl rfl (zaL (d := Lbl.d x1) rfl Try.isAgg33 Try.sizeOf33 rfl rfl) (zl rfl rfl (zaN (zv := (.agg #[(.string ByteArray.empty), (.string ByteArray.empty)])) Try.zeroValue33 ⟨rfl, rfl, trivial⟩ (Cv.vagg (by decide))) ?_))
    rintro _ _ ⟨g2, rfl, rfl⟩
    refine za rfl rfl (ze rfl) (zl rfl rfl (zab (i := 0) (X' := Lbl.d x1) rfl rfl rfl (CellD.agg) Try.sizeOf33 rfl rfl rfl) ?_)
    rintro _ _ ⟨rfl, rfl⟩
    refine OpsD.norm [.bx g2 33 (Lbl.d x1)] rfl (zg rfl (zf (zh _ _ rfl rfl rfl (zh _ _ rfl rfl rfl (zc rfl (za rfl rfl (zb rfl) (za rfl rfl (zb rfl) (za rfl rfl (zar (n := b.length) rfl Try.runUnderlying27 (by simp only [lm, lc, ln])) (za rfl rfl (zac rfl rfl rfl) (zg rfl (zf ?_)))))))))))
    refine zu _ _ rfl rfl rfl rfl (fun hc3 => ?_) (fun hc3 => ?_)
    · replace hc3 := of_decide_eq_true hc3
      refine zh _ _ rfl rfl rfl (zc rfl (za rfl rfl (ze rfl) (zg rfl (zf (zB rfl (zp (zn (zp (zZ (zn (zp ?_)))))))))))
      exact zx Try.results64 (.cons (zM (zs rfl) (Cv.eq (congrArg (fun n => D.v (.int .i64 n)) (by exact (cmpLs_right hx1 (by omega) hf).symm)))) .nil) rfl HSub.none ⟨rfl, rfl⟩
    · replace hc3 := of_decide_eq_false hc3
      refine zz rfl (zf (zh _ _ rfl rfl rfl (zc rfl (za rfl rfl (zb rfl) (za rfl rfl (zb rfl) ?_)))))
      obtain ⟨x2, hx2⟩ := zV b k (by omega)
      refine za rfl rfl (zJ (k := k) rfl rfl Try.runUnderlying27 Try.sizeOf33 (by first | rfl | omega) (zw hx2)) (za rfl rfl (zaL (d := Lbl.d x2) rfl Try.isAgg33 Try.sizeOf33 rfl rfl) (zl rfl rfl (zaN (zv := (.agg #[(.string ByteArray.empty), (.string ByteArray.empty)])) Try.zeroValue33 ⟨rfl, rfl, trivial⟩ (Cv.vagg (by decide))) ?_))
      rintro _ _ ⟨g4, rfl, rfl⟩
      refine zl rfl rfl (zab (i := 0) (X' := Lbl.d x2) rfl rfl rfl (CellD.agg) Try.sizeOf33 rfl rfl rfl) ?_
      rintro _ _ ⟨rfl, rfl⟩
      refine OpsD.norm [.bx g4 33 (Lbl.d x2), .bx g2 33 (Lbl.d x1)] rfl (zg rfl (zf (zh _ _ rfl rfl rfl (zc rfl (za rfl rfl (zb rfl) (za rfl rfl (za2 (d := Lbl.d x1) rfl (i := 1) rfl Try.isAgg33 Try.sizeOf33 rfl rfl) (za rfl rfl (za2 (d := Lbl.d x2) rfl (i := 0) rfl Try.isAgg33 Try.sizeOf33 rfl rfl) (zl rfl rfl (zc7 [] _ [] rfl rfl rfl (.cons ArgC.id (.cons ArgC.id .nil)) zo Try.call65 (order_c x1 x2) (.inl rfl)) ?_))))))))
      rintro _ _ ⟨_, ⟨rfl, rfl⟩, rfl⟩
      refine OpsD.norm [.bx g4 33 (Lbl.d x2), .bx g2 33 (Lbl.d x1)] rfl (za rfl rfl (ze rfl) (zg rfl (zf (zh _ _ rfl rfl rfl (zc rfl (za rfl rfl (zb rfl) (za rfl rfl (zbh rfl rfl rfl) (zg rfl (zf ?_)))))))))
      refine zu _ _ rfl rfl rfl rfl (fun hc5 => ?_) (fun hc5 => ?_)
      · replace hc5 := of_decide_eq_true hc5
        refine zh _ _ rfl rfl rfl (zc rfl (za rfl rfl (zb rfl) (za rfl rfl (ze rfl) (zg rfl (zf (zB rfl (zn (zp (zZ (zn (zp ?_)))))))))))
        exact zx Try.results64 (.cons (zM (zs rfl) (Cv.eq (congrArg (fun n => D.v (.int .i64 n)) (by exact (cmpLs_at hx1 hx2 hf (by assumption)).symm)))) .nil) rfl HSub.none ⟨rfl, rfl⟩
      · replace hc5 := of_decide_eq_false hc5
        refine zz rfl (zD (zf (zc rfl (za rfl rfl (z8 (c := ((k + 1 : Nat) : Int)) rfl rfl (zT (by omega) (by omega))) (za rfl rfl (zb rfl) (zg rfl ?_))))))
        exact zS (k + 1) ⟨sk rfl, sk rfl, sk rfl, sk rfl, sk rfl, sk rfl, trivial⟩ HSub.none ⟨by omega, cmpLs_next hx1 hx2 hf (by omega)⟩ (by omega)
  · replace hc1 := of_decide_eq_false hc1
    refine z3 rfl (zK (zI (zE (zf (zh _ _ rfl rfl rfl (zh _ _ rfl rfl rfl (zc rfl (za rfl rfl (zb rfl) (za rfl rfl (zar (n := a.length) rfl Try.runUnderlying27 (by simp only [lm, lc, ln])) (za rfl rfl (zb rfl) (za rfl rfl (zar (n := b.length) rfl Try.runUnderlying27 (by simp only [lm, lc, ln])) (za rfl rfl (zaa rfl rfl rfl) (zg rfl (zf (JD.keep [38] [(38, dB (decide (((a.length : Nat) : Int) < ((b.length : Nat) : Int))))] rfl ?_)))))))))))))))
    refine zu _ _ rfl rfl rfl rfl (fun hc6 => ?_) (fun hc6 => ?_)
    · replace hc6 := of_decide_eq_true hc6
      refine zh _ _ rfl rfl rfl (zc rfl (za rfl rfl (ze rfl) (zg rfl (zf (zB rfl (zp ?_))))))
      exact zx Try.results64 (.cons (zM (zs rfl) (Cv.eq (congrArg (fun n => D.v (.int .i64 n)) (by rw [cmpLs_end (by omega) hf (by omega)]; first | rw [if_pos (by omega)] | rw [if_neg (by omega)])))) .nil) rfl HSub.none ⟨rfl, rfl⟩
    · replace hc6 := of_decide_eq_false hc6
      refine zz rfl (zf (zh _ _ rfl rfl rfl (zc rfl (za rfl rfl (ze rfl) (zg rfl (zf (zB rfl ?_)))))))
      exact zx Try.results64 (.cons (zM (zs rfl) (Cv.eq (congrArg (fun n => D.v (.int .i64 n)) (by rw [cmpLs_end (by omega) hf (by omega)]; first | rw [if_pos (by omega)] | rw [if_neg (by omega)])))) .nil) rfl HSub.none ⟨rfl, rfl⟩

set_option maxHeartbeats 4000000 in
set_option maxRecDepth 100000 in
theorem Compare2_c (a : List Lbl) (b : List Lbl)  :
    CD Try.prog 48 [] [.sh 2 (a.map Lbl.d), .sh 2 (b.map Lbl.d)] (isR (dI (z2 a b))) := by
  refine zL Try.func48 rfl (N := 8) rfl rfl (fun C => ?_)
  refine JD.keep [0, 1] [(0, .sh 2 (a.map Lbl.d)), (1, .sh 2 (b.map Lbl.d))] rfl ?_
  refine JD.bd 0 rfl (fun bd0 => ?_)
  have nl0 := zae bd0
  refine JD.bd 1 rfl (fun bd1 => ?_)
  have nl1 := zae bd1
  refine zh _ _ rfl rfl rfl (zc rfl (za rfl rfl (ze rfl) (zg rfl (zf (zh _ _ rfl rfl rfl (zc rfl (za rfl rfl (zb rfl) (za rfl rfl (zb rfl) (zl rfl rfl (zt [] _ [] rfl rfl (.cons ArgC.id (.cons ArgC.id (.cons ArgC.id .nil))) zo Try.call64 (CompareFunc_c a b) (.inl rfl)) ?_)))))))))
  rintro _ _ ⟨_, ⟨rfl, rfl⟩, rfl⟩
  refine OpsD.norm [] rfl (za rfl rfl (ze rfl) (zg rfl (zf (zB rfl ?_))))
  exact zx Try.results48 (.cons (zs rfl) .nil) rfl HSub.none ⟨rfl, rfl⟩

set_option maxHeartbeats 4000000 in
set_option maxRecDepth 100000 in
theorem texts_c (a : ByteArray) (b : ByteArray)  :
    CD Try.prog 66 [] [.s a, .s b] (isR (dI (cmpS a b))) := by
  refine zL Try.func66 rfl (N := 13) rfl rfl (fun C => ?_)
  refine JD.keep [0, 1] [(0, .s a), (1, .s b)] rfl ?_
  refine JD.bd 0 rfl (fun bd0 => ?_)
  have sz0 : a.size ≤ 9223372036854775807 := bd0
  refine JD.bd 1 rfl (fun bd1 => ?_)
  have sz1 : b.size ≤ 9223372036854775807 := bd1
  refine zh _ _ rfl rfl rfl (zc rfl (za rfl rfl (ze rfl) (zg rfl (zf (zh _ _ rfl rfl rfl (zy _ rfl rfl (zh _ _ rfl rfl rfl (zc rfl (za rfl rfl (zb rfl) (za rfl rfl (zb rfl) (za rfl rfl (p_lts rfl rfl rfl) (za rfl rfl (ze rfl) (zg rfl (zf ?_))))))))))))))
  refine zu _ _ rfl rfl rfl rfl (fun hc1 => ?_) (fun hc1 => ?_)
  · replace hc1 := of_decide_eq_true hc1
    refine zh _ _ rfl rfl rfl (zc rfl (za rfl rfl (ze rfl) (zg rfl (zf (zB rfl (zn (zp ?_)))))))
    exact zx Try.results66 (.cons (zM (zs rfl) (Cv.eq (congrArg (fun n => D.v (.int .i64 n)) (by rcases cmpS_cases a b with h | h | h <;> rw [h] <;> omega)))) .nil) rfl HSub.none ⟨rfl, rfl⟩
  · replace hc1 := of_decide_eq_false hc1
    refine zh _ _ rfl rfl rfl (zc rfl (za rfl rfl (zb rfl) (za rfl rfl (zb rfl) (za rfl rfl (p_gts rfl rfl rfl) (za rfl rfl (ze rfl) (zg rfl (zf (JD.keep [4, 9] [(4, dI 0), (9, dB (decide (0 < cmpS a b)))] rfl ?_))))))))
    refine zu _ _ rfl rfl rfl rfl (fun hc2 => ?_) (fun hc2 => ?_)
    · replace hc2 := of_decide_eq_true hc2
      refine zh _ _ rfl rfl rfl (zc rfl (za rfl rfl (ze rfl) (zg rfl (zf (zB rfl (zn (zp ?_)))))))
      exact zx Try.results66 (.cons (zM (zs rfl) (Cv.eq (congrArg (fun n => D.v (.int .i64 n)) (by rcases cmpS_cases a b with h | h | h <;> rw [h] <;> omega)))) .nil) rfl HSub.none ⟨rfl, rfl⟩
    · replace hc2 := of_decide_eq_false hc2
      refine zz rfl (zD (zf (zh _ _ rfl rfl rfl (zc rfl (za rfl rfl (ze rfl) (zg rfl (zf (zB rfl ?_))))))))
      exact zx Try.results66 (.cons (zM (zs rfl) (Cv.eq (congrArg (fun n => D.v (.int .i64 n)) (by rcases cmpS_cases a b with h | h | h <;> rw [h] <;> omega)))) .nil) rfl HSub.none ⟨rfl, rfl⟩

set_option maxHeartbeats 4000000 in
set_option maxRecDepth 100000 in
theorem refCompare_c (a : List Lbl) (b : List Lbl)  :
    CD Try.prog 51 [] [.sh 2 (a.map Lbl.d), .sh 2 (b.map Lbl.d)] (isR (dI (z2 a b))) := by
  refine zL Try.func51 rfl (N := 58) rfl rfl (fun C => ?_)
  refine JD.keep [0, 1] [(0, .sh 2 (a.map Lbl.d)), (1, .sh 2 (b.map Lbl.d))] rfl ?_
  refine JD.bd 0 rfl (fun bd0 => ?_)
  have nl0 := zae bd0
  refine JD.bd 1 rfl (fun bd1 => ?_)
  have nl1 := zae bd1
  refine zh _ _ rfl rfl rfl (zc rfl (za rfl rfl (ze rfl) (zg rfl (zf (zh _ _ rfl rfl rfl (zh _ _ rfl rfl rfl (zc rfl (za rfl rfl (ze rfl) (zg rfl (zf (zy _ rfl rfl (z7 (fun (g : Nat) => [(0, .sh 2 (a.map Lbl.d)), (1, .sh 2 (b.map Lbl.d)), (5, dN g)]) (fun (g : Nat) => []) (fun (g : Nat) => (g ≤ a.length) ∧ (g ≤ b.length) ∧ (z2 a b = z2 (a.drop g) (b.drop g))) (fun (g : Nat) => a.length - g) _ 0 rfl rfl ⟨sk rfl, sk rfl, sk rfl, trivial⟩ HSub.rfl' ⟨Nat.zero_le _, Nat.zero_le _, by simp⟩ ?_))))))))))))
  rintro k ⟨hk, hk2, hf⟩
  refine JD.keep [0, 1, 5] [(0, .sh 2 (a.map Lbl.d)), (1, .sh 2 (b.map Lbl.d)), (5, dN k)] rfl (JD.norm [] rfl (zh _ _ rfl rfl rfl (zh _ _ rfl rfl rfl (JD.keep [0, 1, 5] [(0, .sh 2 (a.map Lbl.d)), (1, .sh 2 (b.map Lbl.d)), (5, dN k)] rfl ?_))))
  refine zaj 16 ((decide (((k : Nat) : Int) < ((a.length : Nat) : Int)) && decide (((k : Nat) : Int) < ((b.length : Nat) : Int)))) [] (fun _ hQ1 => ?_) ?_
  · skip
    by_cases hg2 : ((k : Nat) : Int) < ((a.length : Nat) : Int)
    · skip
      refine zc rfl (za rfl rfl (zb rfl) (za rfl rfl (zb rfl) (za rfl rfl (zar (n := a.length) rfl Try.runUnderlying27 (by simp only [lm, lc, ln])) (za rfl rfl (zaa rfl rfl (decide_eq_true hg2)) (za rfl rfl (zb rfl) (zi rfl rfl rfl rfl rfl (zb rfl) (zi rfl rfl rfl rfl rfl (zb rfl) (zi rfl rfl rfl rfl rfl (zar (n := b.length) rfl Try.runUnderlying27 (by simp only [lm, lc, ln])) (zi rfl rfl rfl rfl rfl (zaa rfl rfl rfl) (za rfl rfl (zr rfl rfl) (zg rfl ?_)))))))))))
      exact PD.sub ((16, dB (decide (((k : Nat) : Int) < ((a.length : Nat) : Int)) && decide (((k : Nat) : Int) < ((b.length : Nat) : Int)))) :: [(0, .sh 2 (a.map Lbl.d)), (1, .sh 2 (b.map Lbl.d)), (5, dN k)]) ⟨sc rfl (Cv.eq (congrArg (fun b => D.v (.bool b)) (by first | (simp [hg2]; done) | (simp_all; done)))), sk rfl, sk rfl, sk rfl, trivial⟩ hQ1
    · skip
      refine zc rfl (za rfl rfl (zb rfl) (za rfl rfl (zb rfl) (za rfl rfl (zar (n := a.length) rfl Try.runUnderlying27 (by simp only [lm, lc, ln])) (za rfl rfl (zaa rfl rfl (decide_eq_false hg2)) (za rfl rfl (zb rfl) (zj rfl rfl rfl rfl rfl (by decide) (zj rfl rfl rfl rfl rfl (by decide) (zj rfl rfl rfl rfl rfl (by decide) (zj rfl rfl rfl rfl rfl (by decide) (za rfl rfl (zm rfl rfl) (zg rfl ?_)))))))))))
      exact PD.sub ((16, dB (decide (((k : Nat) : Int) < ((a.length : Nat) : Int)) && decide (((k : Nat) : Int) < ((b.length : Nat) : Int)))) :: [(0, .sh 2 (a.map Lbl.d)), (1, .sh 2 (b.map Lbl.d)), (5, dN k)]) ⟨sc rfl (Cv.eq (congrArg (fun b => D.v (.bool b)) (by first | (simp [hg2]; done) | (simp_all; done)))), sk rfl, sk rfl, sk rfl, trivial⟩ hQ1
  · skip
    refine zf ?_
    refine zu _ _ rfl rfl rfl rfl (fun hc3 => ?_) (fun hc3 => ?_)
    · simp only [Bool.and_eq_true, Bool.or_eq_true, Bool.not_eq_true', Bool.not_eq_false', Bool.and_eq_false_iff, Bool.or_eq_false_iff, decide_eq_true_eq, decide_eq_false_iff_not, Decidable.not_not, ne_eq] at hc3
      refine zz rfl (zf (zh _ _ rfl rfl rfl (zy _ rfl rfl (zh _ _ rfl rfl rfl (JD.keep [0, 1, 5, 16] [(0, .sh 2 (a.map Lbl.d)), (1, .sh 2 (b.map Lbl.d)), (5, dN k), (16, dB (decide (((k : Nat) : Int) < ((a.length : Nat) : Int)) && decide (((k : Nat) : Int) < ((b.length : Nat) : Int))))] rfl (JD.norm [] rfl ?_))))))
      obtain ⟨x1, hx1⟩ := zV a k (by omega)
      obtain ⟨x2, hx2⟩ := zV b k (by omega)
      refine zai 10 [(19, .sh 2 (a.map Lbl.d), none), (20, dN k, none), (21, .el (Lbl.d x1) 0, none), (22, .el (Lbl.d x1) 0, none), (23, .s x1.n, none), (24, .sh 2 (b.map Lbl.d), none), (25, dN k, none), (26, .el (Lbl.d x2) 0, none), (27, .el (Lbl.d x2) 0, none), (28, .s x2.n, none)] [] (Hn := []) zaz rfl rfl rfl rfl HSub.rfl' rfl ⟨sa_p rfl rfl rfl (zb rfl), sa_p rfl rfl rfl (zb rfl), sa_p rfl rfl rfl (zJ (k := k) rfl rfl Try.runUnderlying27 Try.sizeOf33 (by first | rfl | omega) (zw hx1)), sa_p rfl rfl rfl (zU rfl zav rfl), sa_p rfl rfl rfl (z0 rfl Try.isAgg9 rfl), sa_p rfl rfl rfl (zb rfl), sa_p rfl rfl rfl (zb rfl), sa_p rfl rfl rfl (zJ (k := k) rfl rfl Try.runUnderlying27 Try.sizeOf33 (by first | rfl | omega) (zw hx2)), sa_p rfl rfl rfl (zU rfl zav rfl), sa_p rfl rfl rfl (z0 rfl Try.isAgg9 rfl), trivial⟩ ?_
      refine OpsD.keep [0, 1, 5, 16, 19, 20, 21, 22, 23, 24, 25, 26, 27, 28] [(0, .sh 2 (a.map Lbl.d)), (1, .sh 2 (b.map Lbl.d)), (5, dN k), (16, dB (decide (((k : Nat) : Int) < ((a.length : Nat) : Int)) && decide (((k : Nat) : Int) < ((b.length : Nat) : Int)))), (19, .sh 2 (a.map Lbl.d)), (20, dN k), (21, .el (Lbl.d x1) 0), (22, .el (Lbl.d x1) 0), (23, .s x1.n), (24, .sh 2 (b.map Lbl.d)), (25, dN k), (26, .el (Lbl.d x2) 0), (27, .el (Lbl.d x2) 0), (28, .s x2.n)] rfl (zl rfl rfl (zt [] _ [] rfl rfl (.cons ArgC.id (.cons ArgC.id .nil)) zo Try.call66 (texts_c x1.n x2.n) (.inl rfl)) ?_)
      rintro _ _ ⟨_, ⟨rfl, rfl⟩, rfl⟩
      refine OpsD.norm [] rfl (za rfl rfl (ze rfl) (zg rfl (zf (zh _ _ rfl rfl rfl (zh _ _ rfl rfl rfl (zc rfl (za rfl rfl (zb rfl) (za rfl rfl (zY rfl rfl rfl) (zg rfl (zf ?_))))))))))
      refine zu _ _ rfl rfl rfl rfl (fun hc4 => ?_) (fun hc4 => ?_)
      · replace hc4 := of_decide_eq_true hc4
        refine JD.keep [0, 1, 5, 6, 16, 19, 20, 21, 22, 23, 24, 25, 26, 27, 28, 29, 30, 31] [(0, .sh 2 (a.map Lbl.d)), (1, .sh 2 (b.map Lbl.d)), (5, dN k), (6, dI (cmpS x1.n x2.n)), (16, dB (decide (((k : Nat) : Int) < ((a.length : Nat) : Int)) && decide (((k : Nat) : Int) < ((b.length : Nat) : Int)))), (19, .sh 2 (a.map Lbl.d)), (20, dN k), (21, .el (Lbl.d x1) 0), (22, .el (Lbl.d x1) 0), (23, .s x1.n), (24, .sh 2 (b.map Lbl.d)), (25, dN k), (26, .el (Lbl.d x2) 0), (27, .el (Lbl.d x2) 0), (28, .s x2.n), (29, dI (cmpS x1.n x2.n)), (30, dI (cmpS x1.n x2.n)), (31, dB (decide (cmpS x1.n x2.n = (0 : Int))))] rfl (JD.norm [] rfl ?_)
        refine zai 10 [(32, .sh 2 (a.map Lbl.d), none), (33, dN k, none), (34, .el (Lbl.d x1) 0, none), (35, .el (Lbl.d x1) 1, none), (36, .s x1.v, none), (37, .sh 2 (b.map Lbl.d), none), (38, dN k, none), (39, .el (Lbl.d x2) 0, none), (40, .el (Lbl.d x2) 1, none), (41, .s x2.v, none)] [] (Hn := []) zaz rfl rfl rfl rfl HSub.rfl' rfl ⟨sa_p rfl rfl rfl (zb rfl), sa_p rfl rfl rfl (zb rfl), sa_p rfl rfl rfl (zJ (k := k) rfl rfl Try.runUnderlying27 Try.sizeOf33 (by first | rfl | omega) (zw hx1)), sa_p rfl rfl rfl (zU rfl zaZ rfl), sa_p rfl rfl rfl (z0 rfl Try.isAgg9 rfl), sa_p rfl rfl rfl (zb rfl), sa_p rfl rfl rfl (zb rfl), sa_p rfl rfl rfl (zJ (k := k) rfl rfl Try.runUnderlying27 Try.sizeOf33 (by first | rfl | omega) (zw hx2)), sa_p rfl rfl rfl (zU rfl zaZ rfl), sa_p rfl rfl rfl (z0 rfl Try.isAgg9 rfl), trivial⟩ ?_
        refine OpsD.keep [0, 1, 5, 6, 16, 19, 20, 21, 22, 23, 24, 25, 26, 27, 28, 29, 30, 31, 32, 33, 34, 35, 36, 37, 38, 39, 40, 41] [(0, .sh 2 (a.map Lbl.d)), (1, .sh 2 (b.map Lbl.d)), (5, dN k), (6, dI (cmpS x1.n x2.n)), (16, dB (decide (((k : Nat) : Int) < ((a.length : Nat) : Int)) && decide (((k : Nat) : Int) < ((b.length : Nat) : Int)))), (19, .sh 2 (a.map Lbl.d)), (20, dN k), (21, .el (Lbl.d x1) 0), (22, .el (Lbl.d x1) 0), (23, .s x1.n), (24, .sh 2 (b.map Lbl.d)), (25, dN k), (26, .el (Lbl.d x2) 0), (27, .el (Lbl.d x2) 0), (28, .s x2.n), (29, dI (cmpS x1.n x2.n)), (30, dI (cmpS x1.n x2.n)), (31, dB (decide (cmpS x1.n x2.n = (0 : Int)))), (32, .sh 2 (a.map Lbl.d)), (33, dN k), (34, .el (Lbl.d x1) 0), (35, .el (Lbl.d x1) 1), (36, .s x1.v), (37, .sh 2 (b.map Lbl.d)), (38, dN k), (39, .el (Lbl.d x2) 0), (40, .el (Lbl.d x2) 1), (41, .s x2.v)] rfl (zl rfl rfl (zt [] _ [] rfl rfl (.cons ArgC.id (.cons ArgC.id .nil)) zo Try.call66 (texts_c x1.v x2.v) (.inl rfl)) ?_)
        rintro _ _ ⟨_, ⟨rfl, rfl⟩, rfl⟩
        refine OpsD.norm [] rfl (za rfl rfl (ze rfl) (zg rfl (zf (zh _ _ rfl rfl rfl (zc rfl (za rfl rfl (zb rfl) (za rfl rfl (zbh rfl rfl rfl) (zg rfl (zf ?_)))))))))
        refine zu _ _ rfl rfl rfl rfl (fun hc5 => ?_) (fun hc5 => ?_)
        · replace hc5 := of_decide_eq_true hc5
          refine zh _ _ rfl rfl rfl (zc rfl (za rfl rfl (zb rfl) (za rfl rfl (ze rfl) (zg rfl (zf (zB rfl (zn (zp (zZ (zn (zp ?_)))))))))))
          exact zx Try.results51 (.cons (zM (zs rfl) (Cv.eq (congrArg (fun n => D.v (.int .i64 n)) (by rw [cmpLs_at hx1 hx2 hf (by unfold zG or2; split <;> omega)]; unfold zG or2; first | rw [if_pos (by omega)] | rw [if_neg (by omega)])))) .nil) rfl HSub.none ⟨rfl, rfl⟩
        · replace hc5 := of_decide_eq_false hc5
          refine zz rfl (zD (zf (zc rfl (za rfl rfl (zb rfl) (za rfl rfl (z8 (c := ((k + 1 : Nat) : Int)) rfl rfl (zT (by omega) (by omega))) (za rfl rfl (ze rfl) (zg rfl ?_)))))))
          exact zS (k + 1) ⟨sk rfl, sk rfl, sk rfl, trivial⟩ HSub.rfl' ⟨by omega, by omega, cmpLs_next hx1 hx2 hf (by unfold zG or2; split <;> omega)⟩ (by omega)
      · replace hc4 := of_decide_eq_false hc4
        refine zz rfl (zf (zh _ _ rfl rfl rfl (zc rfl (za rfl rfl (zb rfl) (za rfl rfl (zbh rfl rfl rfl) (zg rfl (zf ?_)))))))
        refine zu _ _ rfl rfl rfl rfl (fun hc6 => ?_) (fun hc6 => ?_)
        · replace hc6 := of_decide_eq_true hc6
          refine zh _ _ rfl rfl rfl (zc rfl (za rfl rfl (zb rfl) (za rfl rfl (ze rfl) (zg rfl (zf (zB rfl (zn (zp (zZ (zn (zp ?_)))))))))))
          exact zx Try.results51 (.cons (zM (zs rfl) (Cv.eq (congrArg (fun n => D.v (.int .i64 n)) (by rw [cmpLs_at hx1 hx2 hf (by unfold zG or2; split <;> omega)]; unfold zG or2; first | rw [if_pos (by omega)] | rw [if_neg (by omega)])))) .nil) rfl HSub.none ⟨rfl, rfl⟩
        · replace hc6 := of_decide_eq_false hc6
          refine zz rfl (zD (zf (zc rfl (za rfl rfl (zb rfl) (za rfl rfl (z8 (c := ((k + 1 : Nat) : Int)) rfl rfl (zT (by omega) (by omega))) (za rfl rfl (ze rfl) (zg rfl ?_)))))))
          exact zS (k + 1) ⟨sk rfl, sk rfl, sk rfl, trivial⟩ HSub.rfl' ⟨by omega, by omega, cmpLs_next hx1 hx2 hf (by unfold zG or2; split <;> omega)⟩ (by omega)
    · simp only [Bool.and_eq_true, Bool.or_eq_true, Bool.not_eq_true', Bool.not_eq_false', Bool.and_eq_false_iff, Bool.or_eq_false_iff, decide_eq_true_eq, decide_eq_false_iff_not, Decidable.not_not, ne_eq] at hc3
      refine z3 rfl (zK (zI (zE (zf (zh _ _ rfl rfl rfl (zy _ rfl rfl (zh _ _ rfl rfl rfl (zc rfl (za rfl rfl (zb rfl) (za rfl rfl (zar (n := a.length) rfl Try.runUnderlying27 (by simp only [lm, lc, ln])) (za rfl rfl (zb rfl) (za rfl rfl (zar (n := b.length) rfl Try.runUnderlying27 (by simp only [lm, lc, ln])) (za rfl rfl (zaa rfl rfl rfl) (za rfl rfl (ze rfl) (zg rfl (zf ?_))))))))))))))))
      refine zu _ _ rfl rfl rfl rfl (fun hc7 => ?_) (fun hc7 => ?_)
      · replace hc7 := of_decide_eq_true hc7
        refine zh _ _ rfl rfl rfl (zc rfl (za rfl rfl (ze rfl) (zg rfl (zf (JD.keep [4] [(4, dI (-1))] rfl (zB rfl (zn (zp ?_))))))))
        exact zx Try.results51 (.cons (zM (zs rfl) (Cv.eq (congrArg (fun n => D.v (.int .i64 n)) (by rw [hf]; first | rw [cmpLs_nil (by omega) (by omega) (by omega)] | rw [cmpLs_nil_l (by omega) (by omega)] | rw [cmpLs_nil_r (by omega) (by omega)])))) .nil) rfl HSub.none ⟨rfl, rfl⟩
      · replace hc7 := of_decide_eq_false hc7
        refine zh _ _ rfl rfl rfl (zc rfl (za rfl rfl (zb rfl) (za rfl rfl (zar (n := a.length) rfl Try.runUnderlying27 (by simp only [lm, lc, ln])) (za rfl rfl (zb rfl) (za rfl rfl (zar (n := b.length) rfl Try.runUnderlying27 (by simp only [lm, lc, ln])) (za rfl rfl (zaM rfl rfl rfl) (za rfl rfl (ze rfl) (zg rfl (zf (JD.keep [52] [(52, dB (decide (((b.length : Nat) : Int) < ((a.length : Nat) : Int))))] rfl ?_))))))))))
        refine zu _ _ rfl rfl rfl rfl (fun hc8 => ?_) (fun hc8 => ?_)
        · replace hc8 := of_decide_eq_true hc8
          refine zh _ _ rfl rfl rfl (zc rfl (za rfl rfl (ze rfl) (zg rfl (zf (zB rfl (zn (zp ?_)))))))
          exact zx Try.results51 (.cons (zM (zs rfl) (Cv.eq (congrArg (fun n => D.v (.int .i64 n)) (by rw [hf]; first | rw [cmpLs_nil (by omega) (by omega) (by omega)] | rw [cmpLs_nil_l (by omega) (by omega)] | rw [cmpLs_nil_r (by omega) (by omega)])))) .nil) rfl HSub.none ⟨rfl, rfl⟩
        · replace hc8 := of_decide_eq_false hc8
          refine zz rfl (zD (zf (zh _ _ rfl rfl rfl (zc rfl (za rfl rfl (ze rfl) (zg rfl (zf (zB rfl ?_))))))))
          exact zx Try.results51 (.cons (zM (zs rfl) (Cv.eq (congrArg (fun n => D.v (.int .i64 n)) (by rw [hf]; first | rw [cmpLs_nil (by omega) (by omega) (by omega)] | rw [cmpLs_nil_l (by omega) (by omega)] | rw [cmpLs_nil_r (by omega) (by omega)])))) .nil) rfl HSub.none ⟨rfl, rfl⟩
end Lp
