/-
  BYTES: rows of bytes, texts appended to them; a strings.Builder.
-/
import Derived.Lib.AppendStr
import Derived.Lib.UnsafeStr
import Derived.Test.YtfjinapgehafiaaGreatV1
set_option linter.unusedVariables false
namespace Lp
open Go Go.RowKit
open Go.Lib (strCells strCells_eq byteCells byteCells_length run_append_own_string)

section
variable {P : Program} {ty : TypeId} {K : Kd} {H : List Hp}
/-! ### a range over a text -/
theorem ef_range {x : Operand} {t : TypeId} {s : ByteArray} (hx : opS K x = some s) (ht : ∀ w, (underlying t).run P w = .ok .string w) : Ef P (.range t x) ty K H (fun d H' => ∃ g, d = .v (.pointer (some ⟨g, 0, none⟩)) ∧ H' = .it g s 0 :: H) :=
  ⟨fun C ρ w F hk gd => by
    have e := hk.opS hx
    refine EOp.of_run (v := .pointer (some ⟨w.heap.size, 0, none⟩)) (w' := w.alloc (.stringIter s 0)) (by simp [execOp, zah, e, Instr.range, ht]) ?_
    have E := Ext.alloc w (.stringIter s 0)
    have g' := gd.ext E
    refine ⟨F, _, _, ⟨w.heap.size, rfl, rfl⟩, rfl, g'.more (heap_alloc_new w _) (fun b hb => ?_), Keep.ext E⟩
    cases hb
    exact ⟨gd.size, fun hF => by have := gd.flt _ hF; omega, fun hB => by have := zcQ gd.h hB; omega⟩⟩
def decR (s : ByteArray) (p : Nat) : Nat := (Utf8.decode s p).1
def decW (s : ByteArray) (p : Nat) : Nat := (Utf8.decode s p).2
theorem ef_next_t {x : Operand} {s : ByteArray} {g p i : Nat} (hx : opD K x = some (.v (.pointer (some ⟨g, 0, none⟩)))) (hm : nth H i = some (.it g s p)) (hp : p < s.size) :
    Ef P (.next x true) ty K H (fun d H' => d = .tup [.v (.bool true), .v (.int .i64 (p : Int)), .v (.int .i32 (decR s p : Int))] ∧ H' = H.set i (.it g s (p + decW s p))) :=
  ⟨fun C ρ w F hk gd => by
    have e : ev ρ x = _ := hk.op hx
    have hb : w.heap[g]? = some (.stringIter s p) := gd.h.ok _ (zY hm)
    have hlt := (Array.getElem?_eq_some_iff.1 hb).1
    refine EOp.of_run (v := .tuple #[.bool true, .int .i64 (p : Int), .int .i32 (decR s p : Int)]) (w' := { w with heap := w.heap.setIfInBounds g (.stringIter s (p + decW s p)) }) ?_ ?_
    · simp [execOp, zah, e, Instr.next, getObj, setObj, Sem.run, hb, hp, decR, decW, goInt]
    have := gd.turn (h' := .it g s (p + decW s p)) (w' := { w with heap := w.heap.setIfInBounds g (.stringIter s (p + decW s p)) }) hm (fun b _ hn => by
        have : ¬ g = b := hn
        simp only [Array.getElem?_setIfInBounds]; rw [if_neg this]) (by simp) rfl rfl rfl (fun b hb => .inl hb) (fun _ => by
        show _ = _
        simp only [Array.getElem?_setIfInBounds, if_true, hlt])
    exact ⟨F, _, _, ⟨rfl, rfl⟩, ⟨_, rfl, _, _, rfl, rfl, _, _, rfl, rfl, _, _, rfl, rfl, rfl⟩, this.1, this.2⟩⟩
theorem p_next_f {x : Operand} {s : ByteArray} {g p i : Nat} (hx : opD K x = some (.v (.pointer (some ⟨g, 0, none⟩)))) (hm : nth H i = some (.it g s p)) (hp : s.size ≤ p) : Pu P (.next x true) ty K H (.tup [.v (.bool false)]) :=
  ⟨fun ρ w F hk _ hH => by
    have e : ev ρ x = _ := hk.op hx
    have hb : w.heap[g]? = some (.stringIter s p) := hH _ (zY hm)
    refine EOp.of_run (v := .tuple #[.bool false]) (w' := w) ?_ ⟨rfl, _, rfl, _, _, rfl, rfl, rfl⟩
    simp [execOp, zah, e, Instr.next, getObj, Sem.run, hb, show ¬ p < s.size by omega]⟩
theorem zcc (s : ByteArray) (p : Nat) : 1 ≤ decW s p := by
  unfold decW Utf8.decode
  simp only
  (repeat' split) <;> simp
theorem decW_le (s : ByteArray) (p : Nat) (h : p < s.size) : p + decW s p ≤ s.size := by
  unfold decW Utf8.decode
  simp only [Bool.and_eq_true, decide_eq_true_eq]
  (repeat' split) <;> simp <;> omega
/-- the zaG of a text, from a place on -/
def zbJ (s : ByteArray) (p : Nat) : List Int := if h : p < s.size then (decR s p : Int) :: zbJ s (p + decW s p) else []
termination_by s.size - p
decreasing_by have := zcc s p; omega
theorem runesAt_lt {s : ByteArray} {p : Nat} (h : p < s.size) : zbJ s p = (decR s p : Int) :: zbJ s (p + decW s p) := by
  conv => lhs; unfold zbJ
  rw [dif_pos h]
theorem runesAt_ge {s : ByteArray} {p : Nat} (h : s.size ≤ p) : zbJ s p = [] := by
  unfold zbJ; rw [dif_neg (by omega)]
def zaG (s : ByteArray) : List Int := zbJ s 0
theorem decR_lt (s : ByteArray) (p : Nat) : decR s p < 1114112 := by
  unfold decR Utf8.decode
  simp only [Bool.and_eq_true, decide_eq_true_eq]
  have hv : ∀ c, Utf8.valid c = true → c < 1114112 := by
    intro c; unfold Utf8.valid; simp; intros; omega
  (repeat' split)
  all_goals first
    | (simp only [Utf8.runeError]; omega)
    | (simp only; omega)
    | (rename_i h; have := hv _ h.2; simp only; omega)
end
end Lp
/-
  Merging lists of rows, as plain data: which list's head comes first; what a merge is; the tree of a tournament.
-/
set_option linter.unusedVariables false
namespace Lp
open Go

def hd (ll : LLs) (k : Nat) : Option RowD := (ll[k]?).bind List.head?
/-! ### less is an order -/
theorem or2_neg {a b : Int} : or2 (-a) (-b) = - or2 a b := by unfold or2; split <;> split <;> omega
theorem cmpI_neg (a b : Int) : cmpI b a = - cmpI a b := by unfold cmpI; split <;> split <;> (try split) <;> omega
theorem cmpLbl_neg (a b : Lbl) : zC b a = - zC a b := by unfold zC; rw [zcA a.n, zcA a.v, or2_neg]
theorem zcf : ∀ a b : List Lbl, zG b a = - zG a b
  | [], [] => rfl
  | [], _ :: _ => rfl
  | _ :: _, [] => rfl
  | a :: r, b :: s => by
    unfold zG
    rw [cmpLbl_neg a b, zcf r s]
    split <;> split <;> omega
theorem cmpRow_neg (o : Int) (a b : RowD) : zE o b a = - zE o a b := by
  unfold zE
  rw [zcf a.ls b.ls]
  split
  · rw [cmpI_neg a.v b.v, or2_neg]
  · split
    · rw [cmpI_neg b.v a.v, or2_neg]
    · rfl
/-- Three that are compared: a sign is handed on. -/
structure Tr (c : Int) (d : Int) (e : Int) : Prop where
  le : c ≤ 0 → d ≤ 0 → e ≤ 0
  lt1 : c < 0 → d ≤ 0 → e < 0
  lt2 : c ≤ 0 → d < 0 → e < 0
  e1 : c = 0 → e = d
  e2 : d = 0 → e = c
theorem cmpS_tr (a b c : ByteArray) : Tr (cmpS a b) (cmpS b c) (cmpS a c) := by
  have n1 := zcA a b
  have n2 := zcA b c
  have t := cmpS_trans a b c
  refine ⟨t, fun h1 h2 => ?_, fun h1 h2 => ?_, fun h => ?_, fun h => ?_⟩
  · have := t (by omega) h2
    rcases Int.lt_or_eq_of_le this with h | h
    · exact h
    · rw [zbq] at h; subst h; omega
  · have := t h1 (by omega)
    rcases Int.lt_or_eq_of_le this with h | h
    · exact h
    · rw [zbq] at h; subst h; omega
  · rw [zbq] at h; rw [h]
  · rw [zbq] at h; rw [h]
theorem cmpI_tr (a b c : Int) : Tr (cmpI a b) (cmpI b c) (cmpI a c) := by
  unfold cmpI
  refine ⟨?_, ?_, ?_, ?_, ?_⟩ <;> (repeat' split) <;> omega
theorem or2_tr {a b c d e f : Int} (h : Tr a b c) (h' : Tr d e f) : Tr (or2 a d) (or2 b e) (or2 c f) := by
  obtain ⟨h1, h2, h3, h4, h5⟩ := h
  obtain ⟨k1, k2, k3, k4, k5⟩ := h'
  unfold or2
  by_cases ha : a = 0
  · have hc := h4 ha
    subst hc
    rw [if_neg (by omega)]
    by_cases hb : c = 0
    · rw [if_neg (by omega), if_neg (by omega)]; exact ⟨k1, k2, k3, k4, k5⟩
    · rw [if_pos hb, if_pos hb]
      exact ⟨fun _ h => h, fun _ h => by omega, fun _ h => h, fun _ => rfl, fun h => by omega⟩
  · by_cases hb : b = 0
    · have hc := h5 hb
      subst hc
      rw [if_pos ha, if_neg (by omega), if_pos ha]
      exact ⟨fun h _ => h, fun h _ => h, fun h _ => by omega, fun h => by omega, fun _ => rfl⟩
    · rw [if_pos ha, if_pos hb]
      have : a ≤ 0 → b ≤ 0 → c < 0 := fun p q => h2 (by omega) q
      refine ⟨fun p q => ?_, fun p q => ?_, fun p q => ?_, fun h => by omega, fun h => by omega⟩
      · rw [if_pos (by have := this p q; omega)]; exact h1 p q
      · have := this (by omega) q; rw [if_pos (by omega)]; exact this
      · have := this p (by omega); rw [if_pos (by omega)]; exact this
theorem cmpLbl_tr (a b c : Lbl) : Tr (zC a b) (zC b c) (zC a c) := or2_tr (cmpS_tr _ _ _) (cmpS_tr _ _ _)
theorem Tr.zero : Tr 0 0 0 := ⟨fun h _ => h, fun h _ => h, fun _ h => h, fun _ => rfl, fun _ => rfl⟩
theorem zce : ∀ a b c : List Lbl, Tr (zG a b) (zG b c) (zG a c)
  | [], [], [] => Tr.zero
  | [], [], _ :: _ => by constructor <;> (intros; simp_all [zG])
  | [], _ :: _, [] => by constructor <;> (intros; simp_all [zG])
  | _ :: _, [], [] => by constructor <;> (intros; simp_all [zG])
  | [], _ :: _, _ :: _ => by
    constructor <;> intros <;> simp_all [zG]
  | _ :: _, [], _ :: _ => by constructor <;> (intros; simp_all [zG])
  | _ :: _, _ :: _, [] => by constructor <;> (intros; simp_all [zG])
  | a :: r, b :: s, c :: t => by
    have h := cmpLbl_tr a b c
    have ih := zce r s t
    have e : ∀ x y : Lbl, ∀ p q : List Lbl, zG (x :: p) (y :: q) = or2 (zC x y) (zG p q) := by
      intro x y p q
      conv => lhs; unfold zG
      rfl
    rw [e, e, e]
    exact or2_tr h ih
theorem cmpRow_tr (o : Int) (a b c : RowD) : Tr (zE o a b) (zE o b c) (zE o a c) := by
  unfold zE
  split
  · exact or2_tr (cmpI_tr _ _ _) (zce _ _ _)
  · split
    · have := cmpI_tr c.v b.v a.v
      refine or2_tr ⟨fun h1 h2 => this.le h2 h1, fun h1 h2 => this.lt2 h2 h1, fun h1 h2 => this.lt1 h2 h1, this.e2, this.e1⟩ (zce _ _ _)
    · exact zce _ _ _

end Lp
/-
  Runes and names, as data.
-/
set_option linter.unusedVariables false
namespace Lp
open Go

def z0 (r : Int) : Int :=
  if r < 0 ∨ r = 65533 then 0 else if (97 ≤ r ∧ r ≤ 122) ∨ (65 ≤ r ∧ r ≤ 90) ∨ r = 95 ∨ 128 ≤ r then 1 else if 48 ≤ r ∧ r ≤ 57 then 2 else if r = 32 ∨ r = 9 ∨ r = 10 then 3 else 4
abbrev dR (n : Int) : D := .v (.int .i32 n)
def zbZ : Nat → List Int → Bool
  | n, [] => decide (1 ≤ n) && decide (n ≤ 30)
  | n, r :: rs => if z0 r ≠ 1 ∧ (z0 r ≠ 2 ∨ n = 0) then false else zbZ (n + 1) rs
def zbt (s : ByteArray) : Bool := zbZ 0 (zaG s)
theorem nameR_bad {n : Nat} {r : Int} {rs : List Int} (h : z0 r ≠ 1 ∧ (z0 r ≠ 2 ∨ n = 0)) : zbZ n (r :: rs) = false := by unfold zbZ; rw [if_pos h]
theorem nameR_next {n : Nat} {r : Int} {rs : List Int} (h : ¬ (z0 r ≠ 1 ∧ (z0 r ≠ 2 ∨ n = 0))) : zbZ n (r :: rs) = zbZ (n + 1) rs := by
  show (if z0 r ≠ 1 ∧ (z0 r ≠ 2 ∨ n = 0) then false else zbZ (n + 1) rs) = _
  rw [if_neg h]
/-- all are letters or digits -/
def zcm (rs : List Int) : Bool := rs.all fun r => decide (z0 r = 1 ∨ z0 r = 2)
theorem wordR_cons {r : Int} {rs : List Int} : zcm (r :: rs) = (decide (z0 r = 1 ∨ z0 r = 2) && zcm rs) := rfl
theorem nameR_word : ∀ (rs : List Int) (n : Nat), 1 ≤ n → zbZ n rs = (zcm rs && decide (n + rs.length ≤ 30))
  | [], n, h => by simp [zbZ, zcm, h]
  | r :: rs, n, h => by
    by_cases hr : z0 r = 1 ∨ z0 r = 2
    · rw [nameR_next (by omega), nameR_word rs (n + 1) (by omega), wordR_cons, decide_eq_true hr, Bool.true_and]
      congr 1; rw [decide_eq_decide, List.length_cons]; omega
    · rw [nameR_bad (by omega), wordR_cons, decide_eq_false hr]; rfl
theorem zbF (rs : List Int) : zbZ 0 rs = (decide (1 ≤ rs.length) && decide (rs.length ≤ 30) && decide (z0 (rs.getD 0 0) = 1) && zcm rs) := by
  cases rs with
  | nil => simp [zbZ]
  | cons r rs =>
    by_cases hr : z0 r = 1
    · rw [nameR_next (by omega), nameR_word rs 1 (by omega), wordR_cons, decide_eq_true (show z0 r = 1 ∨ z0 r = 2 from .inl hr), Bool.true_and, Bool.and_comm (zcm rs)]
      have e1 : decide (z0 ((r :: rs).getD 0 0) = 1) = true := decide_eq_true hr
      rw [e1, Bool.and_true]
      congr 1
      rw [Bool.eq_iff_iff]; simp [Nat.add_comm]
    · rw [nameR_bad (by omega)]
      have e1 : decide (z0 ((r :: rs).getD 0 0) = 1) = false := decide_eq_false hr
      rw [e1, Bool.and_false]; rfl
theorem wordR_take {rs : List Int} {k : Nat} {x : Int} (hx : rs[k]? = some x) (h : zcm (rs.take k) = true) (hk : z0 x = 1 ∨ z0 x = 2) : zcm (rs.take (k + 1)) = true := by
  unfold zcm at *; exact zbc hx h (by simpa using hk)
theorem wordR_bad {rs : List Int} {k : Nat} {x : Int} (hx : rs[k]? = some x) (hk : ¬ (z0 x = 1 ∨ z0 x = 2)) : zcm rs = false := by
  unfold zcm; rw [List.all_eq_false]; exact ⟨x, List.mem_of_getElem? hx, by simpa using hk⟩
end Lp
/- Walks, printed by a program of mine. -/
set_option linter.unusedSimpArgs false
set_option linter.unusedVariables false
set_option maxHeartbeats 4000000
set_option maxRecDepth 100000
namespace Lp
open Go Go.RowKit Go.Proofs

namespace HdYtfjinapgehafiaaGreatV5
theorem infz_21 : ∃ i, Tryz.prog.info? 21 = some i ∧ i.zero = some (.int .i32 0) ∧ i.size = 1 ∧ i.bytes = 4 := zaQ (by kernel_rfl)
theorem und_124 : Tryz.prog.underlying 124 = some (.slice 21) := by kernel_rfl
end HdYtfjinapgehafiaaGreatV5
open HdYtfjinapgehafiaaGreatV5

theorem Kind_c (r : Int)  :
    CD Tryz.prog 206 [] [.v (.int .i32 r)] (isR (dI (z0 r))) := by
  refine zq Tryz.func206 rfl (N := 51) rfl rfl (fun C => ?_)
  refine jk [0] rfl (jT rfl (oR 1 rfl (oZ rfl (jS rfl (jB rfl (jS rfl (jk [0, 2] rfl ?_)))))))
  refine zai 3 ((decide (r < (0 : Int)) || decide (r = (65533 : Int)))) [] (fun _ hQ1 => ?_) ?_
  · skip
    by_cases hg2 : r < (0 : Int)
    · skip
      refine za rfl (oR 1 rfl (oP rfl (zP rfl rfl (decide_eq_true hg2)) (oR 5 rfl (zi rfl ?_))))
      exact PD.sub ((3, dB (decide (r < (0 : Int)) || decide (r = (65533 : Int)))) :: [(0, .v (.int .i32 r)), (2, dI 0)]) ⟨sc rfl (Cv.eq (congrArg (fun b => D.v (.bool b)) (by first | (simp [hg2]; done) | (simp_all; done)))), sk rfl, sk rfl, trivial⟩ hQ1
    · skip
      refine za rfl (oR 1 rfl (oP rfl (zP rfl rfl (decide_eq_false hg2)) (oR 2 rfl (oG rfl (zL rfl rfl rfl) (oR 2 rfl (zi rfl ?_))))))
      exact PD.sub ((3, dB (decide (r < (0 : Int)) || decide (r = (65533 : Int)))) :: [(0, .v (.int .i32 r)), (2, dI 0)]) ⟨sc rfl (Cv.eq (congrArg (fun b => D.v (.bool b)) (by first | (simp [hg2]; done) | (simp_all; done)))), sk rfl, sk rfl, trivial⟩ hQ1
  · skip
    refine zd ?_
    refine jC rfl (fun hc3 => ?_) (fun hc3 => ?_)
    · simp only [bA, bB, bC, bD, bE, bF, bG, bH, bI, bJ] at hc3
      refine jT rfl (oR 1 rfl (oZ rfl (zm rfl (ze (zc ?_)))))
      exact zj Tryz.results206 (.cons (zr (zg rfl) (Cv.eq (congrArg (fun n => D.v (.int .i64 n)) (by unfold z0; (repeat (any_goals split)) <;> omega)))) .nil) rfl HSub.none ⟨rfl, rfl⟩
    · simp only [bA, bB, bC, bD, bE, bF, bG, bH, bI, bJ] at hc3
      refine jS rfl (jk [0, 2] rfl ?_)
      refine zai 10 (((((decide ((97 : Int) ≤ r) && decide (r ≤ (122 : Int))) || (decide ((65 : Int) ≤ r) && decide (r ≤ (90 : Int)))) || decide (r = (95 : Int))) || decide ((128 : Int) ≤ r))) [] (fun _ hQ4 => ?_) ?_
      · skip
        by_cases hg5 : (97 : Int) ≤ r
        · skip
          by_cases hg6 : r ≤ (122 : Int)
          · skip
            refine za rfl (oR 1 rfl (oP rfl (zS rfl rfl (decide_eq_true hg5)) (oR 2 rfl (oG rfl (zao rfl rfl (decide_eq_true hg6)) (oR 18 rfl (zi rfl ?_))))))
            exact PD.sub ((10, dB ((((decide ((97 : Int) ≤ r) && decide (r ≤ (122 : Int))) || (decide ((65 : Int) ≤ r) && decide (r ≤ (90 : Int)))) || decide (r = (95 : Int))) || decide ((128 : Int) ≤ r))) :: [(0, .v (.int .i32 r)), (2, dI 0)]) ⟨sc rfl (Cv.eq (congrArg (fun b => D.v (.bool b)) (by first | (simp [hg5, hg6]; done) | (simp_all; done)))), sk rfl, sk rfl, trivial⟩ hQ4
          · skip
            by_cases hg7 : (65 : Int) ≤ r
            · skip
              by_cases hg8 : r ≤ (90 : Int)
              · skip
                refine za rfl (oR 1 rfl (oP rfl (zS rfl rfl (decide_eq_true hg5)) (oR 2 rfl (oG rfl (zao rfl rfl (decide_eq_false hg6)) (oR 3 rfl (oG rfl (zS rfl rfl (decide_eq_true hg7)) (oR 2 rfl (oG rfl (zao rfl rfl (decide_eq_true hg8)) (oR 11 rfl (zi rfl ?_))))))))))
                exact PD.sub ((10, dB ((((decide ((97 : Int) ≤ r) && decide (r ≤ (122 : Int))) || (decide ((65 : Int) ≤ r) && decide (r ≤ (90 : Int)))) || decide (r = (95 : Int))) || decide ((128 : Int) ≤ r))) :: [(0, .v (.int .i32 r)), (2, dI 0)]) ⟨sc rfl (Cv.eq (congrArg (fun b => D.v (.bool b)) (by first | (simp [hg5, hg6, hg7, hg8]; done) | (simp_all; done)))), sk rfl, sk rfl, trivial⟩ hQ4
              · skip
                by_cases hg9 : r = (95 : Int)
                · skip
                  refine za rfl (oR 1 rfl (oP rfl (zS rfl rfl (decide_eq_true hg5)) (oR 2 rfl (oG rfl (zao rfl rfl (decide_eq_false hg6)) (oR 3 rfl (oG rfl (zS rfl rfl (decide_eq_true hg7)) (oR 2 rfl (oG rfl (zao rfl rfl (decide_eq_false hg8)) (oR 4 rfl (oG rfl (zL rfl rfl (decide_eq_true hg9)) (oR 6 rfl (zi rfl ?_))))))))))))
                  exact PD.sub ((10, dB ((((decide ((97 : Int) ≤ r) && decide (r ≤ (122 : Int))) || (decide ((65 : Int) ≤ r) && decide (r ≤ (90 : Int)))) || decide (r = (95 : Int))) || decide ((128 : Int) ≤ r))) :: [(0, .v (.int .i32 r)), (2, dI 0)]) ⟨sc rfl (Cv.eq (congrArg (fun b => D.v (.bool b)) (by first | (simp [hg5, hg6, hg7, hg8, hg9]; done) | (simp_all; done)))), sk rfl, sk rfl, trivial⟩ hQ4
                · skip
                  refine za rfl (oR 1 rfl (oP rfl (zS rfl rfl (decide_eq_true hg5)) (oR 2 rfl (oG rfl (zao rfl rfl (decide_eq_false hg6)) (oR 3 rfl (oG rfl (zS rfl rfl (decide_eq_true hg7)) (oR 2 rfl (oG rfl (zao rfl rfl (decide_eq_false hg8)) (oR 4 rfl (oG rfl (zL rfl rfl (decide_eq_false hg9)) (oR 3 rfl (oG rfl (zS rfl rfl rfl) (oR 2 rfl (zi rfl ?_))))))))))))))
                  exact PD.sub ((10, dB ((((decide ((97 : Int) ≤ r) && decide (r ≤ (122 : Int))) || (decide ((65 : Int) ≤ r) && decide (r ≤ (90 : Int)))) || decide (r = (95 : Int))) || decide ((128 : Int) ≤ r))) :: [(0, .v (.int .i32 r)), (2, dI 0)]) ⟨sc rfl (Cv.eq (congrArg (fun b => D.v (.bool b)) (by first | (simp [hg5, hg6, hg7, hg8, hg9]; done) | (simp_all; done)))), sk rfl, sk rfl, trivial⟩ hQ4
            · skip
              by_cases hg10 : r = (95 : Int)
              · skip
                refine za rfl (oR 1 rfl (oP rfl (zS rfl rfl (decide_eq_true hg5)) (oR 2 rfl (oG rfl (zao rfl rfl (decide_eq_false hg6)) (oR 3 rfl (oG rfl (zS rfl rfl (decide_eq_false hg7)) (oR 7 rfl (oG rfl (zL rfl rfl (decide_eq_true hg10)) (oR 6 rfl (zi rfl ?_))))))))))
                exact PD.sub ((10, dB ((((decide ((97 : Int) ≤ r) && decide (r ≤ (122 : Int))) || (decide ((65 : Int) ≤ r) && decide (r ≤ (90 : Int)))) || decide (r = (95 : Int))) || decide ((128 : Int) ≤ r))) :: [(0, .v (.int .i32 r)), (2, dI 0)]) ⟨sc rfl (Cv.eq (congrArg (fun b => D.v (.bool b)) (by first | (simp [hg10, hg5, hg6, hg7]; done) | (simp_all; done)))), sk rfl, sk rfl, trivial⟩ hQ4
              · skip
                refine za rfl (oR 1 rfl (oP rfl (zS rfl rfl (decide_eq_true hg5)) (oR 2 rfl (oG rfl (zao rfl rfl (decide_eq_false hg6)) (oR 3 rfl (oG rfl (zS rfl rfl (decide_eq_false hg7)) (oR 7 rfl (oG rfl (zL rfl rfl (decide_eq_false hg10)) (oR 3 rfl (oG rfl (zS rfl rfl rfl) (oR 2 rfl (zi rfl ?_))))))))))))
                exact PD.sub ((10, dB ((((decide ((97 : Int) ≤ r) && decide (r ≤ (122 : Int))) || (decide ((65 : Int) ≤ r) && decide (r ≤ (90 : Int)))) || decide (r = (95 : Int))) || decide ((128 : Int) ≤ r))) :: [(0, .v (.int .i32 r)), (2, dI 0)]) ⟨sc rfl (Cv.eq (congrArg (fun b => D.v (.bool b)) (by first | (simp [hg10, hg5, hg6, hg7]; done) | (simp_all; done)))), sk rfl, sk rfl, trivial⟩ hQ4
        · skip
          by_cases hg11 : (65 : Int) ≤ r
          · skip
            by_cases hg12 : r ≤ (90 : Int)
            · skip
              refine za rfl (oR 1 rfl (oP rfl (zS rfl rfl (decide_eq_false hg5)) (oR 6 rfl (oG rfl (zS rfl rfl (decide_eq_true hg11)) (oR 2 rfl (oG rfl (zao rfl rfl (decide_eq_true hg12)) (oR 11 rfl (zi rfl ?_))))))))
              exact PD.sub ((10, dB ((((decide ((97 : Int) ≤ r) && decide (r ≤ (122 : Int))) || (decide ((65 : Int) ≤ r) && decide (r ≤ (90 : Int)))) || decide (r = (95 : Int))) || decide ((128 : Int) ≤ r))) :: [(0, .v (.int .i32 r)), (2, dI 0)]) ⟨sc rfl (Cv.eq (congrArg (fun b => D.v (.bool b)) (by first | (simp [hg11, hg12, hg5]; done) | (simp_all; done)))), sk rfl, sk rfl, trivial⟩ hQ4
            · skip
              by_cases hg13 : r = (95 : Int)
              · skip
                refine za rfl (oR 1 rfl (oP rfl (zS rfl rfl (decide_eq_false hg5)) (oR 6 rfl (oG rfl (zS rfl rfl (decide_eq_true hg11)) (oR 2 rfl (oG rfl (zao rfl rfl (decide_eq_false hg12)) (oR 4 rfl (oG rfl (zL rfl rfl (decide_eq_true hg13)) (oR 6 rfl (zi rfl ?_))))))))))
                exact PD.sub ((10, dB ((((decide ((97 : Int) ≤ r) && decide (r ≤ (122 : Int))) || (decide ((65 : Int) ≤ r) && decide (r ≤ (90 : Int)))) || decide (r = (95 : Int))) || decide ((128 : Int) ≤ r))) :: [(0, .v (.int .i32 r)), (2, dI 0)]) ⟨sc rfl (Cv.eq (congrArg (fun b => D.v (.bool b)) (by first | (simp [hg11, hg12, hg13, hg5]; done) | (simp_all; done)))), sk rfl, sk rfl, trivial⟩ hQ4
              · skip
                refine za rfl (oR 1 rfl (oP rfl (zS rfl rfl (decide_eq_false hg5)) (oR 6 rfl (oG rfl (zS rfl rfl (decide_eq_true hg11)) (oR 2 rfl (oG rfl (zao rfl rfl (decide_eq_false hg12)) (oR 4 rfl (oG rfl (zL rfl rfl (decide_eq_false hg13)) (oR 3 rfl (oG rfl (zS rfl rfl rfl) (oR 2 rfl (zi rfl ?_))))))))))))
                exact PD.sub ((10, dB ((((decide ((97 : Int) ≤ r) && decide (r ≤ (122 : Int))) || (decide ((65 : Int) ≤ r) && decide (r ≤ (90 : Int)))) || decide (r = (95 : Int))) || decide ((128 : Int) ≤ r))) :: [(0, .v (.int .i32 r)), (2, dI 0)]) ⟨sc rfl (Cv.eq (congrArg (fun b => D.v (.bool b)) (by first | (simp [hg11, hg12, hg13, hg5]; done) | (simp_all; done)))), sk rfl, sk rfl, trivial⟩ hQ4
          · skip
            by_cases hg14 : r = (95 : Int)
            · skip
              refine za rfl (oR 1 rfl (oP rfl (zS rfl rfl (decide_eq_false hg5)) (oR 6 rfl (oG rfl (zS rfl rfl (decide_eq_false hg11)) (oR 7 rfl (oG rfl (zL rfl rfl (decide_eq_true hg14)) (oR 6 rfl (zi rfl ?_))))))))
              exact PD.sub ((10, dB ((((decide ((97 : Int) ≤ r) && decide (r ≤ (122 : Int))) || (decide ((65 : Int) ≤ r) && decide (r ≤ (90 : Int)))) || decide (r = (95 : Int))) || decide ((128 : Int) ≤ r))) :: [(0, .v (.int .i32 r)), (2, dI 0)]) ⟨sc rfl (Cv.eq (congrArg (fun b => D.v (.bool b)) (by first | (simp [hg11, hg14, hg5]; done) | (simp_all; done)))), sk rfl, sk rfl, trivial⟩ hQ4
            · skip
              refine za rfl (oR 1 rfl (oP rfl (zS rfl rfl (decide_eq_false hg5)) (oR 6 rfl (oG rfl (zS rfl rfl (decide_eq_false hg11)) (oR 7 rfl (oG rfl (zL rfl rfl (decide_eq_false hg14)) (oR 3 rfl (oG rfl (zS rfl rfl rfl) (oR 2 rfl (zi rfl ?_))))))))))
              exact PD.sub ((10, dB ((((decide ((97 : Int) ≤ r) && decide (r ≤ (122 : Int))) || (decide ((65 : Int) ≤ r) && decide (r ≤ (90 : Int)))) || decide (r = (95 : Int))) || decide ((128 : Int) ≤ r))) :: [(0, .v (.int .i32 r)), (2, dI 0)]) ⟨sc rfl (Cv.eq (congrArg (fun b => D.v (.bool b)) (by first | (simp [hg11, hg14, hg5]; done) | (simp_all; done)))), sk rfl, sk rfl, trivial⟩ hQ4
      · skip
        refine zd ?_
        refine jC rfl (fun hc15 => ?_) (fun hc15 => ?_)
        · simp only [bA, bB, bC, bD, bE, bF, bG, bH, bI, bJ] at hc15
          refine jT rfl (oR 1 rfl (oZ rfl (zm rfl (ze (zc ?_)))))
          exact zj Tryz.results206 (.cons (zr (zg rfl) (Cv.eq (congrArg (fun n => D.v (.int .i64 n)) (by unfold z0; (repeat (any_goals split)) <;> omega)))) .nil) rfl HSub.none ⟨rfl, rfl⟩
        · simp only [bA, bB, bC, bD, bE, bF, bG, bH, bI, bJ] at hc15
          refine jS rfl (jk [0, 2] rfl ?_)
          refine zai 33 ((decide ((48 : Int) ≤ r) && decide (r ≤ (57 : Int)))) [] (fun _ hQ16 => ?_) ?_
          · skip
            by_cases hg17 : (48 : Int) ≤ r
            · skip
              refine za rfl (oR 1 rfl (oP rfl (zS rfl rfl (decide_eq_true hg17)) (oR 2 rfl (oG rfl (zao rfl rfl rfl) (oR 2 rfl (zi rfl ?_))))))
              exact PD.sub ((33, dB (decide ((48 : Int) ≤ r) && decide (r ≤ (57 : Int)))) :: [(0, .v (.int .i32 r)), (2, dI 0)]) ⟨sc rfl (Cv.eq (congrArg (fun b => D.v (.bool b)) (by first | (simp [hg17]; done) | (simp_all; done)))), sk rfl, sk rfl, trivial⟩ hQ16
            · skip
              refine za rfl (oR 1 rfl (oP rfl (zS rfl rfl (decide_eq_false hg17)) (oR 5 rfl (zi rfl ?_))))
              exact PD.sub ((33, dB (decide ((48 : Int) ≤ r) && decide (r ≤ (57 : Int)))) :: [(0, .v (.int .i32 r)), (2, dI 0)]) ⟨sc rfl (Cv.eq (congrArg (fun b => D.v (.bool b)) (by first | (simp [hg17]; done) | (simp_all; done)))), sk rfl, sk rfl, trivial⟩ hQ16
          · skip
            refine zd ?_
            refine jC rfl (fun hc18 => ?_) (fun hc18 => ?_)
            · simp only [bA, bB, bC, bD, bE, bF, bG, bH, bI, bJ] at hc18
              refine jT rfl (oR 1 rfl (oZ rfl (zm rfl (ze (zc ?_)))))
              exact zj Tryz.results206 (.cons (zr (zg rfl) (Cv.eq (congrArg (fun n => D.v (.int .i64 n)) (by unfold z0; (repeat (any_goals split)) <;> omega)))) .nil) rfl HSub.none ⟨rfl, rfl⟩
            · simp only [bA, bB, bC, bD, bE, bF, bG, bH, bI, bJ] at hc18
              refine jS rfl (jk [0, 2] rfl ?_)
              refine zai 40 (((decide (r = (32 : Int)) || decide (r = (9 : Int))) || decide (r = (10 : Int)))) [] (fun _ hQ19 => ?_) ?_
              · skip
                by_cases hg20 : r = (32 : Int)
                · skip
                  refine za rfl (oR 1 rfl (oP rfl (zL rfl rfl (decide_eq_true hg20)) (oR 9 rfl (zi rfl ?_))))
                  exact PD.sub ((40, dB ((decide (r = (32 : Int)) || decide (r = (9 : Int))) || decide (r = (10 : Int)))) :: [(0, .v (.int .i32 r)), (2, dI 0)]) ⟨sc rfl (Cv.eq (congrArg (fun b => D.v (.bool b)) (by first | (simp [hg20]; done) | (simp_all; done)))), sk rfl, sk rfl, trivial⟩ hQ19
                · skip
                  by_cases hg21 : r = (9 : Int)
                  · skip
                    refine za rfl (oR 1 rfl (oP rfl (zL rfl rfl (decide_eq_false hg20)) (oR 2 rfl (oG rfl (zL rfl rfl (decide_eq_true hg21)) (oR 6 rfl (zi rfl ?_))))))
                    exact PD.sub ((40, dB ((decide (r = (32 : Int)) || decide (r = (9 : Int))) || decide (r = (10 : Int)))) :: [(0, .v (.int .i32 r)), (2, dI 0)]) ⟨sc rfl (Cv.eq (congrArg (fun b => D.v (.bool b)) (by first | (simp [hg20, hg21]; done) | (simp_all; done)))), sk rfl, sk rfl, trivial⟩ hQ19
                  · skip
                    refine za rfl (oR 1 rfl (oP rfl (zL rfl rfl (decide_eq_false hg20)) (oR 2 rfl (oG rfl (zL rfl rfl (decide_eq_false hg21)) (oR 3 rfl (oG rfl (zL rfl rfl rfl) (oR 2 rfl (zi rfl ?_))))))))
                    exact PD.sub ((40, dB ((decide (r = (32 : Int)) || decide (r = (9 : Int))) || decide (r = (10 : Int)))) :: [(0, .v (.int .i32 r)), (2, dI 0)]) ⟨sc rfl (Cv.eq (congrArg (fun b => D.v (.bool b)) (by first | (simp [hg20, hg21]; done) | (simp_all; done)))), sk rfl, sk rfl, trivial⟩ hQ19
              · skip
                refine zd ?_
                refine jC rfl (fun hc22 => ?_) (fun hc22 => ?_)
                · simp only [bA, bB, bC, bD, bE, bF, bG, bH, bI, bJ] at hc22
                  refine jT rfl (oR 1 rfl (oZ rfl (zm rfl (ze (zc ?_)))))
                  exact zj Tryz.results206 (.cons (zr (zg rfl) (Cv.eq (congrArg (fun n => D.v (.int .i64 n)) (by unfold z0; (repeat (any_goals split)) <;> omega)))) .nil) rfl HSub.none ⟨rfl, rfl⟩
                · simp only [bA, bB, bC, bD, bE, bF, bG, bH, bI, bJ] at hc22
                  refine zk rfl (zw (zd (jT rfl (oR 1 rfl (oZ rfl (zm rfl ?_))))))
                  exact zj Tryz.results206 (.cons (zr (zg rfl) (Cv.eq (congrArg (fun n => D.v (.int .i64 n)) (by unfold z0; (repeat (any_goals split)) <;> omega)))) .nil) rfl HSub.none ⟨rfl, rfl⟩

theorem refKind_c (r : Int)  :
    CD Tryz.prog 158 [] [.v (.int .i32 r)] (isR (dI (z0 r))) := by
  refine zq Tryz.func158 rfl (N := 51) rfl rfl (fun C => ?_)
  refine jk [0] rfl (jT rfl (oR 1 rfl (oZ rfl (jS rfl (jB rfl (jS rfl (jk [0, 2] rfl ?_)))))))
  refine zai 3 ((decide (r < (0 : Int)) || decide (r = (65533 : Int)))) [] (fun _ hQ1 => ?_) ?_
  · skip
    by_cases hg2 : r < (0 : Int)
    · skip
      refine za rfl (oR 1 rfl (oP rfl (zP rfl rfl (decide_eq_true hg2)) (oR 5 rfl (zi rfl ?_))))
      exact PD.sub ((3, dB (decide (r < (0 : Int)) || decide (r = (65533 : Int)))) :: [(0, .v (.int .i32 r)), (2, dI 0)]) ⟨sc rfl (Cv.eq (congrArg (fun b => D.v (.bool b)) (by first | (simp [hg2]; done) | (simp_all; done)))), sk rfl, sk rfl, trivial⟩ hQ1
    · skip
      refine za rfl (oR 1 rfl (oP rfl (zP rfl rfl (decide_eq_false hg2)) (oR 2 rfl (oG rfl (zL rfl rfl rfl) (oR 2 rfl (zi rfl ?_))))))
      exact PD.sub ((3, dB (decide (r < (0 : Int)) || decide (r = (65533 : Int)))) :: [(0, .v (.int .i32 r)), (2, dI 0)]) ⟨sc rfl (Cv.eq (congrArg (fun b => D.v (.bool b)) (by first | (simp [hg2]; done) | (simp_all; done)))), sk rfl, sk rfl, trivial⟩ hQ1
  · skip
    refine zd ?_
    refine jC rfl (fun hc3 => ?_) (fun hc3 => ?_)
    · simp only [bA, bB, bC, bD, bE, bF, bG, bH, bI, bJ] at hc3
      refine jT rfl (oR 1 rfl (oZ rfl (zm rfl (ze (zc ?_)))))
      exact zj Tryz.results158 (.cons (zr (zg rfl) (Cv.eq (congrArg (fun n => D.v (.int .i64 n)) (by unfold z0; (repeat (any_goals split)) <;> omega)))) .nil) rfl HSub.none ⟨rfl, rfl⟩
    · simp only [bA, bB, bC, bD, bE, bF, bG, bH, bI, bJ] at hc3
      refine jS rfl (jk [0, 2] rfl ?_)
      refine zai 10 (((((decide ((97 : Int) ≤ r) && decide (r ≤ (122 : Int))) || (decide ((65 : Int) ≤ r) && decide (r ≤ (90 : Int)))) || decide (r = (95 : Int))) || decide ((128 : Int) ≤ r))) [] (fun _ hQ4 => ?_) ?_
      · skip
        by_cases hg5 : (97 : Int) ≤ r
        · skip
          by_cases hg6 : r ≤ (122 : Int)
          · skip
            refine za rfl (oR 1 rfl (oP rfl (zS rfl rfl (decide_eq_true hg5)) (oR 2 rfl (oG rfl (zao rfl rfl (decide_eq_true hg6)) (oR 18 rfl (zi rfl ?_))))))
            exact PD.sub ((10, dB ((((decide ((97 : Int) ≤ r) && decide (r ≤ (122 : Int))) || (decide ((65 : Int) ≤ r) && decide (r ≤ (90 : Int)))) || decide (r = (95 : Int))) || decide ((128 : Int) ≤ r))) :: [(0, .v (.int .i32 r)), (2, dI 0)]) ⟨sc rfl (Cv.eq (congrArg (fun b => D.v (.bool b)) (by first | (simp [hg5, hg6]; done) | (simp_all; done)))), sk rfl, sk rfl, trivial⟩ hQ4
          · skip
            by_cases hg7 : (65 : Int) ≤ r
            · skip
              by_cases hg8 : r ≤ (90 : Int)
              · skip
                refine za rfl (oR 1 rfl (oP rfl (zS rfl rfl (decide_eq_true hg5)) (oR 2 rfl (oG rfl (zao rfl rfl (decide_eq_false hg6)) (oR 3 rfl (oG rfl (zS rfl rfl (decide_eq_true hg7)) (oR 2 rfl (oG rfl (zao rfl rfl (decide_eq_true hg8)) (oR 11 rfl (zi rfl ?_))))))))))
                exact PD.sub ((10, dB ((((decide ((97 : Int) ≤ r) && decide (r ≤ (122 : Int))) || (decide ((65 : Int) ≤ r) && decide (r ≤ (90 : Int)))) || decide (r = (95 : Int))) || decide ((128 : Int) ≤ r))) :: [(0, .v (.int .i32 r)), (2, dI 0)]) ⟨sc rfl (Cv.eq (congrArg (fun b => D.v (.bool b)) (by first | (simp [hg5, hg6, hg7, hg8]; done) | (simp_all; done)))), sk rfl, sk rfl, trivial⟩ hQ4
              · skip
                by_cases hg9 : r = (95 : Int)
                · skip
                  refine za rfl (oR 1 rfl (oP rfl (zS rfl rfl (decide_eq_true hg5)) (oR 2 rfl (oG rfl (zao rfl rfl (decide_eq_false hg6)) (oR 3 rfl (oG rfl (zS rfl rfl (decide_eq_true hg7)) (oR 2 rfl (oG rfl (zao rfl rfl (decide_eq_false hg8)) (oR 4 rfl (oG rfl (zL rfl rfl (decide_eq_true hg9)) (oR 6 rfl (zi rfl ?_))))))))))))
                  exact PD.sub ((10, dB ((((decide ((97 : Int) ≤ r) && decide (r ≤ (122 : Int))) || (decide ((65 : Int) ≤ r) && decide (r ≤ (90 : Int)))) || decide (r = (95 : Int))) || decide ((128 : Int) ≤ r))) :: [(0, .v (.int .i32 r)), (2, dI 0)]) ⟨sc rfl (Cv.eq (congrArg (fun b => D.v (.bool b)) (by first | (simp [hg5, hg6, hg7, hg8, hg9]; done) | (simp_all; done)))), sk rfl, sk rfl, trivial⟩ hQ4
                · skip
                  refine za rfl (oR 1 rfl (oP rfl (zS rfl rfl (decide_eq_true hg5)) (oR 2 rfl (oG rfl (zao rfl rfl (decide_eq_false hg6)) (oR 3 rfl (oG rfl (zS rfl rfl (decide_eq_true hg7)) (oR 2 rfl (oG rfl (zao rfl rfl (decide_eq_false hg8)) (oR 4 rfl (oG rfl (zL rfl rfl (decide_eq_false hg9)) (oR 3 rfl (oG rfl (zS rfl rfl rfl) (oR 2 rfl (zi rfl ?_))))))))))))))
                  exact PD.sub ((10, dB ((((decide ((97 : Int) ≤ r) && decide (r ≤ (122 : Int))) || (decide ((65 : Int) ≤ r) && decide (r ≤ (90 : Int)))) || decide (r = (95 : Int))) || decide ((128 : Int) ≤ r))) :: [(0, .v (.int .i32 r)), (2, dI 0)]) ⟨sc rfl (Cv.eq (congrArg (fun b => D.v (.bool b)) (by first | (simp [hg5, hg6, hg7, hg8, hg9]; done) | (simp_all; done)))), sk rfl, sk rfl, trivial⟩ hQ4
            · skip
              by_cases hg10 : r = (95 : Int)
              · skip
                refine za rfl (oR 1 rfl (oP rfl (zS rfl rfl (decide_eq_true hg5)) (oR 2 rfl (oG rfl (zao rfl rfl (decide_eq_false hg6)) (oR 3 rfl (oG rfl (zS rfl rfl (decide_eq_false hg7)) (oR 7 rfl (oG rfl (zL rfl rfl (decide_eq_true hg10)) (oR 6 rfl (zi rfl ?_))))))))))
                exact PD.sub ((10, dB ((((decide ((97 : Int) ≤ r) && decide (r ≤ (122 : Int))) || (decide ((65 : Int) ≤ r) && decide (r ≤ (90 : Int)))) || decide (r = (95 : Int))) || decide ((128 : Int) ≤ r))) :: [(0, .v (.int .i32 r)), (2, dI 0)]) ⟨sc rfl (Cv.eq (congrArg (fun b => D.v (.bool b)) (by first | (simp [hg10, hg5, hg6, hg7]; done) | (simp_all; done)))), sk rfl, sk rfl, trivial⟩ hQ4
              · skip
                refine za rfl (oR 1 rfl (oP rfl (zS rfl rfl (decide_eq_true hg5)) (oR 2 rfl (oG rfl (zao rfl rfl (decide_eq_false hg6)) (oR 3 rfl (oG rfl (zS rfl rfl (decide_eq_false hg7)) (oR 7 rfl (oG rfl (zL rfl rfl (decide_eq_false hg10)) (oR 3 rfl (oG rfl (zS rfl rfl rfl) (oR 2 rfl (zi rfl ?_))))))))))))
                exact PD.sub ((10, dB ((((decide ((97 : Int) ≤ r) && decide (r ≤ (122 : Int))) || (decide ((65 : Int) ≤ r) && decide (r ≤ (90 : Int)))) || decide (r = (95 : Int))) || decide ((128 : Int) ≤ r))) :: [(0, .v (.int .i32 r)), (2, dI 0)]) ⟨sc rfl (Cv.eq (congrArg (fun b => D.v (.bool b)) (by first | (simp [hg10, hg5, hg6, hg7]; done) | (simp_all; done)))), sk rfl, sk rfl, trivial⟩ hQ4
        · skip
          by_cases hg11 : (65 : Int) ≤ r
          · skip
            by_cases hg12 : r ≤ (90 : Int)
            · skip
              refine za rfl (oR 1 rfl (oP rfl (zS rfl rfl (decide_eq_false hg5)) (oR 6 rfl (oG rfl (zS rfl rfl (decide_eq_true hg11)) (oR 2 rfl (oG rfl (zao rfl rfl (decide_eq_true hg12)) (oR 11 rfl (zi rfl ?_))))))))
              exact PD.sub ((10, dB ((((decide ((97 : Int) ≤ r) && decide (r ≤ (122 : Int))) || (decide ((65 : Int) ≤ r) && decide (r ≤ (90 : Int)))) || decide (r = (95 : Int))) || decide ((128 : Int) ≤ r))) :: [(0, .v (.int .i32 r)), (2, dI 0)]) ⟨sc rfl (Cv.eq (congrArg (fun b => D.v (.bool b)) (by first | (simp [hg11, hg12, hg5]; done) | (simp_all; done)))), sk rfl, sk rfl, trivial⟩ hQ4
            · skip
              by_cases hg13 : r = (95 : Int)
              · skip
                refine za rfl (oR 1 rfl (oP rfl (zS rfl rfl (decide_eq_false hg5)) (oR 6 rfl (oG rfl (zS rfl rfl (decide_eq_true hg11)) (oR 2 rfl (oG rfl (zao rfl rfl (decide_eq_false hg12)) (oR 4 rfl (oG rfl (zL rfl rfl (decide_eq_true hg13)) (oR 6 rfl (zi rfl ?_))))))))))
                exact PD.sub ((10, dB ((((decide ((97 : Int) ≤ r) && decide (r ≤ (122 : Int))) || (decide ((65 : Int) ≤ r) && decide (r ≤ (90 : Int)))) || decide (r = (95 : Int))) || decide ((128 : Int) ≤ r))) :: [(0, .v (.int .i32 r)), (2, dI 0)]) ⟨sc rfl (Cv.eq (congrArg (fun b => D.v (.bool b)) (by first | (simp [hg11, hg12, hg13, hg5]; done) | (simp_all; done)))), sk rfl, sk rfl, trivial⟩ hQ4
              · skip
                refine za rfl (oR 1 rfl (oP rfl (zS rfl rfl (decide_eq_false hg5)) (oR 6 rfl (oG rfl (zS rfl rfl (decide_eq_true hg11)) (oR 2 rfl (oG rfl (zao rfl rfl (decide_eq_false hg12)) (oR 4 rfl (oG rfl (zL rfl rfl (decide_eq_false hg13)) (oR 3 rfl (oG rfl (zS rfl rfl rfl) (oR 2 rfl (zi rfl ?_))))))))))))
                exact PD.sub ((10, dB ((((decide ((97 : Int) ≤ r) && decide (r ≤ (122 : Int))) || (decide ((65 : Int) ≤ r) && decide (r ≤ (90 : Int)))) || decide (r = (95 : Int))) || decide ((128 : Int) ≤ r))) :: [(0, .v (.int .i32 r)), (2, dI 0)]) ⟨sc rfl (Cv.eq (congrArg (fun b => D.v (.bool b)) (by first | (simp [hg11, hg12, hg13, hg5]; done) | (simp_all; done)))), sk rfl, sk rfl, trivial⟩ hQ4
          · skip
            by_cases hg14 : r = (95 : Int)
            · skip
              refine za rfl (oR 1 rfl (oP rfl (zS rfl rfl (decide_eq_false hg5)) (oR 6 rfl (oG rfl (zS rfl rfl (decide_eq_false hg11)) (oR 7 rfl (oG rfl (zL rfl rfl (decide_eq_true hg14)) (oR 6 rfl (zi rfl ?_))))))))
              exact PD.sub ((10, dB ((((decide ((97 : Int) ≤ r) && decide (r ≤ (122 : Int))) || (decide ((65 : Int) ≤ r) && decide (r ≤ (90 : Int)))) || decide (r = (95 : Int))) || decide ((128 : Int) ≤ r))) :: [(0, .v (.int .i32 r)), (2, dI 0)]) ⟨sc rfl (Cv.eq (congrArg (fun b => D.v (.bool b)) (by first | (simp [hg11, hg14, hg5]; done) | (simp_all; done)))), sk rfl, sk rfl, trivial⟩ hQ4
            · skip
              refine za rfl (oR 1 rfl (oP rfl (zS rfl rfl (decide_eq_false hg5)) (oR 6 rfl (oG rfl (zS rfl rfl (decide_eq_false hg11)) (oR 7 rfl (oG rfl (zL rfl rfl (decide_eq_false hg14)) (oR 3 rfl (oG rfl (zS rfl rfl rfl) (oR 2 rfl (zi rfl ?_))))))))))
              exact PD.sub ((10, dB ((((decide ((97 : Int) ≤ r) && decide (r ≤ (122 : Int))) || (decide ((65 : Int) ≤ r) && decide (r ≤ (90 : Int)))) || decide (r = (95 : Int))) || decide ((128 : Int) ≤ r))) :: [(0, .v (.int .i32 r)), (2, dI 0)]) ⟨sc rfl (Cv.eq (congrArg (fun b => D.v (.bool b)) (by first | (simp [hg11, hg14, hg5]; done) | (simp_all; done)))), sk rfl, sk rfl, trivial⟩ hQ4
      · skip
        refine zd ?_
        refine jC rfl (fun hc15 => ?_) (fun hc15 => ?_)
        · simp only [bA, bB, bC, bD, bE, bF, bG, bH, bI, bJ] at hc15
          refine jT rfl (oR 1 rfl (oZ rfl (zm rfl (ze (zc ?_)))))
          exact zj Tryz.results158 (.cons (zr (zg rfl) (Cv.eq (congrArg (fun n => D.v (.int .i64 n)) (by unfold z0; (repeat (any_goals split)) <;> omega)))) .nil) rfl HSub.none ⟨rfl, rfl⟩
        · simp only [bA, bB, bC, bD, bE, bF, bG, bH, bI, bJ] at hc15
          refine jS rfl (jk [0, 2] rfl ?_)
          refine zai 33 ((decide ((48 : Int) ≤ r) && decide (r ≤ (57 : Int)))) [] (fun _ hQ16 => ?_) ?_
          · skip
            by_cases hg17 : (48 : Int) ≤ r
            · skip
              refine za rfl (oR 1 rfl (oP rfl (zS rfl rfl (decide_eq_true hg17)) (oR 2 rfl (oG rfl (zao rfl rfl rfl) (oR 2 rfl (zi rfl ?_))))))
              exact PD.sub ((33, dB (decide ((48 : Int) ≤ r) && decide (r ≤ (57 : Int)))) :: [(0, .v (.int .i32 r)), (2, dI 0)]) ⟨sc rfl (Cv.eq (congrArg (fun b => D.v (.bool b)) (by first | (simp [hg17]; done) | (simp_all; done)))), sk rfl, sk rfl, trivial⟩ hQ16
            · skip
              refine za rfl (oR 1 rfl (oP rfl (zS rfl rfl (decide_eq_false hg17)) (oR 5 rfl (zi rfl ?_))))
              exact PD.sub ((33, dB (decide ((48 : Int) ≤ r) && decide (r ≤ (57 : Int)))) :: [(0, .v (.int .i32 r)), (2, dI 0)]) ⟨sc rfl (Cv.eq (congrArg (fun b => D.v (.bool b)) (by first | (simp [hg17]; done) | (simp_all; done)))), sk rfl, sk rfl, trivial⟩ hQ16
          · skip
            refine zd ?_
            refine jC rfl (fun hc18 => ?_) (fun hc18 => ?_)
            · simp only [bA, bB, bC, bD, bE, bF, bG, bH, bI, bJ] at hc18
              refine jT rfl (oR 1 rfl (oZ rfl (zm rfl (ze (zc ?_)))))
              exact zj Tryz.results158 (.cons (zr (zg rfl) (Cv.eq (congrArg (fun n => D.v (.int .i64 n)) (by unfold z0; (repeat (any_goals split)) <;> omega)))) .nil) rfl HSub.none ⟨rfl, rfl⟩
            · simp only [bA, bB, bC, bD, bE, bF, bG, bH, bI, bJ] at hc18
              refine jS rfl (jk [0, 2] rfl ?_)
              refine zai 40 (((decide (r = (32 : Int)) || decide (r = (9 : Int))) || decide (r = (10 : Int)))) [] (fun _ hQ19 => ?_) ?_
              · skip
                by_cases hg20 : r = (32 : Int)
                · skip
                  refine za rfl (oR 1 rfl (oP rfl (zL rfl rfl (decide_eq_true hg20)) (oR 9 rfl (zi rfl ?_))))
                  exact PD.sub ((40, dB ((decide (r = (32 : Int)) || decide (r = (9 : Int))) || decide (r = (10 : Int)))) :: [(0, .v (.int .i32 r)), (2, dI 0)]) ⟨sc rfl (Cv.eq (congrArg (fun b => D.v (.bool b)) (by first | (simp [hg20]; done) | (simp_all; done)))), sk rfl, sk rfl, trivial⟩ hQ19
                · skip
                  by_cases hg21 : r = (9 : Int)
                  · skip
                    refine za rfl (oR 1 rfl (oP rfl (zL rfl rfl (decide_eq_false hg20)) (oR 2 rfl (oG rfl (zL rfl rfl (decide_eq_true hg21)) (oR 6 rfl (zi rfl ?_))))))
                    exact PD.sub ((40, dB ((decide (r = (32 : Int)) || decide (r = (9 : Int))) || decide (r = (10 : Int)))) :: [(0, .v (.int .i32 r)), (2, dI 0)]) ⟨sc rfl (Cv.eq (congrArg (fun b => D.v (.bool b)) (by first | (simp [hg20, hg21]; done) | (simp_all; done)))), sk rfl, sk rfl, trivial⟩ hQ19
                  · skip
                    refine za rfl (oR 1 rfl (oP rfl (zL rfl rfl (decide_eq_false hg20)) (oR 2 rfl (oG rfl (zL rfl rfl (decide_eq_false hg21)) (oR 3 rfl (oG rfl (zL rfl rfl rfl) (oR 2 rfl (zi rfl ?_))))))))
                    exact PD.sub ((40, dB ((decide (r = (32 : Int)) || decide (r = (9 : Int))) || decide (r = (10 : Int)))) :: [(0, .v (.int .i32 r)), (2, dI 0)]) ⟨sc rfl (Cv.eq (congrArg (fun b => D.v (.bool b)) (by first | (simp [hg20, hg21]; done) | (simp_all; done)))), sk rfl, sk rfl, trivial⟩ hQ19
              · skip
                refine zd ?_
                refine jC rfl (fun hc22 => ?_) (fun hc22 => ?_)
                · simp only [bA, bB, bC, bD, bE, bF, bG, bH, bI, bJ] at hc22
                  refine jT rfl (oR 1 rfl (oZ rfl (zm rfl (ze (zc ?_)))))
                  exact zj Tryz.results158 (.cons (zr (zg rfl) (Cv.eq (congrArg (fun n => D.v (.int .i64 n)) (by unfold z0; (repeat (any_goals split)) <;> omega)))) .nil) rfl HSub.none ⟨rfl, rfl⟩
                · simp only [bA, bB, bC, bD, bE, bF, bG, bH, bI, bJ] at hc22
                  refine zk rfl (zw (zd (jT rfl (oR 1 rfl (oZ rfl (zm rfl ?_))))))
                  exact zj Tryz.results158 (.cons (zr (zg rfl) (Cv.eq (congrArg (fun n => D.v (.int .i64 n)) (by unfold z0; (repeat (any_goals split)) <;> omega)))) .nil) rfl HSub.none ⟨rfl, rfl⟩

theorem zc5 (s : ByteArray)  :
    CD Tryz.prog 191 [] [.s s] (isR (dB (zbt s))) := by
  refine zq Tryz.func191 rfl (N := 32) rfl rfl (fun C => ?_)
  refine jk [0] rfl ?_
  refine JD.bd 0 rfl (fun bd0 => ?_)
  have sz0 : s.size ≤ 9223372036854775807 := bd0
  refine jT rfl (oR 1 rfl (oZ rfl (jT rfl (oR 1 rfl (oZ rfl (jS rfl (jT rfl (oR 1 rfl (oE rfl (ef_range rfl Tryz.runUnderlying9) ?_)))))))))
  rintro _ _ ⟨g1, rfl, rfl⟩
  refine oZ rfl (jB rfl (jl2 (fun (a_ : Nat) (b_ : Nat) => [(8, dP g1 0), (3, dN b_)]) (fun a_ b_ => [.it g1 s a_]) (fun a_ b_ => (a_ ≤ s.size) ∧ (b_ ≤ a_) ∧ (zbZ 0 (zaG s) = zbZ b_ (zbJ s a_))) (fun a_ b_ => s.size - a_) 0 0 rfl (sa rfl) HSub.rfl' ⟨Nat.zero_le _, Nat.le_refl _, rfl⟩ ?_))
  rintro p n ⟨hp, hn, hf⟩
  refine ja rfl (jn rfl ?_)
  rcases Nat.lt_or_ge p s.size with hlt | hge
  · skip
    have hrune := runesAt_lt hlt
    have hrl := decR_lt s p
    have hdw := decW_le s p hlt
    have hdp := zcc s p
    refine jT rfl (oE rfl (ef_next_t (i := 0) rfl rfl hlt) ?_)
    rintro _ _ ⟨rfl, rfl⟩
    refine on rfl (oR 1 rfl (oZ rfl (jS rfl (jCt rfl (zk rfl (zd (jB rfl (jT rfl (oR 2 rfl (oZ rfl (jS rfl (jT rfl (oR 1 rfl (oW rfl rfl acs Tryz.call206 (Kind_c ((decR s p : Nat) : Int)) (oR 1 rfl (oZ rfl (jS rfl (jk [3, 5, 6, 8, 9, 10, 11, 12, 13] rfl ?_))))))))))))))))))
    refine zai 23 ((decide (z0 ((decR s p : Nat) : Int) ≠ (1 : Int)) && (decide (z0 ((decR s p : Nat) : Int) ≠ (2 : Int)) || decide (((n : Nat) : Int) = (0 : Int))))) [.it g1 s (p + decW s p)] (fun _ hQ2 => ?_) ?_
    · skip
      by_cases hg3 : z0 ((decR s p : Nat) : Int) ≠ (1 : Int)
      · skip
        by_cases hg4 : z0 ((decR s p : Nat) : Int) ≠ (2 : Int)
        · skip
          refine za rfl (oR 1 rfl (oP rfl (zbs rfl rfl (decide_eq_true hg3)) (oR 2 rfl (oG rfl (zbs rfl rfl (decide_eq_true hg4)) (oR 5 rfl (zi rfl ?_))))))
          exact PD.sub ((23, dB (decide (z0 ((decR s p : Nat) : Int) ≠ (1 : Int)) && (decide (z0 ((decR s p : Nat) : Int) ≠ (2 : Int)) || decide (((n : Nat) : Int) = (0 : Int))))) :: [(3, dN n), (5, .v (.int .i32 ((decR s p : Nat) : Int))), (6, dI (z0 ((decR s p : Nat) : Int))), (8, dP g1 0), (9, .tup [dB true, dN p, .v (.int .i32 ((decR s p : Nat) : Int))]), (10, dB true), (11, .v (.int .i32 ((decR s p : Nat) : Int))), (12, .v (.int .i32 ((decR s p : Nat) : Int))), (13, dI (z0 ((decR s p : Nat) : Int)))]) ⟨sc rfl (Cv.eq (congrArg (fun b => D.v (.bool b)) (by first | (simp [hg3, hg4]; done) | (simp_all; done)))), sk rfl, sk rfl, sk rfl, sk rfl, sk rfl, sk rfl, sk rfl, sk rfl, sk rfl, trivial⟩ hQ2
        · skip
          refine za rfl (oR 1 rfl (oP rfl (zbs rfl rfl (decide_eq_true hg3)) (oR 2 rfl (oG rfl (zbs rfl rfl (decide_eq_false hg4)) (oR 2 rfl (oG rfl (zL rfl rfl rfl) (oR 2 rfl (zi rfl ?_))))))))
          exact PD.sub ((23, dB (decide (z0 ((decR s p : Nat) : Int) ≠ (1 : Int)) && (decide (z0 ((decR s p : Nat) : Int) ≠ (2 : Int)) || decide (((n : Nat) : Int) = (0 : Int))))) :: [(3, dN n), (5, .v (.int .i32 ((decR s p : Nat) : Int))), (6, dI (z0 ((decR s p : Nat) : Int))), (8, dP g1 0), (9, .tup [dB true, dN p, .v (.int .i32 ((decR s p : Nat) : Int))]), (10, dB true), (11, .v (.int .i32 ((decR s p : Nat) : Int))), (12, .v (.int .i32 ((decR s p : Nat) : Int))), (13, dI (z0 ((decR s p : Nat) : Int)))]) ⟨sc rfl (Cv.eq (congrArg (fun b => D.v (.bool b)) (by first | (simp [hg3, hg4]; done) | (simp_all; done)))), sk rfl, sk rfl, sk rfl, sk rfl, sk rfl, sk rfl, sk rfl, sk rfl, sk rfl, trivial⟩ hQ2
      · skip
        refine za rfl (oR 1 rfl (oP rfl (zbs rfl rfl (decide_eq_false hg3)) (oR 8 rfl (zi rfl ?_))))
        exact PD.sub ((23, dB (decide (z0 ((decR s p : Nat) : Int) ≠ (1 : Int)) && (decide (z0 ((decR s p : Nat) : Int) ≠ (2 : Int)) || decide (((n : Nat) : Int) = (0 : Int))))) :: [(3, dN n), (5, .v (.int .i32 ((decR s p : Nat) : Int))), (6, dI (z0 ((decR s p : Nat) : Int))), (8, dP g1 0), (9, .tup [dB true, dN p, .v (.int .i32 ((decR s p : Nat) : Int))]), (10, dB true), (11, .v (.int .i32 ((decR s p : Nat) : Int))), (12, .v (.int .i32 ((decR s p : Nat) : Int))), (13, dI (z0 ((decR s p : Nat) : Int)))]) ⟨sc rfl (Cv.eq (congrArg (fun b => D.v (.bool b)) (by first | (simp [hg3]; done) | (simp_all; done)))), sk rfl, sk rfl, sk rfl, sk rfl, sk rfl, sk rfl, sk rfl, sk rfl, sk rfl, trivial⟩ hQ2
    · skip
      refine zd ?_
      refine jC rfl (fun hc5 => ?_) (fun hc5 => ?_)
      · simp only [bA, bB, bC, bD, bE, bF, bG, bH, bI, bJ] at hc5
        refine jT rfl (oR 1 rfl (oZ rfl (zm rfl (zc (ze (zJ (ze (zc ?_))))))))
        exact zj Tryz.results191 (.cons (zr (zg rfl) (Cv.eq (congrArg (fun b => D.v (.bool b)) (by unfold zbt; rw [hf, hrune]; rw [nameR_bad (by omega)])))) .nil) rfl HSub.none ⟨rfl, rfl⟩
      · simp only [bA, bB, bC, bD, bE, bF, bG, bH, bI, bJ] at hc5
        refine zk rfl (zd (za rfl (oR 1 rfl (oP rfl (zQ (c := ((n + 1 : Nat) : Int)) rfl rfl (zD (by omega) (by omega))) (oR 1 rfl (zi rfl (zw ?_)))))))
        exact pl2 (p + decW s p) (n + 1) (sa rfl) HSub.rfl' ⟨by have := decW_le s p hlt; omega, by omega, by rw [hf, hrune, nameR_next (by omega)]⟩ (by have := zcc s p; omega)
  · skip
    have hrune := runesAt_ge hge
    refine jT rfl (oP rfl (p_next_f (i := 0) rfl rfl hge) (oR 1 rfl (oZ rfl (jS rfl (jCf rfl (zK rfl (zp (zn (zl (zd (jS rfl (jk [3] rfl ?_))))))))))))
    refine zai 2 ((decide ((1 : Int) ≤ ((n : Nat) : Int)) && decide (((n : Nat) : Int) ≤ (30 : Int)))) [.it g1 s p] (fun _ hQ6 => ?_) ?_
    · skip
      by_cases hg7 : (1 : Int) ≤ ((n : Nat) : Int)
      · skip
        refine za rfl (oR 1 rfl (oP rfl (zS rfl rfl (decide_eq_true hg7)) (oR 2 rfl (oG rfl (zao rfl rfl rfl) (oR 2 rfl (zi rfl ?_))))))
        exact PD.sub ((2, dB (decide ((1 : Int) ≤ ((n : Nat) : Int)) && decide (((n : Nat) : Int) ≤ (30 : Int)))) :: [(3, dN n)]) ⟨sc rfl (Cv.eq (congrArg (fun b => D.v (.bool b)) (by first | (simp [hg7]; done) | (simp_all; done)))), sk rfl, trivial⟩ hQ6
      · skip
        refine za rfl (oR 1 rfl (oP rfl (zS rfl rfl (decide_eq_false hg7)) (oR 5 rfl (zi rfl ?_))))
        exact PD.sub ((2, dB (decide ((1 : Int) ≤ ((n : Nat) : Int)) && decide (((n : Nat) : Int) ≤ (30 : Int)))) :: [(3, dN n)]) ⟨sc rfl (Cv.eq (congrArg (fun b => D.v (.bool b)) (by first | (simp [hg7]; done) | (simp_all; done)))), sk rfl, trivial⟩ hQ6
    · skip
      refine zd (zm rfl ?_)
      exact zj Tryz.results191 (.cons (zr (zg rfl) (Cv.eq (congrArg (fun b => D.v (.bool b)) (by unfold zbt; rw [hf, hrune]; simp only [zbZ]; congr 1 <;> exact decide_eq_decide.2 (by omega))))) .nil) rfl HSub.none ⟨rfl, rfl⟩

theorem refSpell_c (s : ByteArray) (hs : s.size ≤ 1000000000) :
    CD Tryz.prog 157 [] [.s s] (zcy 1 21 ((zaG s).map dR)) := by
  refine zq Tryz.func157 rfl (N := 16) rfl rfl (fun C => ?_)
  refine jk [0] rfl ?_
  refine JD.bd 0 rfl (fun bd0 => ?_)
  have sz0 : s.size ≤ 9223372036854775807 := bd0
  refine jT rfl (oR 1 rfl (oZ rfl (jT rfl (oR 1 rfl (oZ rfl (jS rfl (jT rfl (oR 1 rfl (oE rfl (ef_range rfl Tryz.runUnderlying9) ?_)))))))))
  rintro _ _ ⟨g1, rfl, rfl⟩
  refine oZ rfl (jB rfl (jl3 (fun (a_ : Nat) (b_ : Value) (c_ : List Int) => [(2, dZ), (7, dP g1 0), (3, .ov b_)]) (fun a_ b_ c_ => [.it g1 s a_, .sl b_ 1 21 (c_.map dR)]) (fun a_ b_ c_ => (a_ ≤ s.size) ∧ (c_.length ≤ a_) ∧ (zaG s = c_ ++ zbJ s a_)) (fun a_ b_ c_ => s.size - a_) 0 (.slice none 0 0) [] rfl ⟨sk rfl, sk rfl, sc rfl (Cv.ov rfl), trivial⟩ (HSub.trans (HSub.nil 1 21) (HSub.perm (List.Perm.swap _ _ _))) ⟨Nat.zero_le _, Nat.le_refl _, rfl⟩ ?_))
  rintro p ov l ⟨hp, hn, hf⟩
  refine ja rfl (jn rfl ?_)
  rcases Nat.lt_or_ge p s.size with hlt | hge
  · skip
    have hrune := runesAt_lt hlt
    have hrl := decR_lt s p
    have hdw := decW_le s p hlt
    have hdp := zcc s p
    refine jT rfl (oE rfl (ef_next_t (i := 0) rfl rfl hlt) ?_)
    rintro _ _ ⟨rfl, rfl⟩
    refine on rfl (oR 1 rfl (oZ rfl (jS rfl (jCt rfl (zk rfl (zd (jB rfl (jT rfl (oR 2 rfl (oZ rfl (za rfl (oR 2 rfl (oE rfl (zab [.tmp 12] rfl rfl (.cons (CellD.v rfl) .nil) rfl Tryz.runUnderlying124 Tryz.sizeOf21 Tryz.zeroValue21 rfl rfl rfl rfl) ?_)))))))))))))
    rintro _ _ ⟨g2, rfl, rfl⟩
    refine oE rfl (z3 (f := dR) (l := l) (l' := [((decR s p : Nat) : Int)]) (i := 2) rfl rfl rfl (SrcD.own (j := 0) rfl rfl) und_124 infz_21 rfl rfl (by unfold maxLen; (try simp only [la, lc, ln, lm, lt', ld, ls, lr]); omega) (by (try simp only [la, lc, ln, lm, lt', ld, ls, lr]); omega)) ?_
    rintro _ _ ⟨v3, rfl, rfl⟩
    refine on rfl (oR 1 rfl (zi rfl (zw ?_)))
    exact pl3 (p + decW s p) v3 (l ++ [((decR s p : Nat) : Int)]) (sa rfl) (HSub.lst 1 rfl) ⟨by have := decW_le s p hlt; omega, by rw [List.length_append, List.length_singleton]; omega, by rw [hf, hrune, List.append_assoc]; rfl⟩ (by have := zcc s p; omega)
  · skip
    have hrune := runesAt_ge hge
    refine jT rfl (oP rfl (p_next_f (i := 0) rfl rfl hge) (oR 1 rfl (oZ rfl (jS rfl (jCf rfl (zK rfl (zp (zn (zl (zd (jT rfl (oR 2 rfl (oZ rfl (zm rfl (PD.subH (HSub.less (zbd (i := 1) rfl)) (PD.subH (HSub.turn (h' := .sl ov 1 21 ((zaG s).map dR)) rfl (Hp.eq_sl (show List.map dR l = List.map dR (zaG s) from congrArg _ (by rw [hf, hrune, List.append_nil])))) ?_))))))))))))))))
    exact zbh Tryz.results157 (.cons (zg rfl) .nil) rfl ⟨_, rfl, rfl⟩

theorem refName_c (s : ByteArray) (hs : s.size ≤ 1000000000) :
    CD Tryz.prog 109 [] [.s s] (isR (dB (zbt s))) := by
  refine zq Tryz.func109 rfl (N := 42) rfl rfl (fun C => ?_)
  refine jk [0] rfl ?_
  refine JD.bd 0 rfl (fun bd0 => ?_)
  have sz0 : s.size ≤ 9223372036854775807 := bd0
  refine jT rfl (oR 1 rfl (oZ rfl (jT rfl (oR 1 rfl (oE rfl (zH [] _ [] rfl rfl (.cons ArgC.id .nil) zu Tryz.call157 (refSpell_c s (by omega)) (.inl rfl)) ?_)))))
  rintro _ _ ⟨_, ⟨v1, rfl, rfl⟩, rfl⟩
  refine on rfl (oR 1 rfl (oZ rfl (jS rfl (jS rfl ?_))))
  by_cases hg2 : (((zaG s).length : Nat) : Int) < (1 : Int)
  · skip
    refine za rfl (oR 1 rfl (oP rfl (zN (n := (zaG s).length) (j := 0) rfl rfl Tryz.runUnderlying124 (List.length_map _)) (oP rfl (zP rfl rfl (decide_eq_true hg2)) (oR 12 rfl (oZ rfl (jk [2, 3, 21] rfl (jCt rfl (jT rfl (oR 1 rfl (oZ rfl (zm rfl (zc ?_))))))))))))
    exact zj Tryz.results109 (.cons (zr (zg rfl) (Cv.eq (congrArg (fun b => D.v (.bool b)) (by unfold zbt; rw [zbF]; first | (rw [List.take_of_length_le (by omega)] at hw; rw [List.getD_eq_getElem?_getD, hx1, hw]; simp; omega) | (rw [List.getD_eq_getElem?_getD, hx1]; simp; omega) | (simp; omega))))) .nil) rfl HSub.none ⟨rfl, rfl⟩
  · skip
    by_cases hg3 : (30 : Int) < (((zaG s).length : Nat) : Int)
    · skip
      refine za rfl (oR 1 rfl (oP rfl (zN (n := (zaG s).length) (j := 0) rfl rfl Tryz.runUnderlying124 (List.length_map _)) (oP rfl (zP rfl rfl (decide_eq_false hg2)) (oR 2 rfl (oG rfl (zN (n := (zaG s).length) (j := 0) rfl rfl Tryz.runUnderlying124 (List.length_map _)) (oG rfl (zat rfl rfl (decide_eq_true hg3)) (oR 8 rfl (oZ rfl (jk [2, 3, 21] rfl (jCt rfl (jT rfl (oR 1 rfl (oZ rfl (zm rfl (zc ?_)))))))))))))))
      exact zj Tryz.results109 (.cons (zr (zg rfl) (Cv.eq (congrArg (fun b => D.v (.bool b)) (by unfold zbt; rw [zbF]; first | (rw [List.take_of_length_le (by omega)] at hw; rw [List.getD_eq_getElem?_getD, hx1, hw]; simp; omega) | (rw [List.getD_eq_getElem?_getD, hx1]; simp; omega) | (simp; omega))))) .nil) rfl HSub.none ⟨rfl, rfl⟩
    · skip
      refine za rfl (oR 1 rfl (oP rfl (zN (n := (zaG s).length) (j := 0) rfl rfl Tryz.runUnderlying124 (List.length_map _)) (oP rfl (zP rfl rfl (decide_eq_false hg2)) (oR 2 rfl (oG rfl (zN (n := (zaG s).length) (j := 0) rfl rfl Tryz.runUnderlying124 (List.length_map _)) (oG rfl (zat rfl rfl (decide_eq_false hg3)) (oR 3 rfl ?_)))))))
      obtain ⟨x1, hx1⟩ := zy (zaG s) 0 (by omega)
      refine oG rfl (zh (k := 0) (j := 0) rfl rfl rfl Tryz.runUnderlying124 Tryz.sizeOf21 (by first | rfl | omega) (zf hx1)) (oG rfl (zZ rfl (i := 0) rfl (zf hx1) Tryz.isAgg21 rfl) (oV rfl rfl acs Tryz.call158 (refKind_c x1) (oG rfl (zbs rfl rfl rfl) (oR 1 rfl (oZ rfl (jk [2, 3, 21] rfl ?_))))))
      refine jD rfl (fun hc4 => ?_) (fun hc4 => ?_)
      · skip
        refine jT rfl (oR 1 rfl (oZ rfl (zm rfl (zc ?_))))
        exact zj Tryz.results109 (.cons (zr (zg rfl) (Cv.eq (congrArg (fun b => D.v (.bool b)) (by unfold zbt; rw [zbF]; first | (rw [wordR_bad hx1 (by omega)]; simp; done) | (rw [List.take_of_length_le (by omega)] at hw; rw [List.getD_eq_getElem?_getD, hx1, hw]; simp; omega) | (rw [List.getD_eq_getElem?_getD, hx1]; simp; omega) | (simp; omega))))) .nil) rfl HSub.none ⟨rfl, rfl⟩
      · skip
        refine zk rfl (zd (jS rfl (jT rfl (oR 1 rfl (oZ rfl (jB rfl (jl1 (fun (a_ : Nat) => [(3, .ov v1), (4, dN a_)]) (fun a_ => [.sl v1 1 21 ((zaG s).map dR)]) (fun a_ => (a_ ≤ (zaG s).length) ∧ (zcm ((zaG s).take a_) = true)) (fun a_ => (zaG s).length - a_) 0 rfl (sa rfl) HSub.rfl' ⟨Nat.zero_le _, rfl⟩ ?_)))))))
        rintro k ⟨hk, hw⟩
        refine ja rfl (jn rfl (jS rfl (jT rfl (oR 2 rfl (oP rfl (zN (n := (zaG s).length) (j := 0) rfl rfl Tryz.runUnderlying124 (List.length_map _)) (oP rfl (zP rfl rfl rfl) (oZ rfl ?_)))))))
        refine jD rfl (fun hc5 => ?_) (fun hc5 => ?_)
        · skip
          refine zk rfl (zd (jS rfl (jB rfl (jS rfl ?_))))
          obtain ⟨x2, hx2⟩ := zy (zaG s) k (by omega)
          refine jk [3, 4, 22, 23, 24, 25] rfl ?_
          refine zai 41 ((decide (z0 x2 ≠ (1 : Int)) && decide (z0 x2 ≠ (2 : Int)))) [.sl v1 1 21 ((zaG s).map dR)] (fun _ hQ6 => ?_) ?_
          · skip
            by_cases hg7 : z0 x2 ≠ (1 : Int)
            · skip
              refine za rfl (oR 2 rfl (oP rfl (zh (k := k) (j := 0) rfl rfl rfl Tryz.runUnderlying124 Tryz.sizeOf21 (by first | rfl | omega) (zf hx2)) (oP rfl (zZ rfl (i := 0) rfl (zf hx2) Tryz.isAgg21 rfl) (oW rfl rfl acs Tryz.call158 (refKind_c x2) (oP rfl (zbs rfl rfl (decide_eq_true hg7)) (oR 3 rfl (oG rfl (zh (k := k) (j := 0) rfl rfl rfl Tryz.runUnderlying124 Tryz.sizeOf21 (by first | rfl | omega) (zf hx2)) (oG rfl (zZ rfl (i := 0) rfl (zf hx2) Tryz.isAgg21 rfl) (oV rfl rfl acs Tryz.call158 (refKind_c x2) (oG rfl (zbs rfl rfl rfl) (oR 1 rfl (zi rfl ?_))))))))))))
              exact PD.sub ((41, dB (decide (z0 x2 ≠ (1 : Int)) && decide (z0 x2 ≠ (2 : Int)))) :: [(3, .ov v1), (4, dN k), (22, dN k), (23, .ov v1), (24, dN ((zaG s).length)), (25, dB (decide (((k : Nat) : Int) < (((zaG s).length : Nat) : Int))))]) ⟨sc rfl (Cv.eq (congrArg (fun b => D.v (.bool b)) (by first | (simp [hc5, hg7]; done) | (simp_all; done)))), sk rfl, sk rfl, sk rfl, sk rfl, sk rfl, sk rfl, trivial⟩ hQ6
            · skip
              refine za rfl (oR 2 rfl (oP rfl (zh (k := k) (j := 0) rfl rfl rfl Tryz.runUnderlying124 Tryz.sizeOf21 (by first | rfl | omega) (zf hx2)) (oP rfl (zZ rfl (i := 0) rfl (zf hx2) Tryz.isAgg21 rfl) (oW rfl rfl acs Tryz.call158 (refKind_c x2) (oP rfl (zbs rfl rfl (decide_eq_false hg7)) (oR 8 rfl (zi rfl ?_)))))))
              exact PD.sub ((41, dB (decide (z0 x2 ≠ (1 : Int)) && decide (z0 x2 ≠ (2 : Int)))) :: [(3, .ov v1), (4, dN k), (22, dN k), (23, .ov v1), (24, dN ((zaG s).length)), (25, dB (decide (((k : Nat) : Int) < (((zaG s).length : Nat) : Int))))]) ⟨sc rfl (Cv.eq (congrArg (fun b => D.v (.bool b)) (by first | (simp [hc5, hg7]; done) | (simp_all; done)))), sk rfl, sk rfl, sk rfl, sk rfl, sk rfl, sk rfl, trivial⟩ hQ6
          · skip
            refine zd ?_
            refine jC rfl (fun hc8 => ?_) (fun hc8 => ?_)
            · simp only [bA, bB, bC, bD, bE, bF, bG, bH, bI, bJ] at hc8
              refine jT rfl (oR 1 rfl (oZ rfl (zm rfl (ze (zc (zJ (ze (zc ?_))))))))
              exact zj Tryz.results109 (.cons (zr (zg rfl) (Cv.eq (congrArg (fun b => D.v (.bool b)) (by unfold zbt; rw [zbF]; first | (rw [wordR_bad hx2 (by omega)]; simp; done) | (rw [List.take_of_length_le (by omega)] at hw; rw [List.getD_eq_getElem?_getD, hx1, hw]; simp; omega) | (rw [List.getD_eq_getElem?_getD, hx1]; simp; omega) | (simp; omega))))) .nil) rfl HSub.none ⟨rfl, rfl⟩
            · simp only [bA, bB, bC, bD, bE, bF, bG, bH, bI, bJ] at hc8
              refine zk rfl (zw (zd (za rfl (oR 1 rfl (oP rfl (zQ (c := ((k + 1 : Nat) : Int)) rfl rfl (zD (by omega) (by omega))) (oR 1 rfl (zi rfl ?_)))))))
              exact pl1 (k + 1) (sa rfl) HSub.rfl' ⟨by omega, wordR_take hx2 hw (by omega)⟩ (by omega)
        · skip
          refine zK rfl (zp (zn (zl (zd (jT rfl (oR 1 rfl (oZ rfl (zm rfl ?_))))))))
          exact zj Tryz.results109 (.cons (zr (zg rfl) (Cv.eq (congrArg (fun b => D.v (.bool b)) (by unfold zbt; rw [zbF]; first | (rw [List.take_of_length_le (by omega)] at hw; rw [List.getD_eq_getElem?_getD, hx1, hw]; simp; omega) | (rw [List.getD_eq_getElem?_getD, hx1]; simp; omega) | (simp; omega))))) .nil) rfl HSub.none ⟨rfl, rfl⟩
end Lp
