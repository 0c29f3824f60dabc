/-
  BITS of small numbers; the capacity of a row; a new row of whatever bytes; a copy of nothing.
-/
import Derived.Test.YtjhkajkickngmaaDI
import Derived.Lib.MakeNoZero
set_option linter.unusedVariables false
namespace Lp
open Go Go.RowKit

theorem fdiv_nat (a n : Nat) : Int.fdiv (a : Int) (2 ^ n) = ((a / 2 ^ n : Nat) : Int) := by
  rw [show (2 : Int) ^ n = ((2 ^ n : Nat) : Int) by push_cast; rfl]
  rw [Int.fdiv_eq_ediv_of_nonneg _ (Int.natCast_nonneg _)]
  exact (Int.natCast_ediv a (2 ^ n)).symm
section
variable {P : Program} {ty : TypeId} {K : Kd} {H : List Hp} {t t' : TypeId} {x y : Operand}
theorem p_shr {k k' : IntKind} {a n m : Nat} (hx : opD K x = some (.v (.int k (a : Int)))) (hy : opD K y = some (.v (.int k' (n : Int)))) (hn : n ≤ k.bits) (hm : 2 ^ n = m) : Pu P (.binOp .shr t x y t') ty K H (.v (.int k ((a / m : Nat) : Int))) :=
  p_bin hx hy (fun w => by
    subst hm
    have h1 : ¬ ((n : Nat) : Int) < 0 := by omega
    have h2 : min n k.bits = n := by omega
    simp [eqGuard, binOp, Op.shift, h1, h2, fdiv_nat])
theorem bv8 (a b : Nat) (ha : a < 256) (hb : b < 256) : (BitVec.ofInt IntKind.u8.bits (a : Int) &&& BitVec.ofInt IntKind.u8.bits (b : Int)).toNat = a &&& b := by
  rw [BitVec.toNat_and, BitVec.toNat_ofInt, BitVec.toNat_ofInt]
  have e : (2 : Nat) ^ IntKind.u8.bits = 256 := rfl
  rw [e]
  congr 1 <;> omega
theorem bv8o (a b : Nat) (ha : a < 256) (hb : b < 256) : (BitVec.ofInt IntKind.u8.bits (a : Int) ||| BitVec.ofInt IntKind.u8.bits (b : Int)).toNat = a ||| b := by
  rw [BitVec.toNat_or, BitVec.toNat_ofInt, BitVec.toNat_ofInt]
  have e : (2 : Nat) ^ IntKind.u8.bits = 256 := rfl
  rw [e]
  congr 1 <;> omega
theorem wrap8 {n : Nat} (h : n < 256) : IntKind.u8.wrap (n : Int) = (n : Int) := by simp [IntKind.wrap, IntKind.bits, IntKind.signed]; omega
theorem p_and8 {a b c : Nat} (hx : opD K x = some (.v (.int .u8 (a : Int)))) (hy : opD K y = some (.v (.int .u8 (b : Int)))) (ha : a < 256) (hb : b < 256) (hc : a &&& b = c) : Pu P (.binOp .and t x y t') ty K H (.v (.int .u8 (c : Int))) :=
  p_bin hx hy (fun w => by
    subst hc
    have h : a &&& b < 256 := Nat.lt_of_le_of_lt Nat.and_le_left ha
    simp only [eqGuard, binOp, Op.intBits, bv8 a b ha hb, wrap8 h]
    rfl)
theorem p_or8 {a b c : Nat} (hx : opD K x = some (.v (.int .u8 (a : Int)))) (hy : opD K y = some (.v (.int .u8 (b : Int)))) (ha : a < 256) (hb : b < 256) (hc : a ||| b = c) : Pu P (.binOp .or t x y t') ty K H (.v (.int .u8 (c : Int))) :=
  p_bin hx hy (fun w => by
    subst hc
    have h : a ||| b < 256 := Nat.or_lt_two_pow (n := 8) ha hb
    simp only [eqGuard, binOp, Op.intBits, bv8o a b ha hb, wrap8 h]
    rfl)
theorem and63 (a : Nat) : a &&& 63 = a % 64 := Nat.and_two_pow_sub_one_eq_mod a 6
theorem and15 (a : Nat) : a &&& 15 = a % 16 := Nat.and_two_pow_sub_one_eq_mod a 4
theorem or128 : ∀ a, a < 64 → 128 ||| a = 128 + a := by decide
theorem or192 : ∀ a, a < 32 → 192 ||| a = 192 + a := by decide
theorem or224 : ∀ a, a < 16 → 224 ||| a = 224 + a := by decide
theorem or240 : ∀ a, a < 8 → 240 ||| a = 240 + a := by decide
/-- the capacity of nothing -/
theorem p_cap_nil {e : TypeId} (hx : opO K x = some (.slice none 0 0)) (ht : ∀ w, (underlying t).run P w = .ok (.slice e) w) : Pu P (.call { callee := .builtin .cap, args := #[x], argTypes := #[t] }) ty K H (.v (.int .i64 0)) :=
  ⟨fun ρ w F hk _ _ => by
    have e1 := hk.opO hx
    refine EOp.of_run (v := .int .i64 0) (w' := w) ?_ ⟨rfl, rfl⟩
    simp [execOp, mkOper, resolve, invoke, builtin, e1, Builtin.cap_, ht, goInt]⟩
theorem digits_int : ∀ (n t : Nat) (acc : Array Value), (∀ x ∈ acc.toList, x.oneCell' = true) → ∀ x ∈ (Extern.BytealgMakeNoZero.digits n t acc).toList, x.oneCell' = true
  | 0, _, _, h => h
  | n + 1, t, acc, h => by
    rw [Extern.BytealgMakeNoZero.digits]
    refine digits_int n _ _ fun x hx => ?_
    simp only [Array.toList_push, List.mem_append, List.mem_singleton] at hx
    rcases hx with hx | rfl
    · exact h x hx
    · rfl
theorem repE_any {w : World} {F : Nat → Prop} : ∀ us : List Value, (∀ u ∈ us, u.oneCell' = true) → RepE w F 1 (List.replicate us.length .any) us
  | [], _ => rfl
  | u :: r, h => ⟨_, _, rfl, h u List.mem_cons_self, One.one (h u List.mem_cons_self), by rw [cells_one (h u List.mem_cons_self)]; rfl, repE_any r (fun x hx => h x (List.mem_cons_of_mem _ hx))⟩
/-- A new row of so many bytes, whatever they are. -/
theorem ef_makeNoZero {f : FuncId} {ats ps : Array TypeId} {rt T n : Nat} (hc : ∀ args w, (callFunc f args).run P w = ((Extern.BytealgMakeNoZero.makeNoZero ps #[rt] args).run P w).andThen fun v w' => .ok (.value v) w') (hx : opD K x = some (.v (.int .i64 (n : Int)))) (ht : P.underlying rt = some (.slice T)) (hn : n ≤ 140737488355328) :
    Ef P (.call { callee := .value (.func f), args := #[x], argTypes := ats }) ty K H (fun d H' => ∃ v, d = .ov v ∧ H' = .sl v 1 T (List.replicate n .any) :: H) :=
  ⟨fun C ρ w F hk gd => by
    have e1 : ev ρ x = _ := hk.op hx
    have hrun : ∃ cs : Array Value, (Extern.BytealgMakeNoZero.makeNoZero ps #[rt] #[.int .i64 n]).run P w = .ok (.slice (some ⟨w.heap.size, 0, none⟩) n cs.size) (w.drew.drew.alloc (.cells cs T)) ∧ n ≤ cs.size ∧ cs.size ≤ maxLen ∧ ∀ x ∈ cs.toList, x.oneCell' = true := by
      refine ⟨Extern.BytealgMakeNoZero.digits (grownCap w n 0 T) ((Question.extern "internal/bytealg.MakeNoZero.bytes" 0).cut (w.tape (w.drawn + 1) (.extern "internal/bytealg.MakeNoZero.bytes" 0))) #[], ?_, ?_, ?_, ?_⟩
      · have h1 : ¬ (n : Int) < 0 := by omega
        have h2 : ¬ (281474976710656 : Int) < (n : Int) := by omega
        have hdef : Extern.BytealgMakeNoZero.makeNoZero ps #[rt] #[.int .i64 n] = (do
            let .slice elem ← underlying rt | stuck "bytealg.MakeNoZero: slice type expected"
            if (n : Int) < 0 || (n : Int) > 2 ^ 48 then runtimePanic (.error "makeslice: len out of range")
            let cap ← choose (.appendCap (n : Int).toNat 0 elem)
            askRoom cap
            let bytes ← choose (.extern "internal/bytealg.MakeNoZero.bytes" 0)
            let a ← newRow elem (Extern.BytealgMakeNoZero.digits cap bytes #[])
            pure (.slice (some a) (n : Int).toNat cap)) := rfl
        rw [hdef]
        simp [run_underlying ht, h1, h2, Question.forced, newRow, Lib.size_digits, grownCap]
      · rw [Lib.size_digits]; simpa using grownCap_ge w n 0 T
      · rw [Lib.size_digits]; simpa using grownCap_le_maxLen w n 0 T (by unfold maxLen; omega)
      · exact digits_int _ _ _ (by simp)
    obtain ⟨cs, r1, r2, r3, r4⟩ := hrun
    have n1 : New w (w.drew.drew.alloc (.cells cs T)) w.heap.size T cs.toList := by
      have := New.mk' w.drew.drew T cs
      exact ⟨rfl, this.box, (Ext.drew w).trans ((Ext.drew w.drew).trans this.ext), this.size⟩
    refine EOp.of_run (v := .slice (some ⟨w.heap.size, 0, none⟩) n cs.size) (w' := w.drew.drew.alloc (.cells cs T)) ?_ ⟨F, _, _, ⟨_, rfl, rfl⟩, ⟨rfl, rfl⟩, gd.born n1 ⟨cs.toList.take n, ?_, ?_⟩ (fun b e => by cases e; rfl), Keep.ext n1.ext⟩
    · have e0 : ev ρ (.func f) = .func (.func f) #[] #[] := rfl
      simp [execOp, mkOper, resolve, e0, Deferred.ofValue, invoke, hc, e1, r1]
    · have := repE_any (w := w.drew.drew.alloc (.cells cs T)) (F := F) (cs.toList.take n) (fun u hu => r4 u (List.mem_of_mem_take hu))
      rw [List.length_take, Array.length_toList, Nat.min_eq_left r2] at this
      exact this
    · have hl : (cs.toList.take n).length = n := by rw [List.length_take, Array.length_toList, Nat.min_eq_left r2]
      have hv : ∀ x ∈ cs.toList.take n, (vcs x).length = 1 := fun x hx => by rw [vcs_one (r4 x (List.mem_of_mem_take hx))]; rfl
      refine ⟨⟨flat_len hv, .inr ⟨w.heap.size, cs.size, cs, by rw [hl], Nat.zero_le _, n1.box, by omega, r3, by simp, ?_⟩⟩, hv⟩
      rw [hl, Nat.mul_one, flat_one (fun u hu => r4 u (List.mem_of_mem_take hu))]⟩
/-- of a row of the call's own the front alone -/
theorem Hp.front {v : Value} {T : TypeId} {xs : List D} {m : Nat} (hm : m ≤ xs.length) : ∀ w F, (Hp.sl v 1 T xs).ok w F → (Hp.sl (cut 1 v 0 m) 1 T (xs.take m)).ok w F := fun w F ⟨us, h1, h2⟩ => by
  have hl := h1.len
  refine ⟨us.take m, h1.take m, ?_⟩
  rcases Nat.eq_zero_or_pos xs.length with h0 | h0
  · have hu : us = [] := List.eq_nil_of_length_eq_zero (by omega)
    have : m = 0 := by omega
    subst this; subst hu
    obtain ⟨A, c, e, _⟩ := h2.sl.capOk
    subst e
    cases A with
    | none => simpa [cut] using h2
    | some a => simpa [cut, Addr.add] using h2
  · obtain ⟨cap, r, e, _⟩ := h2.form (by omega)
    rw [e] at h2
    have := h2.front (m := m) (by omega)
    rw [e]
    simpa [cut, Addr.add] using this
theorem cut_form (v : Value) : ∀ {A : Option Addr} {n c : Nat}, v = .slice A n c → cut 1 v 0 0 = .slice A 0 c := by
  rintro A n c rfl
  cases A <;> simp [cut, Addr.add]
theorem Hp.front_blk {T : TypeId} {xs ys : List D} (v : Value) : (Hp.sl (cut 1 v 0 0) 1 T ys).blk = (Hp.sl v 1 T xs).blk := by
  cases v <;> try rfl
  rename_i A n c
  rw [cut_form _ rfl]
  cases A <;> rfl
theorem p_slice_ownov {t e : TypeId} {z a b j : Nat} {lo hi : Option Operand} {v : Value} {T : TypeId} {xs : List D} {rl rh : Option Int} (hx : opO K x = some v) (hm : nth H j = some (.sl v z T xs)) (hlo : bndD K lo = some rl) (hhi : bndD K hi = some rh) (ha : Bnd rl 0 a) (hb : Bnd rh xs.length b)
    (ht : ∀ w, (underlying t).run P w = .ok (.slice e) w) (hs : ∀ w, (Go.sizeOf e).run P w = .ok z w) (hab : a ≤ b) (hbn : b ≤ xs.length) : Pu P (.slice t x lo hi none) ty K H (.ov (cut z v a b)) :=
  ⟨fun ρ w F hk hF hH => ((p_slice_own (ty := ty) hx hm hlo hhi ha hb ht hs hab hbn).out ρ w F hk hF hH).mono fun u w' ⟨e, hr⟩ => ⟨e, hr, by
    obtain ⟨us, _, ho⟩ := hH _ (nth_mem hm)
    obtain ⟨A, c, hv, _⟩ := ho.sl.capOk
    rw [hv]; rfl⟩⟩
/-- a copy from nothing -/
theorem p_copy0 {t1 t2 e i : Nat} {v : Value} {T : TypeId} (hx : opO K x = some v) (hm : nth H i = some (.sl v 1 T [])) (hy : opO K y = some (.slice none 0 0)) (ht : ∀ w, (underlying t1).run P w = .ok (.slice e) w) (hs : ∀ w, (Go.sizeOf e).run P w = .ok 1 w) :
    Pu P (.call { callee := .builtin .copy, args := #[x, y], argTypes := #[t1, t2] }) ty K H (.v (.int .i64 0)) :=
  ⟨fun ρ w F hk _ hH => by
    obtain ⟨us, h1, h2⟩ := hH _ (nth_mem hm)
    obtain ⟨A, c, e, _⟩ := h2.sl.capOk
    have hl := h1.len
    have e1 := hk.opO hx
    have e2 := hk.opO hy
    rw [e] at e1
    refine EOp.of_run (v := .int .i64 0) (w' := w) ?_ ⟨rfl, rfl⟩
    cases A <;> simp [execOp, mkOper, resolve, invoke, builtin, e1, e2, Builtin.copy_, ht, hs, goInt, Builtin.lenOf, Builtin.firstCells, storeCells]⟩
end
end Lp
