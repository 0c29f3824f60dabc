/-
  BITS of small numbers; the capacity of a row; a new row of whatever bytes; a copy of nothing.
-/
import Derived.Lib.MakeNoZero
import Derived.Test.YtfjinapgehafiaaGreatPRow
set_option linter.unusedVariables false
namespace Lp
open Go Go.RowKit

theorem fdiv_nat (a n : Nat) : Int.fdiv (a : Int) (2 ^ n) = ((a / 2 ^ n : Nat) : Int) := by
  rw [show (2 : Int) ^ n = ((2 ^ n : Nat) : Int) by push_cast; rfl]
  rw [Int.fdiv_eq_ediv_of_nonneg _ (Int.natCast_nonneg _)]
  exact (Int.natCast_ediv a (2 ^ n)).symm
section
variable {P : Program} {ty : TypeId} {K : Kd} {H : List Hp} {t t' : TypeId} {x y : Operand}
theorem zcx {k k' : IntKind} {a n m : Nat} (hx : opD K x = some (.v (.int k (a : Int)))) (hy : opD K y = some (.v (.int k' (n : Int)))) (hn : n ≤ k.bits) (hm : 2 ^ n = m) : Pu P (.binOp .shr t x y t') ty K H (.v (.int k ((a / m : Nat) : Int))) :=
  zdW hx hy (fun w => by
    subst hm
    have h1 : ¬ ((n : Nat) : Int) < 0 := by omega
    have h2 : min n k.bits = n := by omega
    simp [eqGuard, binOp, Op.shift, h1, h2, fdiv_nat])
theorem bv8 (a b : Nat) (ha : a < 256) (hb : b < 256) : (BitVec.ofInt IntKind.u8.bits (a : Int) &&& BitVec.ofInt IntKind.u8.bits (b : Int)).toNat = a &&& b := by
  rw [BitVec.toNat_and, BitVec.toNat_ofInt, BitVec.toNat_ofInt]
  have e : (2 : Nat) ^ IntKind.u8.bits = 256 := rfl
  rw [e]
  congr 1 <;> omega
theorem bv8o (a b : Nat) (ha : a < 256) (hb : b < 256) : (BitVec.ofInt IntKind.u8.bits (a : Int) ||| BitVec.ofInt IntKind.u8.bits (b : Int)).toNat = a ||| b := by
  rw [BitVec.toNat_or, BitVec.toNat_ofInt, BitVec.toNat_ofInt]
  have e : (2 : Nat) ^ IntKind.u8.bits = 256 := rfl
  rw [e]
  congr 1 <;> omega
theorem wrap8 {n : Nat} (h : n < 256) : IntKind.u8.wrap (n : Int) = (n : Int) := by simp [IntKind.wrap, IntKind.bits, IntKind.signed]; omega
theorem zct {a b c : Nat} (hx : opD K x = some (.v (.int .u8 (a : Int)))) (hy : opD K y = some (.v (.int .u8 (b : Int)))) (ha : a < 256) (hb : b < 256) (hc : a &&& b = c) : Pu P (.binOp .and t x y t') ty K H (.v (.int .u8 (c : Int))) :=
  zdW hx hy (fun w => by
    subst hc
    have h : a &&& b < 256 := Nat.lt_of_le_of_lt Nat.and_le_left ha
    simp only [eqGuard, binOp, Op.intBits, bv8 a b ha hb, wrap8 h]
    rfl)
theorem zcy {a b c : Nat} (hx : opD K x = some (.v (.int .u8 (a : Int)))) (hy : opD K y = some (.v (.int .u8 (b : Int)))) (ha : a < 256) (hb : b < 256) (hc : a ||| b = c) : Pu P (.binOp .or t x y t') ty K H (.v (.int .u8 (c : Int))) :=
  zdW hx hy (fun w => by
    subst hc
    have h : a ||| b < 256 := Nat.or_lt_two_pow (n := 8) ha hb
    simp only [eqGuard, binOp, Op.intBits, bv8o a b ha hb, wrap8 h]
    rfl)
theorem zdG (a : Nat) : a &&& 63 = a % 64 := Nat.and_two_pow_sub_one_eq_mod a 6
theorem and15 (a : Nat) : a &&& 15 = a % 16 := Nat.and_two_pow_sub_one_eq_mod a 4
theorem zdv : ∀ a, a < 64 → 128 ||| a = 128 + a := by decide
theorem or192 : ∀ a, a < 32 → 192 ||| a = 192 + a := by decide
theorem or224 : ∀ a, a < 16 → 224 ||| a = 224 + a := by decide
theorem or240 : ∀ a, a < 8 → 240 ||| a = 240 + a := by decide
/-- the capacity of nothing -/
theorem p_cap_nil {e : TypeId} (hx : opO K x = some (.slice none 0 0)) (ht : ∀ w, (underlying t).run P w = .ok (.slice e) w) : Pu P (.call { callee := .builtin .cap, args := #[x], argTypes := #[t] }) ty K H (.v (.int .i64 0)) :=
  ⟨fun ρ w F hk _ _ => by
    have e1 := hk.opO hx
    refine EOp.of_run (v := .int .i64 0) (w' := w) ?_ ⟨rfl, rfl⟩
    simp [execOp, zap, resolve, invoke, builtin, e1, Builtin.cap_, ht, goInt]⟩
theorem digits_int : ∀ (n t : Nat) (acc : Array Value), (∀ x ∈ acc.toList, x.oneCell' = true) → ∀ x ∈ (Extern.BytealgMakeNoZero.digits n t acc).toList, x.oneCell' = true
  | 0, _, _, h => h
  | n + 1, t, acc, h => by
    rw [Extern.BytealgMakeNoZero.digits]
    refine digits_int n _ _ fun x hx => ?_
    simp only [Array.toList_push, List.mem_append, List.mem_singleton] at hx
    rcases hx with hx | rfl
    · exact h x hx
    · rfl
theorem repE_any {w : World} {F : Nat → Prop} : ∀ us : List Value, (∀ u ∈ us, u.oneCell' = true) → RepE w F 1 (List.replicate us.length .any) us
  | [], _ => rfl
  | u :: r, h => ⟨_, _, rfl, h u List.mem_cons_self, One.one (h u List.mem_cons_self), by rw [zdg (h u List.mem_cons_self)]; rfl, repE_any r (fun x hx => h x (List.mem_cons_of_mem _ hx))⟩
/-- A new row of so many bytes, whatever they are. -/
theorem ef_makeNoZero {f : FuncId} {ats ps : Array TypeId} {rt T n : Nat} (hc : ∀ args w, (callFunc f args).run P w = ((Extern.BytealgMakeNoZero.makeNoZero ps #[rt] args).run P w).andThen fun v w' => .ok (.value v) w') (hx : opD K x = some (.v (.int .i64 (n : Int)))) (ht : P.underlying rt = some (.slice T)) (hn : n ≤ 140737488355328) :
    Ef P (.call { callee := .value (.func f), args := #[x], argTypes := ats }) ty K H (fun d H' => ∃ v, d = .ov v ∧ H' = .sl v 1 T (List.replicate n .any) :: H) :=
  ⟨fun C ρ w F hk gd => by
    have e1 : ev ρ x = _ := hk.op hx
    have hrun : ∃ cs : Array Value, (Extern.BytealgMakeNoZero.makeNoZero ps #[rt] #[.int .i64 n]).run P w = .ok (.slice (some ⟨w.heap.size, 0, none⟩) n cs.size) (w.drew.drew.alloc (.cells cs T)) ∧ n ≤ cs.size ∧ cs.size ≤ maxLen ∧ ∀ x ∈ cs.toList, x.oneCell' = true := by
      refine ⟨Extern.BytealgMakeNoZero.digits (grownCap w n 0 T) ((Question.extern "internal/bytealg.MakeNoZero.bytes" 0).cut (w.tape (w.drawn + 1) (.extern "internal/bytealg.MakeNoZero.bytes" 0))) #[], ?_, ?_, ?_, ?_⟩
      · have h1 : ¬ (n : Int) < 0 := by omega
        have h2 : ¬ (281474976710656 : Int) < (n : Int) := by omega
        have hdef : Extern.BytealgMakeNoZero.makeNoZero ps #[rt] #[.int .i64 n] = (do
            let .slice elem ← underlying rt | stuck "bytealg.MakeNoZero: slice type expected"
            if (n : Int) < 0 || (n : Int) > 2 ^ 48 then runtimePanic (.error "makeslice: len out of range")
            let cap ← choose (.appendCap (n : Int).toNat 0 elem)
            askRoom cap
            let bytes ← choose (.extern "internal/bytealg.MakeNoZero.bytes" 0)
            let a ← newRow elem (Extern.BytealgMakeNoZero.digits cap bytes #[])
            pure (.slice (some a) (n : Int).toNat cap)) := rfl
        rw [hdef]
        simp [run_underlying ht, h1, h2, Question.forced, newRow, Lib.size_digits, grownCap]
      · rw [Lib.size_digits]; simpa using grownCap_ge w n 0 T
      · rw [Lib.size_digits]; simpa using grownCap_le_maxLen w n 0 T (by unfold maxLen; omega)
      · exact digits_int _ _ _ (by simp)
    obtain ⟨cs, r1, r2, r3, r4⟩ := hrun
    have n1 : New w (w.drew.drew.alloc (.cells cs T)) w.heap.size T cs.toList := by
      have := New.mk' w.drew.drew T cs
      exact ⟨rfl, this.box, (Ext.drew w).trans ((Ext.drew w.drew).trans this.ext), this.size⟩
    refine EOp.of_run (v := .slice (some ⟨w.heap.size, 0, none⟩) n cs.size) (w' := w.drew.drew.alloc (.cells cs T)) ?_ ⟨F, _, _, ⟨_, rfl, rfl⟩, ⟨rfl, rfl⟩, gd.born n1 ⟨cs.toList.take n, ?_, ?_⟩ (fun b e => by cases e; rfl), Keep.ext n1.ext⟩
    · have e0 : ev ρ (.func f) = .func (.func f) #[] #[] := rfl
      simp [execOp, zap, resolve, e0, Deferred.ofValue, invoke, hc, e1, r1]
    · have := repE_any (w := w.drew.drew.alloc (.cells cs T)) (F := F) (cs.toList.take n) (fun u hu => r4 u (List.mem_of_mem_take hu))
      rw [List.length_take, Array.length_toList, Nat.min_eq_left r2] at this
      exact this
    · have hl : (cs.toList.take n).length = n := by rw [List.length_take, Array.length_toList, Nat.min_eq_left r2]
      have hv : ∀ x ∈ cs.toList.take n, (vcs x).length = 1 := fun x hx => by rw [vcs_one (r4 x (List.mem_of_mem_take hx))]; rfl
      refine ⟨⟨zcq hv, .inr ⟨w.heap.size, cs.size, cs, by rw [hl], Nat.zero_le _, n1.box, by omega, r3, by simp, ?_⟩⟩, hv⟩
      rw [hl, Nat.mul_one, flat_one (fun u hu => r4 u (List.mem_of_mem_take hu))]⟩
/-- of a row of the call's own the front alone -/
theorem Hp.front {v : Value} {T : TypeId} {xs : List D} {m : Nat} (hm : m ≤ xs.length) : ∀ w F, (Hp.sl v 1 T xs).ok w F → (Hp.sl (cut 1 v 0 m) 1 T (xs.take m)).ok w F := fun w F ⟨us, h1, h2⟩ => by
  have hl := h1.len
  refine ⟨us.take m, h1.take m, ?_⟩
  rcases Nat.eq_zero_or_pos xs.length with h0 | h0
  · have hu : us = [] := List.eq_nil_of_length_eq_zero (by omega)
    have : m = 0 := by omega
    subst this; subst hu
    obtain ⟨A, c, e, _⟩ := h2.sl.capOk
    subst e
    cases A with
    | none => simpa [cut] using h2
    | some a => simpa [cut, Addr.add] using h2
  · obtain ⟨cap, r, e, _⟩ := h2.form (by omega)
    rw [e] at h2
    have := h2.front (m := m) (by omega)
    rw [e]
    simpa [cut, Addr.add] using this
theorem cut_form (v : Value) : ∀ {A : Option Addr} {n c : Nat}, v = .slice A n c → cut 1 v 0 0 = .slice A 0 c := by
  rintro A n c rfl
  cases A <;> simp [cut, Addr.add]
theorem Hp.front_blk {T : TypeId} {xs ys : List D} (v : Value) : (Hp.sl (cut 1 v 0 0) 1 T ys).blk = (Hp.sl v 1 T xs).blk := by
  cases v <;> try rfl
  rename_i A n c
  rw [cut_form _ rfl]
  cases A <;> rfl
theorem p_slice_ownov {t e : TypeId} {z a b j : Nat} {lo hi : Option Operand} {v : Value} {T : TypeId} {xs : List D} {rl rh : Option Int} (hx : opO K x = some v) (hm : nth H j = some (.sl v z T xs)) (hlo : bndD K lo = some rl) (hhi : bndD K hi = some rh) (ha : Bnd rl 0 a) (hb : Bnd rh xs.length b)
    (ht : ∀ w, (underlying t).run P w = .ok (.slice e) w) (hs : ∀ w, (Go.sizeOf e).run P w = .ok z w) (hab : a ≤ b) (hbn : b ≤ xs.length) : Pu P (.slice t x lo hi none) ty K H (.ov (cut z v a b)) :=
  ⟨fun ρ w F hk hF hH => ((za8 (ty := ty) hx hm hlo hhi ha hb ht hs hab hbn).out ρ w F hk hF hH).mono fun u w' ⟨e, hr⟩ => ⟨e, hr, by
    obtain ⟨us, _, ho⟩ := hH _ (z6 hm)
    obtain ⟨A, c, hv, _⟩ := ho.sl.capOk
    rw [hv]; rfl⟩⟩
/-- a copy from nothing -/
theorem p_copy0 {t1 t2 e i : Nat} {v : Value} {T : TypeId} (hx : opO K x = some v) (hm : nth H i = some (.sl v 1 T [])) (hy : opO K y = some (.slice none 0 0)) (ht : ∀ w, (underlying t1).run P w = .ok (.slice e) w) (hs : ∀ w, (Go.sizeOf e).run P w = .ok 1 w) :
    Pu P (.call { callee := .builtin .copy, args := #[x, y], argTypes := #[t1, t2] }) ty K H (.v (.int .i64 0)) :=
  ⟨fun ρ w F hk _ hH => by
    obtain ⟨us, h1, h2⟩ := hH _ (z6 hm)
    obtain ⟨A, c, e, _⟩ := h2.sl.capOk
    have hl := h1.len
    have e1 := hk.opO hx
    have e2 := hk.opO hy
    rw [e] at e1
    refine EOp.of_run (v := .int .i64 0) (w' := w) ?_ ⟨rfl, rfl⟩
    cases A <;> simp [execOp, zap, resolve, invoke, builtin, e1, e2, Builtin.copy_, ht, hs, goInt, Builtin.lenOf, Builtin.firstCells, storeCells]⟩
end
end Lp
/- Walks, printed by a program of mine. -/
set_option linter.unusedSimpArgs false
set_option linter.unusedVariables false
set_option maxHeartbeats 4000000
set_option maxRecDepth 100000
namespace Lp
open Go Go.RowKit Go.Proofs

namespace HdYtfjinapgehafiaaGreatV61A
theorem z2 (b o : Nat) : ∀ w, (Instr.fieldAt 53 (.pointer (some ⟨b, o, none⟩)) 0).run Tryz.prog w = .ok (.pointer (some ⟨b, o + 0, none⟩)) w := fun _ => by kernel_rfl
end HdYtfjinapgehafiaaGreatV61A
open HdYtfjinapgehafiaaGreatV61A

theorem cmpf_c (a : RowD) (b : RowD)  :
    CD Tryz.prog 42 [] [RowD.d a, RowD.d b] (isR (dI (zO 0 a b))) := by
  refine zy Tryz.func42 rfl (N := 10) rfl rfl (fun C => ?_)
  refine jk [0, 1] rfl ?_
  refine JD.bd 0 rfl (fun bd0 => ?_)
  refine JD.bd 1 rfl (fun bd1 => ?_)
  refine jT rfl (oE rfl (zdj rfl (CellD.agg)) ?_)
  rintro _ _ ⟨g1, rfl, rfl⟩
  refine oE rfl (zdj rfl (CellD.agg)) ?_
  rintro _ _ ⟨g2, rfl, rfl⟩
  refine oR 1 rfl (oZ rfl (jT rfl (oP rfl (zl rfl z2 rfl) (oP rfl (zz rfl (i := 1) rfl Tryz.isAgg50 rfl) (oP rfl (zl rfl z2 rfl) (oP rfl (zz rfl (i := 0) rfl Tryz.isAgg50 rfl) (oW rfl rfl acs Tryz.call106 (Compare2_c a.ls b.ls) (oR 1 rfl (oZ rfl (jk [4] rfl (zs rfl ?_)))))))))))
  exact zj Tryz.results42 (.cons (zB (zf rfl) (Cv.eq (congrArg (fun n => D.v (.int .i64 n)) (by rfl)))) .nil) rfl HSub.none ⟨rfl, rfl⟩

theorem swpR_c (v : Value) (l : List RowD) (a b n : Nat) (o : Int) (h1 : a + n ≤ b) (h2 : b + n ≤ l.length) (hl : l.length ≤ 1000000) :
    CD Tryz.prog 207 [.sl v 2 53 (l.map RowD.d)] [.ov v, dN a, dN b, dN n, .fn 42 [] []] (fun r H' => r = .tup [] ∧ H' = [.sl v 2 53 ((swpN n a b l).map RowD.d)]) := by
  refine zy Tryz.func207 rfl (N := 38) rfl rfl (fun C => ?_)
  refine jk [0, 1, 2, 3, 4] rfl (jT rfl (oR 1 rfl (oZ rfl (jB rfl (jl3 (fun (a_ : Nat) (b_ : Nat) (c_ : List RowD) => [(0, .ov v), (1, dN a), (2, dN b), (3, dN n), (10, dN a_)]) (fun a_ b_ c_ => [.sl v 2 53 (c_.map RowD.d)]) (fun a_ b_ c_ => (a_ + b_ = n) ∧ ((c_).length = l.length) ∧ (swpN b_ (a + a_) (b + a_) c_ = swpN n a b l)) (fun a_ b_ c_ => n - a_) 0 n l rfl (sa rfl) HSub.rfl' ⟨Nat.zero_add _, rfl, rfl⟩ ?_)))))
  rintro i k L ⟨hi, hL, hr⟩
  refine ja rfl (jn rfl (jS rfl (jT rfl (oR 2 rfl (oP rfl (zL rfl rfl rfl) (oZ rfl ?_))))))
  refine jD rfl (fun hc1 => ?_) (fun hc1 => ?_)
  · skip
    refine zq rfl (zc (jS rfl (jB rfl (jk [0, 1, 2, 3, 10, 11, 12, 13] rfl (jn rfl ?_)))))
    obtain ⟨x1, hx1⟩ := zG L (b + i) (by (try simp only [ls]); omega)
    obtain ⟨x2, hx2⟩ := zG L (a + i) (by (try simp only [ls]); omega)
    refine zbA 22 [(16, .q (.ov v)), (17, .q (dN a)), (18, .q (dN i)), (19, .q (dN (a + i))), (20, .q (.ov v)), (21, .q (dN b)), (22, .q (dN i)), (23, .q (dN (b + i))), (24, .q (.ov v)), (25, .q (dN b)), (26, .q (dN i)), (27, .q (dN (b + i))), (28, .r (.v (.pointer (some ⟨bl v, (b + i) * 2 + 0, none⟩)))), (29, .r (RowD.d x1)), (30, .q (.ov v)), (31, .q (dN a)), (32, .q (dN i)), (33, .q (dN (a + i))), (34, .r (.v (.pointer (some ⟨bl v, (a + i) * 2 + 0, none⟩)))), (35, .r (RowD.d x2)), (36, .r (.v (.pointer (some ⟨bl v, (a + i) * 2 + 0, none⟩)))), (59, .s (fun γ => [.sl v 2 53 ((L.set (a + i) x1).map RowD.d)]))] [] (Hn := fun γ => [.sl v 2 53 ((L.set (a + i) x1).map RowD.d)]) zah rfl rfl (by kernel_rfl) (by kernel_rfl) (by kernel_rfl) HSub.none (fun _ => rfl) (fun γ => ⟨so_p rfl rfl rfl (zm rfl), so_p rfl rfl rfl (zm rfl), so_p rfl rfl rfl (zm rfl), so_p rfl rfl rfl (zS (c := ((a + i : Nat) : Int)) rfl rfl (zF (by omega) (by omega))), so_p rfl rfl rfl (zm rfl), so_p rfl rfl rfl (zm rfl), so_p rfl rfl rfl (zm rfl), so_p rfl rfl rfl (zS (c := ((b + i : Nat) : Int)) rfl rfl (zF (by omega) (by omega))), so_p rfl rfl rfl (zm rfl), so_p rfl rfl rfl (zm rfl), so_p rfl rfl rfl (zm rfl), so_p rfl rfl rfl (zS (c := ((b + i : Nat) : Int)) rfl rfl (zF (by omega) (by omega))), so_r rfl rfl rfl rfl (zA (k := b + i) (j := 0) rfl rfl rfl Tryz.runUnderlying22 Tryz.sizeOf53 (by first | rfl | omega) (zt hx1)), so_r rfl rfl rfl rfl (zai (d := RowD.d x1) rfl (i := 0) rfl (zt hx1) Tryz.isAgg53 Tryz.sizeOf53 rfl rfl), so_p rfl rfl rfl (zm rfl), so_p rfl rfl rfl (zm rfl), so_p rfl rfl rfl (zm rfl), so_p rfl rfl rfl (zS (c := ((a + i : Nat) : Int)) rfl rfl (zF (by omega) (by omega))), so_r rfl rfl rfl rfl (zA (k := a + i) (j := 0) rfl rfl rfl Tryz.runUnderlying22 Tryz.sizeOf53 (by first | rfl | omega) (zt hx2)), so_r rfl rfl rfl rfl (zai (d := RowD.d x2) rfl (i := 0) rfl (zt hx2) Tryz.isAgg53 Tryz.sizeOf53 rfl rfl), so_r rfl rfl rfl rfl (zA (k := a + i) (j := 0) rfl rfl rfl Tryz.runUnderlying22 Tryz.sizeOf53 (by first | rfl | omega) (zt hx2)), zep rfl rfl rfl rfl rfl ((zaT (f := RowD.d) (k := a + i) (z := 2) (o := 0) (i := 0) (a' := x1) rfl rfl hx2 rfl (CellD.agg) Tryz.sizeOf53 rfl rfl rfl).mono (by rintro _ _ ⟨_, rfl⟩; rfl)) HSub.none, trivial⟩) (fun γ => ?_)
    refine ok [0, 1, 2, 3, 10, 11, 12, 13, 16, 17, 18, 19, 20, 21, 22, 23, 24, 25, 26, 27, 28, 29, 30, 31, 32, 33, 34, 35, 36] rfl ?_
    obtain ⟨x3, hx3⟩ := zG (L.set (a + i) x1) (b + i) (by (try simp only [ls]); omega)
    refine oP rfl (zA (k := b + i) (j := 0) rfl rfl rfl Tryz.runUnderlying22 Tryz.sizeOf53 (by first | rfl | omega) (zt hx3)) (oE rfl (zaT (f := RowD.d) (k := b + i) (z := 2) (o := 0) (i := 0) (a' := x2) rfl rfl hx3 rfl (CellD.agg) Tryz.sizeOf53 rfl rfl rfl) ?_)
    rintro _ _ ⟨rfl, rfl⟩
    refine on rfl (zg rfl (zw (zc (za rfl (oR 1 rfl (oP rfl (zS (c := ((i + 1 : Nat) : Int)) rfl rfl (zF (by omega) (by omega))) (oR 1 rfl (zg rfl ?_))))))))
    exact pl3 (i + 1) (k - 1) ((L.set (a + i) x1).set (b + i) x2) (sa rfl) HSub.rfl' ⟨by show i + 1 + (k - 1) = n; omega, by simp only [ls]; exact hL, by show swpN (k - 1) (a + (i + 1)) (b + (i + 1)) _ = _; rw [← hr]; obtain ⟨m, rfl⟩ : ∃ m, k = m + 1 := ⟨k - 1, by omega⟩; exact (swpN_next hx2 hx1).symm⟩ (by omega)
  · skip
    refine zE rfl (zr (zn (zh (PD.norm [.sl v 2 53 ((swpN n a b l).map RowD.d)] (by rw [← hr, show k = 0 by omega]; rfl) ?_))))
    exact zaR Tryz.results207 .nil rfl (HSub.fst 1 rfl) ⟨rfl, rfl⟩

theorem rotR_c (v : Value) (l : List RowD) (a m b : Nat) (o : Int) (h1 : a < m) (h2 : m < b) (h3 : b ≤ l.length) (hl : l.length ≤ 1000000) :
    CD Tryz.prog 192 [.sl v 2 53 (l.map RowD.d)] [.ov v, dN a, dN m, dN b, .fn 42 [] []] (fun r H' => r = .tup [] ∧ H' = [.sl v 2 53 ((rotL a m b l).map RowD.d)]) := by
  refine zy Tryz.func192 rfl (N := 58) rfl rfl (fun C => ?_)
  refine jk [0, 1, 2, 3, 4] rfl (jT rfl (oR 2 rfl (oP rfl (zaG (c := ((m - a : Nat) : Int)) rfl rfl (zF (by omega) (by omega))) (oR 1 rfl (oZ rfl (jT rfl (oR 2 rfl (oP rfl (zaG (c := ((b - m : Nat) : Int)) rfl rfl (zF (by omega) (by omega))) (oR 1 rfl (oZ rfl (jS rfl (jB rfl (jl3 (fun (a_ : Nat) (b_ : Nat) (c_ : List RowD) => [(0, .ov v), (2, dN m), (4, .fn 42 [] []), (10, dN a_), (11, dN b_)]) (fun a_ b_ c_ => [.sl v 2 53 (c_.map RowD.d)]) (fun a_ b_ c_ => (1 ≤ a_ ∧ a_ ≤ m - a) ∧ (1 ≤ b_ ∧ b_ ≤ b - m) ∧ ((c_).length = l.length) ∧ (rotL (m - a_) m (m + b_) c_ = rotL a m b l)) (fun a_ b_ c_ => a_ + b_) (m - a) (b - m) l rfl (sa rfl) HSub.rfl' ⟨by show 1 ≤ m - a ∧ m - a ≤ m - a; omega, by show 1 ≤ b - m ∧ b - m ≤ b - m; omega, rfl, by show rotL (m - (m - a)) m (m + (b - m)) l = _; congr 1 <;> omega⟩ ?_)))))))))))))
  rintro i j L ⟨hi, hj, hL, hr⟩
  refine ja rfl (jn rfl (jS rfl (jT rfl (oR 2 rfl (oP rfl (zau rfl rfl rfl) (oZ rfl ?_))))))
  refine jD rfl (fun hc1 => ?_) (fun hc1 => ?_)
  · skip
    refine zq rfl (zc (jB rfl (jT rfl (oR 2 rfl (oP rfl (zaz rfl rfl rfl) (oZ rfl ?_))))))
    refine jD rfl (fun hc2 => ?_) (fun hc2 => ?_)
    · skip
      refine jT rfl (oR 3 rfl (oP rfl (zaG (c := ((m - i : Nat) : Int)) rfl rfl (zF (by omega) (by omega))) (oR 3 rfl (oE rfl (zx [.sl v 2 53 (L.map RowD.d)] [] [] rfl rfl (.cons ArgC.id (.cons ArgC.id (.cons ArgC.id (.cons ArgC.id (.cons ArgC.id .nil))))) zo Tryz.call207 (swpR_c v L (m - i) m j 0 (by omega) (by omega) (by omega)) (.inl rfl)) ?_))))
      rintro _ _ ⟨_, ⟨rfl, rfl⟩, rfl⟩
      refine on rfl (oZ rfl (za rfl (oR 2 rfl (oP rfl (zaG (c := ((i - j : Nat) : Int)) rfl rfl (zF (by omega) (by omega))) (oR 1 rfl (zg rfl (zw ?_)))))))
      exact pl3 (i - j) j (swpN j (m - i) m L) (sa rfl) HSub.rfl' ⟨by show 1 ≤ i - j ∧ i - j ≤ m - a; omega, by show 1 ≤ j ∧ j ≤ b - m; omega, by rw [swpN_len]; exact hL, by show rotL (m - (i - j)) m (m + j) _ = _; rw [← hr, rot_gt (a := m - i) (j := j) (by omega) (by omega) (by omega) (by omega)]; congr 1; omega⟩ (by show i - j + j < i + j; omega)
    · skip
      refine jT rfl (oR 3 rfl (oP rfl (zaG (c := ((m - i : Nat) : Int)) rfl rfl (zF (by omega) (by omega))) (oR 2 rfl (oP rfl (zS (c := ((m + j : Nat) : Int)) rfl rfl (zF (by omega) (by omega))) (oR 1 rfl (oP rfl (zaG (c := (((m + j) - i : Nat) : Int)) rfl rfl (zF (by omega) (by omega))) (oR 2 rfl (oE rfl (zx [.sl v 2 53 (L.map RowD.d)] [] [] rfl rfl (.cons ArgC.id (.cons ArgC.id (.cons ArgC.id (.cons ArgC.id (.cons ArgC.id .nil))))) zo Tryz.call207 (swpR_c v L (m - i) ((m + j) - i) i 0 (by omega) (by omega) (by omega)) (.inl rfl)) ?_))))))))
      rintro _ _ ⟨_, ⟨rfl, rfl⟩, rfl⟩
      refine on rfl (oZ rfl (za rfl (oR 2 rfl (oP rfl (zaG (c := ((j - i : Nat) : Int)) rfl rfl (zF (by omega) (by omega))) (oR 1 rfl (zg rfl (zw ?_)))))))
      exact pl3 i (j - i) (swpN i (m - i) ((m + j) - i) L) (sa rfl) HSub.rfl' ⟨hi, by show 1 ≤ j - i ∧ j - i ≤ b - m; omega, by rw [swpN_len]; exact hL, by show rotL (m - i) m (m + (j - i)) _ = _; rw [← hr, rot_lt (a := m - i) (b := m + j) (i := i) (by omega) (by omega) (by omega) (by omega)]; congr 1; omega⟩ (by show i + (j - i) < i + j; omega)
  · skip
    refine zE rfl (zr (zn (zh (zc (za rfl (oR 3 rfl (oP rfl (zaG (c := ((m - i : Nat) : Int)) rfl rfl (zF (by omega) (by omega))) (oR 3 rfl (oE rfl (zx [.sl v 2 53 (L.map RowD.d)] [] [] rfl rfl (.cons ArgC.id (.cons ArgC.id (.cons ArgC.id (.cons ArgC.id (.cons ArgC.id .nil))))) zo Tryz.call207 (swpR_c v L (m - i) m i 0 (by omega) (by omega) (by omega)) (.inl rfl)) ?_)))))))))
    rintro _ _ ⟨_, ⟨rfl, rfl⟩, rfl⟩
    refine on rfl (zg rfl (PD.norm [.sl v 2 53 ((rotL a m b l).map RowD.d)] (by rw [← hr, rot_eq (a := m - i) (i := i) (by omega) (by omega) (by omega) (by omega)]) ?_))
    exact zaR Tryz.results192 .nil rfl (HSub.fst 1 rfl) ⟨rfl, rfl⟩

theorem insortR_c (v : Value) (l : List RowD) (a b : Nat) (o : Int) (ha : a ≤ b) (hb : b ≤ l.length) (hl : l.length ≤ 1000000) :
    CD Tryz.prog 161 [.sl v 2 53 (l.map RowD.d)] [.ov v, dN a, dN b, .fn 42 [] []] (fun r H' => r = .tup [] ∧ H' = [.sl v 2 53 ((fixI (zO 0) a b l).map RowD.d)]) := by
  refine zy Tryz.func161 rfl (N := 53) rfl rfl (fun C => ?_)
  refine jk [0, 1, 2, 3] rfl (jT rfl (oR 1 rfl (oP rfl (zS (c := ((a + 1 : Nat) : Int)) rfl rfl (zF (by omega) (by omega))) (oR 1 rfl (oZ rfl (jB rfl (jl3 (fun (a_ : Nat) (b_ : Nat) (c_ : List RowD) => [(0, .ov v), (1, dN a), (2, dN b), (3, .fn 42 [] []), (8, dN a_)]) (fun a_ b_ c_ => [.sl v 2 53 (c_.map RowD.d)]) (fun a_ b_ c_ => (a + 1 ≤ a_) ∧ (b ≤ a_ + b_) ∧ ((c_).length = l.length) ∧ (isrt (zO 0) a b b_ (a_) c_ = isrt (zO 0) a b b (a + 1) l)) (fun a_ b_ c_ => b - a_) (a + 1) b l rfl (sa rfl) HSub.rfl' ⟨Nat.le_refl _, by show b ≤ a + 1 + b; omega, rfl, rfl⟩ ?_)))))))
  rintro i n L ⟨hi, hn, hL, hr⟩
  refine ja rfl (jn rfl (jS rfl (jT rfl (oR 2 rfl (oP rfl (zL rfl rfl rfl) (oZ rfl ?_))))))
  refine jD rfl (fun hc1 => ?_) (fun hc1 => ?_)
  · skip
    refine zq rfl (zc (jS rfl (jB rfl (jT rfl (oR 2 rfl (oZ rfl (jB rfl (jl2 (fun (a_ : Nat) (b_ : List RowD) => [(0, .ov v), (1, dN a), (2, dN b), (3, .fn 42 [] []), (8, dN i), (12, dN i), (13, dN b), (14, dB (decide (((i : Nat) : Int) < ((b : Nat) : Int)))), (17, dN i), (9, dN a_)]) (fun a_ b_ => [.sl v 2 53 (b_.map RowD.d)]) (fun a_ b_ => (a_ ≤ i) ∧ ((b_).length = l.length) ∧ (bub (zO 0) a (a_) b_ = bub (zO 0) a i L)) (fun a_ b_ => a_) i L rfl (sa rfl) HSub.rfl' ⟨Nat.le_refl _, hL, rfl⟩ ?_))))))))
    rintro j M ⟨hj, hlM, hM⟩
    refine ja rfl (jn rfl (jS rfl (jS rfl ?_)))
    by_cases hg2 : ((a : Nat) : Int) < ((j : Nat) : Int)
    · skip
      refine jk [0, 1, 2, 3, 8, 9, 12, 13, 14, 17] rfl (jn rfl ?_)
      obtain ⟨x1, hx1⟩ := zG M j (by (try simp only [ls]); omega)
      obtain ⟨x2, hx2⟩ := zG M (j - 1) (by (try simp only [ls]); omega)
      refine z3 14 [(18, dN j, none), (19, dN a, none), (20, dB true, none), (21, dB true, none), (22, .fn 42 [] [], none), (23, .ov v, none), (24, dN j, none), (25, .v (.pointer (some ⟨bl v, j * 2 + 0, none⟩)), none), (26, RowD.d x1, none), (27, .ov v, none), (28, dN j, none), (29, dN (j - 1), none), (30, .v (.pointer (some ⟨bl v, (j - 1) * 2 + 0, none⟩)), none), (31, RowD.d x2, none)] [.sl v 2 53 (M.map RowD.d)] (Hn := [.sl v 2 53 (M.map RowD.d)]) zah rfl rfl rfl rfl HSub.rfl' rfl ⟨sa_p rfl rfl rfl (zm rfl), sa_p rfl rfl rfl (zm rfl), sa_p rfl rfl rfl (zaz rfl rfl (decide_eq_true hg2)), sa_p rfl rfl rfl (zm rfl), zM rfl rfl rfl rfl rfl rfl (zm rfl).qu, zM rfl rfl rfl rfl rfl rfl (zm rfl).qu, zM rfl rfl rfl rfl rfl rfl (zm rfl).qu, zM rfl rfl rfl rfl rfl rfl (zA (k := j) (j := 0) rfl rfl rfl Tryz.runUnderlying22 Tryz.sizeOf53 (by first | rfl | omega) (zt hx1)).qu, zM rfl rfl rfl rfl rfl rfl (zai (d := RowD.d x1) rfl (i := 0) rfl (zt hx1) Tryz.isAgg53 Tryz.sizeOf53 rfl rfl).qu, zM rfl rfl rfl rfl rfl rfl (zm rfl).qu, zM rfl rfl rfl rfl rfl rfl (zm rfl).qu, zM rfl rfl rfl rfl rfl rfl (zaG (c := ((j - 1 : Nat) : Int)) rfl rfl (zF (by omega) (by omega))).qu, zM rfl rfl rfl rfl rfl rfl (zA (k := j - 1) (j := 0) rfl rfl rfl Tryz.runUnderlying22 Tryz.sizeOf53 (by first | rfl | omega) (zt hx2)).qu, zM rfl rfl rfl rfl rfl rfl (zai (d := RowD.d x2) rfl (i := 0) rfl (zt hx2) Tryz.isAgg53 Tryz.sizeOf53 rfl rfl).qu, trivial⟩ ?_
      refine ok [0, 1, 2, 3, 8, 9, 12, 13, 14, 17, 18, 19, 20, 21, 22, 23, 24, 25, 26, 27, 28, 29, 30, 31] rfl (oF rfl (zdd [] _ [] rfl rfl rfl (.cons ArgC.id (.cons ArgC.id .nil)) zo Tryz.call42 (cmpf_c x1 x2) (.inl rfl)) ?_)
      rintro _ _ ⟨_, ⟨rfl, rfl⟩, rfl⟩
      refine on rfl (oG rfl (zL rfl rfl rfl) (oR 1 rfl (oZ rfl ?_)))
      refine jD rfl (fun hc3 => ?_) (fun hc3 => ?_)
      · skip
        refine zq rfl (zc (jS rfl (jB rfl (jk [0, 1, 2, 3, 8, 9, 12, 13, 14, 17, 18, 19, 20, 21, 22, 23, 24, 25, 26, 27, 28, 29, 30, 31, 32, 33, 34] rfl (jn rfl ?_)))))
        refine zbA 16 [(37, .q (.ov v)), (38, .q (dN j)), (39, .q (.ov v)), (40, .q (dN j)), (41, .q (dN (j - 1))), (42, .q (.ov v)), (43, .q (dN j)), (44, .q (dN (j - 1))), (45, .r (.v (.pointer (some ⟨bl v, (j - 1) * 2 + 0, none⟩)))), (46, .r (RowD.d x2)), (47, .q (.ov v)), (48, .q (dN j)), (49, .r (.v (.pointer (some ⟨bl v, j * 2 + 0, none⟩)))), (50, .r (RowD.d x1)), (51, .r (.v (.pointer (some ⟨bl v, j * 2 + 0, none⟩)))), (68, .s (fun γ => [.sl v 2 53 ((M.set j x2).map RowD.d)]))] [] (Hn := fun γ => [.sl v 2 53 ((M.set j x2).map RowD.d)]) zah rfl rfl (by kernel_rfl) (by kernel_rfl) (by kernel_rfl) HSub.none (fun _ => rfl) (fun γ => ⟨so_p rfl rfl rfl (zm rfl), so_p rfl rfl rfl (zm rfl), so_p rfl rfl rfl (zm rfl), so_p rfl rfl rfl (zm rfl), so_p rfl rfl rfl (zaG (c := ((j - 1 : Nat) : Int)) rfl rfl (zF (by omega) (by omega))), so_p rfl rfl rfl (zm rfl), so_p rfl rfl rfl (zm rfl), so_p rfl rfl rfl (zaG (c := ((j - 1 : Nat) : Int)) rfl rfl (zF (by omega) (by omega))), so_r rfl rfl rfl rfl (zA (k := j - 1) (j := 0) rfl rfl rfl Tryz.runUnderlying22 Tryz.sizeOf53 (by first | rfl | omega) (zt hx2)), so_r rfl rfl rfl rfl (zai (d := RowD.d x2) rfl (i := 0) rfl (zt hx2) Tryz.isAgg53 Tryz.sizeOf53 rfl rfl), so_p rfl rfl rfl (zm rfl), so_p rfl rfl rfl (zm rfl), so_r rfl rfl rfl rfl (zA (k := j) (j := 0) rfl rfl rfl Tryz.runUnderlying22 Tryz.sizeOf53 (by first | rfl | omega) (zt hx1)), so_r rfl rfl rfl rfl (zai (d := RowD.d x1) rfl (i := 0) rfl (zt hx1) Tryz.isAgg53 Tryz.sizeOf53 rfl rfl), so_r rfl rfl rfl rfl (zA (k := j) (j := 0) rfl rfl rfl Tryz.runUnderlying22 Tryz.sizeOf53 (by first | rfl | omega) (zt hx1)), zep rfl rfl rfl rfl rfl ((zaT (f := RowD.d) (k := j) (z := 2) (o := 0) (i := 0) (a' := x2) rfl rfl hx1 rfl (CellD.agg) Tryz.sizeOf53 rfl rfl rfl).mono (by rintro _ _ ⟨_, rfl⟩; rfl)) HSub.none, trivial⟩) (fun γ => ?_)
        refine ok [0, 1, 2, 3, 8, 9, 12, 13, 14, 17, 18, 19, 20, 21, 22, 23, 24, 25, 26, 27, 28, 29, 30, 31, 32, 33, 34, 37, 38, 39, 40, 41, 42, 43, 44, 45, 46, 47, 48, 49, 50, 51] rfl ?_
        obtain ⟨x3, hx3⟩ := zG (M.set j x2) (j - 1) (by (try simp only [ls]); omega)
        refine oP rfl (zA (k := j - 1) (j := 0) rfl rfl rfl Tryz.runUnderlying22 Tryz.sizeOf53 (by first | rfl | omega) (zt hx3)) (oE rfl (zaT (f := RowD.d) (k := j - 1) (z := 2) (o := 0) (i := 0) (a' := x1) rfl rfl hx3 rfl (CellD.agg) Tryz.sizeOf53 rfl rfl rfl) ?_)
        rintro _ _ ⟨rfl, rfl⟩
        refine on rfl (zg rfl (zw (zc (za rfl (oR 1 rfl (oP rfl (zaG (c := ((j - 1 : Nat) : Int)) rfl rfl (zF (by omega) (by omega))) (oR 1 rfl (zg rfl ?_))))))))
        exact pl2 (j - 1) ((M.set j x2).set (j - 1) x1) (sa rfl) HSub.rfl' ⟨by omega, by simp only [ls]; omega, by rw [← hM]; exact (bub_lt' (by omega) hx1 hx2 hc3).symm⟩ (by omega)
      · skip
        refine zE rfl (zr (zn (zh (zw (zc (za rfl (oR 1 rfl (oP rfl (zS (c := ((i + 1 : Nat) : Int)) rfl rfl (zF (by omega) (by omega))) (oR 1 rfl (zg rfl ?_))))))))))
        exact pl3 (i + 1) (n - 1) M (sa rfl) HSub.rfl' ⟨by show a + 1 ≤ i + 1; omega, by show b ≤ i + 1 + (n - 1); omega, hlM, by show isrt (zO 0) a b (n - 1) (i + 1) M = _; have hb : bub (zO 0) a j M = M := bub_ge' hx1 hx2 hc3; rw [← hr]; obtain ⟨m, rfl⟩ : ∃ m, n = m + 1 := ⟨n - 1, by omega⟩; rw [zbI (by omega), ← hM, hb]; rfl⟩ (by omega)
    · skip
      refine jk [0, 1, 2, 3, 8, 9, 12, 13, 14, 17] rfl (jn rfl (z3 14 [(18, dN j, none), (19, dN a, none), (20, dB false, none), (21, dB false, none), (22, .v undef, none), (23, .v undef, none), (24, .v undef, none), (25, .v undef, none), (26, .v undef, none), (27, .v undef, none), (28, .v undef, none), (29, .v undef, none), (30, .v undef, none), (31, .v undef, none)] [.sl v 2 53 (M.map RowD.d)] (Hn := [.sl v 2 53 (M.map RowD.d)]) zah rfl rfl rfl rfl HSub.rfl' rfl ⟨sa_p rfl rfl rfl (zm rfl), sa_p rfl rfl rfl (zm rfl), sa_p rfl rfl rfl (zaz rfl rfl (decide_eq_false hg2)), sa_p rfl rfl rfl (zm rfl), sa_s rfl rfl rfl rfl rfl rfl (by decide), sa_s rfl rfl rfl rfl rfl rfl (by decide), sa_s rfl rfl rfl rfl rfl rfl (by decide), sa_s rfl rfl rfl rfl rfl rfl (by decide), sa_s rfl rfl rfl rfl rfl rfl (by decide), sa_s rfl rfl rfl rfl rfl rfl (by decide), sa_s rfl rfl rfl rfl rfl rfl (by decide), sa_s rfl rfl rfl rfl rfl rfl (by decide), sa_s rfl rfl rfl rfl rfl rfl (by decide), sa_s rfl rfl rfl rfl rfl rfl (by decide), trivial⟩ (ok [0, 1, 2, 3, 8, 9, 12, 13, 14, 17, 18, 19, 20, 21, 22, 23, 24, 25, 26, 27, 28, 29, 30, 31] rfl (oR 3 rfl (oZ rfl (jCf rfl (zE rfl (zr (zn (zh (zw (zc (za rfl (oR 1 rfl (oP rfl (zS (c := ((i + 1 : Nat) : Int)) rfl rfl (zF (by omega) (by omega))) (oR 1 rfl ?_))))))))))))))))
      refine zg rfl ?_
      exact pl3 (i + 1) (n - 1) M (sa rfl) HSub.rfl' ⟨by show a + 1 ≤ i + 1; omega, by show b ≤ i + 1 + (n - 1); omega, hlM, by show isrt (zO 0) a b (n - 1) (i + 1) M = _; have hb : bub (zO 0) a j M = M := bub_end (by omega); rw [← hr]; obtain ⟨m, rfl⟩ : ∃ m, n = m + 1 := ⟨n - 1, by omega⟩; rw [zbI (by omega), ← hM, hb]; rfl⟩ (by omega)
  · skip
    refine zE rfl (zr (zn (zh (PD.norm [.sl v 2 53 ((fixI (zO 0) a b l).map RowD.d)] (by rw [← isrt_fixI ha hb, ← hr, zbm (by omega)]) ?_))))
    exact zaR Tryz.results161 .nil rfl (HSub.fst 1 rfl) ⟨rfl, rfl⟩
end Lp
