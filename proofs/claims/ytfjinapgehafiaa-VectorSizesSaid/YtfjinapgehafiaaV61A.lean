/-
  BITS of small numbers; the capacity of a row; a new row of whatever bytes; a copy of nothing.
-/
import Derived.Lib.MakeNoZero
import Derived.Test.YtfjinapgehafiaaPRow
set_option linter.unusedVariables false
namespace Lp
open Go Go.RowKit

theorem fdiv_nat (a n : Nat) : Int.fdiv (a : Int) (2 ^ n) = ((a / 2 ^ n : Nat) : Int) := by
  rw [show (2 : Int) ^ n = ((2 ^ n : Nat) : Int) by push_cast; rfl]
  rw [Int.fdiv_eq_ediv_of_nonneg _ (Int.natCast_nonneg _)]
  exact (Int.natCast_ediv a (2 ^ n)).symm
section
variable {P : Program} {ty : TypeId} {K : Kd} {H : List Hp} {t t' : TypeId} {x y : Operand}
theorem zcf {k k' : IntKind} {a n m : Nat} (hx : opD K x = some (.v (.int k (a : Int)))) (hy : opD K y = some (.v (.int k' (n : Int)))) (hn : n ≤ k.bits) (hm : 2 ^ n = m) : Pu P (.binOp .shr t x y t') ty K H (.v (.int k ((a / m : Nat) : Int))) :=
  zdO hx hy (fun w => by
    subst hm
    have h1 : ¬ ((n : Nat) : Int) < 0 := by omega
    have h2 : min n k.bits = n := by omega
    simp [eqGuard, binOp, Op.shift, h1, h2, fdiv_nat])
theorem bv8 (a b : Nat) (ha : a < 256) (hb : b < 256) : (BitVec.ofInt IntKind.u8.bits (a : Int) &&& BitVec.ofInt IntKind.u8.bits (b : Int)).toNat = a &&& b := by
  rw [BitVec.toNat_and, BitVec.toNat_ofInt, BitVec.toNat_ofInt]
  have e : (2 : Nat) ^ IntKind.u8.bits = 256 := rfl
  rw [e]
  congr 1 <;> omega
theorem bv8o (a b : Nat) (ha : a < 256) (hb : b < 256) : (BitVec.ofInt IntKind.u8.bits (a : Int) ||| BitVec.ofInt IntKind.u8.bits (b : Int)).toNat = a ||| b := by
  rw [BitVec.toNat_or, BitVec.toNat_ofInt, BitVec.toNat_ofInt]
  have e : (2 : Nat) ^ IntKind.u8.bits = 256 := rfl
  rw [e]
  congr 1 <;> omega
theorem wrap8 {n : Nat} (h : n < 256) : IntKind.u8.wrap (n : Int) = (n : Int) := by simp [IntKind.wrap, IntKind.bits, IntKind.signed]; omega
theorem zce {a b c : Nat} (hx : opD K x = some (.v (.int .u8 (a : Int)))) (hy : opD K y = some (.v (.int .u8 (b : Int)))) (ha : a < 256) (hb : b < 256) (hc : a &&& b = c) : Pu P (.binOp .and t x y t') ty K H (.v (.int .u8 (c : Int))) :=
  zdO hx hy (fun w => by
    subst hc
    have h : a &&& b < 256 := Nat.lt_of_le_of_lt Nat.and_le_left ha
    simp only [eqGuard, binOp, Op.intBits, bv8 a b ha hb, wrap8 h]
    rfl)
theorem zcg {a b c : Nat} (hx : opD K x = some (.v (.int .u8 (a : Int)))) (hy : opD K y = some (.v (.int .u8 (b : Int)))) (ha : a < 256) (hb : b < 256) (hc : a ||| b = c) : Pu P (.binOp .or t x y t') ty K H (.v (.int .u8 (c : Int))) :=
  zdO hx hy (fun w => by
    subst hc
    have h : a ||| b < 256 := Nat.or_lt_two_pow (n := 8) ha hb
    simp only [eqGuard, binOp, Op.intBits, bv8o a b ha hb, wrap8 h]
    rfl)
theorem zdi (a : Nat) : a &&& 63 = a % 64 := Nat.and_two_pow_sub_one_eq_mod a 6
theorem and15 (a : Nat) : a &&& 15 = a % 16 := Nat.and_two_pow_sub_one_eq_mod a 4
theorem zda : ∀ a, a < 64 → 128 ||| a = 128 + a := by decide
theorem or192 : ∀ a, a < 32 → 192 ||| a = 192 + a := by decide
theorem or224 : ∀ a, a < 16 → 224 ||| a = 224 + a := by decide
theorem or240 : ∀ a, a < 8 → 240 ||| a = 240 + a := by decide
/-- the capacity of nothing -/
theorem p_cap_nil {e : TypeId} (hx : opO K x = some (.slice none 0 0)) (ht : ∀ w, (underlying t).run P w = .ok (.slice e) w) : Pu P (.call { callee := .builtin .cap, args := #[x], argTypes := #[t] }) ty K H (.v (.int .i64 0)) :=
  ⟨fun ρ w F hk _ _ => by
    have e1 := hk.opO hx
    refine EOp.of_run (v := .int .i64 0) (w' := w) ?_ ⟨rfl, rfl⟩
    simp [execOp, zap, resolve, invoke, builtin, e1, Builtin.cap_, ht, goInt]⟩
theorem digits_int : ∀ (n t : Nat) (acc : Array Value), (∀ x ∈ acc.toList, x.oneCell' = true) → ∀ x ∈ (Extern.BytealgMakeNoZero.digits n t acc).toList, x.oneCell' = true
  | 0, _, _, h => h
  | n + 1, t, acc, h => by
    rw [Extern.BytealgMakeNoZero.digits]
    refine digits_int n _ _ fun x hx => ?_
    simp only [Array.toList_push, List.mem_append, List.mem_singleton] at hx
    rcases hx with hx | rfl
    · exact h x hx
    · rfl
theorem repE_any {w : World} {F : Nat → Prop} : ∀ us : List Value, (∀ u ∈ us, u.oneCell' = true) → RepE w F 1 (List.replicate us.length .any) us
  | [], _ => rfl
  | u :: r, h => ⟨_, _, rfl, h u List.mem_cons_self, One.one (h u List.mem_cons_self), by rw [zcV (h u List.mem_cons_self)]; rfl, repE_any r (fun x hx => h x (List.mem_cons_of_mem _ hx))⟩
/-- A new row of so many bytes, whatever they are. -/
theorem ef_makeNoZero {f : FuncId} {ats ps : Array TypeId} {rt T n : Nat} (hc : ∀ args w, (callFunc f args).run P w = ((Extern.BytealgMakeNoZero.makeNoZero ps #[rt] args).run P w).andThen fun v w' => .ok (.value v) w') (hx : opD K x = some (.v (.int .i64 (n : Int)))) (ht : P.underlying rt = some (.slice T)) (hn : n ≤ 140737488355328) :
    Ef P (.call { callee := .value (.func f), args := #[x], argTypes := ats }) ty K H (fun d H' => ∃ v, d = .ov v ∧ H' = .sl v 1 T (List.replicate n .any) :: H) :=
  ⟨fun C ρ w F hk gd => by
    have e1 : ev ρ x = _ := hk.op hx
    have hrun : ∃ cs : Array Value, (Extern.BytealgMakeNoZero.makeNoZero ps #[rt] #[.int .i64 n]).run P w = .ok (.slice (some ⟨w.heap.size, 0, none⟩) n cs.size) (w.drew.drew.alloc (.cells cs T)) ∧ n ≤ cs.size ∧ cs.size ≤ maxLen ∧ ∀ x ∈ cs.toList, x.oneCell' = true := by
      refine ⟨Extern.BytealgMakeNoZero.digits (grownCap w n 0 T) ((Question.extern "internal/bytealg.MakeNoZero.bytes" 0).cut (w.tape (w.drawn + 1) (.extern "internal/bytealg.MakeNoZero.bytes" 0))) #[], ?_, ?_, ?_, ?_⟩
      · have h1 : ¬ (n : Int) < 0 := by omega
        have h2 : ¬ (281474976710656 : Int) < (n : Int) := by omega
        have hdef : Extern.BytealgMakeNoZero.makeNoZero ps #[rt] #[.int .i64 n] = (do
            let .slice elem ← underlying rt | stuck "bytealg.MakeNoZero: slice type expected"
            if (n : Int) < 0 || (n : Int) > 2 ^ 48 then runtimePanic (.error "makeslice: len out of range")
            let cap ← choose (.appendCap (n : Int).toNat 0 elem)
            askRoom cap
            let bytes ← choose (.extern "internal/bytealg.MakeNoZero.bytes" 0)
            let a ← newRow elem (Extern.BytealgMakeNoZero.digits cap bytes #[])
            pure (.slice (some a) (n : Int).toNat cap)) := rfl
        rw [hdef]
        simp [run_underlying ht, h1, h2, Question.forced, newRow, Lib.size_digits, grownCap]
      · rw [Lib.size_digits]; simpa using grownCap_ge w n 0 T
      · rw [Lib.size_digits]; simpa using grownCap_le_maxLen w n 0 T (by unfold maxLen; omega)
      · exact digits_int _ _ _ (by simp)
    obtain ⟨cs, r1, r2, r3, r4⟩ := hrun
    have n1 : New w (w.drew.drew.alloc (.cells cs T)) w.heap.size T cs.toList := by
      have := New.mk' w.drew.drew T cs
      exact ⟨rfl, this.box, (Ext.drew w).trans ((Ext.drew w.drew).trans this.ext), this.size⟩
    refine EOp.of_run (v := .slice (some ⟨w.heap.size, 0, none⟩) n cs.size) (w' := w.drew.drew.alloc (.cells cs T)) ?_ ⟨F, _, _, ⟨_, rfl, rfl⟩, ⟨rfl, rfl⟩, gd.born n1 ⟨cs.toList.take n, ?_, ?_⟩ (fun b e => by cases e; rfl), Keep.ext n1.ext⟩
    · have e0 : ev ρ (.func f) = .func (.func f) #[] #[] := rfl
      simp [execOp, zap, resolve, e0, Deferred.ofValue, invoke, hc, e1, r1]
    · have := repE_any (w := w.drew.drew.alloc (.cells cs T)) (F := F) (cs.toList.take n) (fun u hu => r4 u (List.mem_of_mem_take hu))
      rw [List.length_take, Array.length_toList, Nat.min_eq_left r2] at this
      exact this
    · have hl : (cs.toList.take n).length = n := by rw [List.length_take, Array.length_toList, Nat.min_eq_left r2]
      have hv : ∀ x ∈ cs.toList.take n, (vcs x).length = 1 := fun x hx => by rw [vcs_one (r4 x (List.mem_of_mem_take hx))]; rfl
      refine ⟨⟨zb9 hv, .inr ⟨w.heap.size, cs.size, cs, by rw [hl], Nat.zero_le _, n1.box, by omega, r3, by simp, ?_⟩⟩, hv⟩
      rw [hl, Nat.mul_one, flat_one (fun u hu => r4 u (List.mem_of_mem_take hu))]⟩
/-- of a row of the call's own the front alone -/
theorem Hp.front {v : Value} {T : TypeId} {xs : List D} {m : Nat} (hm : m ≤ xs.length) : ∀ w F, (Hp.sl v 1 T xs).ok w F → (Hp.sl (cut 1 v 0 m) 1 T (xs.take m)).ok w F := fun w F ⟨us, h1, h2⟩ => by
  have hl := h1.len
  refine ⟨us.take m, h1.take m, ?_⟩
  rcases Nat.eq_zero_or_pos xs.length with h0 | h0
  · have hu : us = [] := List.eq_nil_of_length_eq_zero (by omega)
    have : m = 0 := by omega
    subst this; subst hu
    obtain ⟨A, c, e, _⟩ := h2.sl.capOk
    subst e
    cases A with
    | none => simpa [cut] using h2
    | some a => simpa [cut, Addr.add] using h2
  · obtain ⟨cap, r, e, _⟩ := h2.form (by omega)
    rw [e] at h2
    have := h2.front (m := m) (by omega)
    rw [e]
    simpa [cut, Addr.add] using this
theorem cut_form (v : Value) : ∀ {A : Option Addr} {n c : Nat}, v = .slice A n c → cut 1 v 0 0 = .slice A 0 c := by
  rintro A n c rfl
  cases A <;> simp [cut, Addr.add]
theorem Hp.front_blk {T : TypeId} {xs ys : List D} (v : Value) : (Hp.sl (cut 1 v 0 0) 1 T ys).blk = (Hp.sl v 1 T xs).blk := by
  cases v <;> try rfl
  rename_i A n c
  rw [cut_form _ rfl]
  cases A <;> rfl
theorem p_slice_ownov {t e : TypeId} {z a b j : Nat} {lo hi : Option Operand} {v : Value} {T : TypeId} {xs : List D} {rl rh : Option Int} (hx : opO K x = some v) (hm : nth H j = some (.sl v z T xs)) (hlo : bndD K lo = some rl) (hhi : bndD K hi = some rh) (ha : Bnd rl 0 a) (hb : Bnd rh xs.length b)
    (ht : ∀ w, (underlying t).run P w = .ok (.slice e) w) (hs : ∀ w, (Go.sizeOf e).run P w = .ok z w) (hab : a ≤ b) (hbn : b ≤ xs.length) : Pu P (.slice t x lo hi none) ty K H (.ov (cut z v a b)) :=
  ⟨fun ρ w F hk hF hH => ((zbc (ty := ty) hx hm hlo hhi ha hb ht hs hab hbn).out ρ w F hk hF hH).mono fun u w' ⟨e, hr⟩ => ⟨e, hr, by
    obtain ⟨us, _, ho⟩ := hH _ (zah hm)
    obtain ⟨A, c, hv, _⟩ := ho.sl.capOk
    rw [hv]; rfl⟩⟩
/-- a copy from nothing -/
theorem p_copy0 {t1 t2 e i : Nat} {v : Value} {T : TypeId} (hx : opO K x = some v) (hm : nth H i = some (.sl v 1 T [])) (hy : opO K y = some (.slice none 0 0)) (ht : ∀ w, (underlying t1).run P w = .ok (.slice e) w) (hs : ∀ w, (Go.sizeOf e).run P w = .ok 1 w) :
    Pu P (.call { callee := .builtin .copy, args := #[x, y], argTypes := #[t1, t2] }) ty K H (.v (.int .i64 0)) :=
  ⟨fun ρ w F hk _ hH => by
    obtain ⟨us, h1, h2⟩ := hH _ (zah hm)
    obtain ⟨A, c, e, _⟩ := h2.sl.capOk
    have hl := h1.len
    have e1 := hk.opO hx
    have e2 := hk.opO hy
    rw [e] at e1
    refine EOp.of_run (v := .int .i64 0) (w' := w) ?_ ⟨rfl, rfl⟩
    cases A <;> simp [execOp, zap, resolve, invoke, builtin, e1, e2, Builtin.copy_, ht, hs, goInt, Builtin.lenOf, Builtin.firstCells, storeCells]⟩
end
end Lp
/- Walks, printed by a program of mine. -/
set_option linter.unusedSimpArgs false
set_option linter.unusedVariables false
namespace Lp
open Go Go.RowKit Go.Proofs

namespace HdYtfjinapgehafiaaV61A
theorem zat (b o : Nat) : ∀ w, (Instr.fieldAt 30 (.pointer (some ⟨b, o, none⟩)) 0).run Try.prog w = .ok (.pointer (some ⟨b, o + 0, none⟩)) w := fun _ => by kernel_rfl
end HdYtfjinapgehafiaaV61A
open HdYtfjinapgehafiaaV61A

set_option maxHeartbeats 4000000 in
set_option maxRecDepth 100000 in
theorem cmpf_c (a : RowD) (b : RowD)  :
    CD Try.prog 32 [] [RowD.d a, RowD.d b] (isR (dI (zI 0 a b))) := by
  refine zM Try.func32 rfl (N := 10) rfl rfl (fun C => ?_)
  refine JD.keep [0, 1] [(0, RowD.d a), (1, RowD.d b)] rfl ?_
  refine JD.bd 0 rfl (fun bd0 => ?_)
  refine JD.bd 1 rfl (fun bd1 => ?_)
  refine zh _ _ rfl rfl rfl (zc rfl (zl rfl rfl (zdf rfl (CellD.agg)) ?_))
  rintro _ _ ⟨g1, rfl, rfl⟩
  refine zl rfl rfl (zdf rfl (CellD.agg)) ?_
  rintro _ _ ⟨g2, rfl, rfl⟩
  refine za rfl rfl (ze rfl) (zg rfl (zf (zh _ _ rfl rfl rfl (zc rfl (za rfl rfl (zz rfl zat rfl) (za rfl rfl (zR rfl (i := 1) rfl Try.isAgg27 rfl) (za rfl rfl (zz rfl zat rfl) (za rfl rfl (zR rfl (i := 0) rfl Try.isAgg27 rfl) (zl rfl rfl (zs [] _ [] rfl rfl (.cons ArgC.id (.cons ArgC.id .nil)) zo Try.call48 (Compare2_c a.ls b.ls) (.inl rfl)) ?_)))))))))
  rintro _ _ ⟨_, ⟨rfl, rfl⟩, rfl⟩
  refine OpsD.norm [.bx g2 30 (RowD.d b), .bx g1 30 (RowD.d a)] rfl (za rfl rfl (ze rfl) (zg rfl (zf (JD.keep [4] [(4, dI (z1 a.ls b.ls))] rfl (zA rfl ?_)))))
  exact zw Try.results32 (.cons (zN (zr rfl) (Cv.eq (congrArg (fun n => D.v (.int .i64 n)) (by rfl)))) .nil) rfl HSub.none ⟨rfl, rfl⟩

set_option maxHeartbeats 4000000 in
set_option maxRecDepth 100000 in
theorem swpR_c (v : Value) (l : List RowD) (a b n : Nat) (o : Int) (h1 : a + n ≤ b) (h2 : b + n ≤ l.length) (hl : l.length ≤ 1000000) :
    CD Try.prog 85 [.sl v 2 30 (l.map RowD.d)] [.ov v, dN a, dN b, dN n, .fn 32 [] []] (fun r H' => r = .tup [] ∧ H' = [.sl v 2 30 ((swpN n a b l).map RowD.d)]) := by
  refine zM Try.func85 rfl (N := 38) rfl rfl (fun C => ?_)
  refine JD.keep [0, 1, 2, 3, 4] [(0, .ov v), (1, dN a), (2, dN b), (3, dN n), (4, .fn 32 [] [])] rfl (zh _ _ rfl rfl rfl (zc rfl (za rfl rfl (ze rfl) (zg rfl (zf (zx _ rfl rfl (z7 (fun (g : Nat × Nat × List RowD) => [(0, .ov v), (1, dN a), (2, dN b), (3, dN n), (10, dN g.1)]) (fun (g : Nat × Nat × List RowD) => [.sl v 2 30 (g.2.2.map RowD.d)]) (fun (g : Nat × Nat × List RowD) => (g.1 + g.2.1 = n) ∧ ((g.2.2).length = l.length) ∧ (swpN g.2.1 (a + g.1) (b + g.1) g.2.2 = swpN n a b l)) (fun (g : Nat × Nat × List RowD) => n - g.1) _ (0, n, l) rfl rfl ⟨sk rfl, sk rfl, sk rfl, sk rfl, sk rfl, trivial⟩ HSub.rfl' ⟨Nat.zero_add _, rfl, rfl⟩ ?_)))))))
  rintro ⟨i, k, L⟩ ⟨hi, hL, hr⟩
  replace hi : i + k = n := hi
  replace hL : (L).length = l.length := hL
  replace hr : swpN k (a + i) (b + i) L = swpN n a b l := hr
  refine JD.keep [0, 1, 2, 3, 10] [(0, .ov v), (1, dN a), (2, dN b), (3, dN n), (10, dN i)] rfl (JD.norm [.sl v 2 30 (L.map RowD.d)] rfl (zh _ _ rfl rfl rfl (zh _ _ rfl rfl rfl (zc rfl (za rfl rfl (zb rfl) (za rfl rfl (zb rfl) (za rfl rfl (z9 rfl rfl rfl) (zg rfl (zf ?_)))))))))
  refine zt _ _ rfl rfl rfl rfl (fun hc1 => ?_) (fun hc1 => ?_)
  · replace hc1 := of_decide_eq_true hc1
    refine zy rfl (zf (zh _ _ rfl rfl rfl (zx _ rfl rfl (JD.keep [0, 1, 2, 3, 10, 11, 12, 13] [(0, .ov v), (1, dN a), (2, dN b), (3, dN n), (10, dN i), (11, dN i), (12, dN n), (13, dB (decide (((i : Nat) : Int) < ((n : Nat) : Int))))] rfl (JD.norm [.sl v 2 30 (L.map RowD.d)] rfl ?_)))))
    obtain ⟨x1, hx1⟩ := zW L (b + i) (by (try simp only [ls]); omega)
    obtain ⟨x2, hx2⟩ := zW L (a + i) (by (try simp only [ls]); omega)
    refine zbx 22 [(16, .q (.ov v)), (17, .q (dN a)), (18, .q (dN i)), (19, .q (dN (a + i))), (20, .q (.ov v)), (21, .q (dN b)), (22, .q (dN i)), (23, .q (dN (b + i))), (24, .q (.ov v)), (25, .q (dN b)), (26, .q (dN i)), (27, .q (dN (b + i))), (28, .r (.v (.pointer (some ⟨bl v, (b + i) * 2 + 0, none⟩)))), (29, .r (RowD.d x1)), (30, .q (.ov v)), (31, .q (dN a)), (32, .q (dN i)), (33, .q (dN (a + i))), (34, .r (.v (.pointer (some ⟨bl v, (a + i) * 2 + 0, none⟩)))), (35, .r (RowD.d x2)), (36, .r (.v (.pointer (some ⟨bl v, (a + i) * 2 + 0, none⟩)))), (59, .s (fun γ => [.sl v 2 30 ((L.set (a + i) x1).map RowD.d)]))] [] (Hn := fun γ => [.sl v 2 30 ((L.set (a + i) x1).map RowD.d)]) zaz rfl rfl (by kernel_rfl) (by kernel_rfl) (by kernel_rfl) HSub.none (fun _ => rfl) (fun γ => ⟨so_p rfl rfl rfl (zb rfl), so_p rfl rfl rfl (zb rfl), so_p rfl rfl rfl (zb rfl), so_p rfl rfl rfl (z8 (c := ((a + i : Nat) : Int)) rfl rfl (zU (by omega) (by omega))), so_p rfl rfl rfl (zb rfl), so_p rfl rfl rfl (zb rfl), so_p rfl rfl rfl (zb rfl), so_p rfl rfl rfl (z8 (c := ((b + i : Nat) : Int)) rfl rfl (zU (by omega) (by omega))), so_p rfl rfl rfl (zb rfl), so_p rfl rfl rfl (zb rfl), so_p rfl rfl rfl (zb rfl), so_p rfl rfl rfl (z8 (c := ((b + i : Nat) : Int)) rfl rfl (zU (by omega) (by omega))), so_r rfl rfl rfl rfl (zD (k := b + i) (j := 0) rfl rfl rfl Try.runUnderlying22 Try.sizeOf30 (by first | rfl | omega) (zu hx1)), so_r rfl rfl rfl rfl (zam (d := RowD.d x1) rfl (i := 0) rfl (zu hx1) Try.isAgg30 Try.sizeOf30 rfl rfl), so_p rfl rfl rfl (zb rfl), so_p rfl rfl rfl (zb rfl), so_p rfl rfl rfl (zb rfl), so_p rfl rfl rfl (z8 (c := ((a + i : Nat) : Int)) rfl rfl (zU (by omega) (by omega))), so_r rfl rfl rfl rfl (zD (k := a + i) (j := 0) rfl rfl rfl Try.runUnderlying22 Try.sizeOf30 (by first | rfl | omega) (zu hx2)), so_r rfl rfl rfl rfl (zam (d := RowD.d x2) rfl (i := 0) rfl (zu hx2) Try.isAgg30 Try.sizeOf30 rfl rfl), so_r rfl rfl rfl rfl (zD (k := a + i) (j := 0) rfl rfl rfl Try.runUnderlying22 Try.sizeOf30 (by first | rfl | omega) (zu hx2)), zdX rfl rfl rfl rfl rfl ((zbf (f := RowD.d) (k := a + i) (z := 2) (o := 0) (i := 0) (a' := x1) rfl rfl hx2 rfl (CellD.agg) Try.sizeOf30 rfl rfl rfl).mono (by rintro _ _ ⟨_, rfl⟩; rfl)) HSub.none, trivial⟩) (fun γ => ?_)
    refine OpsD.keep [0, 1, 2, 3, 10, 11, 12, 13, 16, 17, 18, 19, 20, 21, 22, 23, 24, 25, 26, 27, 28, 29, 30, 31, 32, 33, 34, 35, 36] [(0, .ov v), (1, dN a), (2, dN b), (3, dN n), (10, dN i), (11, dN i), (12, dN n), (13, dB (decide (((i : Nat) : Int) < ((n : Nat) : Int)))), (16, .ov v), (17, dN a), (18, dN i), (19, dN (a + i)), (20, .ov v), (21, dN b), (22, dN i), (23, dN (b + i)), (24, .ov v), (25, dN b), (26, dN i), (27, dN (b + i)), (28, .v (.pointer (some ⟨bl v, (b + i) * 2 + 0, none⟩))), (29, RowD.d x1), (30, .ov v), (31, dN a), (32, dN i), (33, dN (a + i)), (34, .v (.pointer (some ⟨bl v, (a + i) * 2 + 0, none⟩))), (35, RowD.d x2), (36, .v (.pointer (some ⟨bl v, (a + i) * 2 + 0, none⟩)))] rfl ?_
    obtain ⟨x3, hx3⟩ := zW (L.set (a + i) x1) (b + i) (by (try simp only [ls]); omega)
    refine za rfl rfl (zD (k := b + i) (j := 0) rfl rfl rfl Try.runUnderlying22 Try.sizeOf30 (by first | rfl | omega) (zu hx3)) (zl rfl rfl (zbf (f := RowD.d) (k := b + i) (z := 2) (o := 0) (i := 0) (a' := x2) rfl rfl hx3 rfl (CellD.agg) Try.sizeOf30 rfl rfl rfl) ?_)
    rintro _ _ ⟨rfl, rfl⟩
    refine OpsD.norm [.sl v 2 30 (((L.set (a + i) x1).set (b + i) x2).map RowD.d)] rfl (zg rfl (zC (zf (zc rfl (za rfl rfl (zb rfl) (za rfl rfl (z8 (c := ((i + 1 : Nat) : Int)) rfl rfl (zU (by omega) (by omega))) (za rfl rfl (ze rfl) (zg rfl ?_))))))))
    exact zT (i + 1, k - 1, ((L.set (a + i) x1).set (b + i) x2)) ⟨sk rfl, sk rfl, sk rfl, sk rfl, sk rfl, trivial⟩ HSub.rfl' ⟨by show i + 1 + (k - 1) = n; omega, by simp only [ls]; exact hL, by show swpN (k - 1) (a + (i + 1)) (b + (i + 1)) _ = _; rw [← hr]; obtain ⟨m, rfl⟩ : ∃ m, k = m + 1 := ⟨k - 1, by omega⟩; exact (swpN_next hx2 hx1).symm⟩ (by omega)
  · replace hc1 := of_decide_eq_false hc1
    refine z2 rfl (zJ (zH (zB (PD.norm [.sl v 2 30 ((swpN n a b l).map RowD.d)] (by rw [← hr, show k = 0 by omega]; rfl) ?_))))
    exact zbT Try.results85 .nil rfl (HSub.fst 1 rfl) ⟨rfl, rfl⟩

set_option maxHeartbeats 4000000 in
set_option maxRecDepth 100000 in
theorem rotR_c (v : Value) (l : List RowD) (a m b : Nat) (o : Int) (h1 : a < m) (h2 : m < b) (h3 : b ≤ l.length) (hl : l.length ≤ 1000000) :
    CD Try.prog 80 [.sl v 2 30 (l.map RowD.d)] [.ov v, dN a, dN m, dN b, .fn 32 [] []] (fun r H' => r = .tup [] ∧ H' = [.sl v 2 30 ((rotL a m b l).map RowD.d)]) := by
  refine zM Try.func80 rfl (N := 58) rfl rfl (fun C => ?_)
  refine JD.keep [0, 1, 2, 3, 4] [(0, .ov v), (1, dN a), (2, dN m), (3, dN b), (4, .fn 32 [] [])] rfl (zh _ _ rfl rfl rfl (zc rfl (za rfl rfl (zb rfl) (za rfl rfl (zb rfl) (za rfl rfl (zaS (c := ((m - a : Nat) : Int)) rfl rfl (zU (by omega) (by omega))) (za rfl rfl (ze rfl) (zg rfl (zf (zh _ _ rfl rfl rfl (zc rfl (za rfl rfl (zb rfl) (za rfl rfl (zb rfl) (za rfl rfl (zaS (c := ((b - m : Nat) : Int)) rfl rfl (zU (by omega) (by omega))) (za rfl rfl (ze rfl) (zg rfl (zf (zh _ _ rfl rfl rfl (zx _ rfl rfl ?_))))))))))))))))))
  refine z7 (fun (g : Nat × Nat × List RowD) => [(0, .ov v), (2, dN m), (4, .fn 32 [] []), (10, dN g.1), (11, dN g.2.1)]) (fun (g : Nat × Nat × List RowD) => [.sl v 2 30 (g.2.2.map RowD.d)]) (fun (g : Nat × Nat × List RowD) => (1 ≤ g.1 ∧ g.1 ≤ m - a) ∧ (1 ≤ g.2.1 ∧ g.2.1 ≤ b - m) ∧ ((g.2.2).length = l.length) ∧ (rotL (m - g.1) m (m + g.2.1) g.2.2 = rotL a m b l)) (fun (g : Nat × Nat × List RowD) => g.1 + g.2.1) _ (m - a, b - m, l) rfl rfl ⟨sk rfl, sk rfl, sk rfl, sk rfl, sk rfl, trivial⟩ HSub.rfl' ⟨by show 1 ≤ m - a ∧ m - a ≤ m - a; omega, by show 1 ≤ b - m ∧ b - m ≤ b - m; omega, rfl, by show rotL (m - (m - a)) m (m + (b - m)) l = _; congr 1 <;> omega⟩ ?_
  rintro ⟨i, j, L⟩ ⟨hi, hj, hL, hr⟩
  replace hi : 1 ≤ i ∧ i ≤ m - a := hi
  replace hj : 1 ≤ j ∧ j ≤ b - m := hj
  replace hL : (L).length = l.length := hL
  replace hr : rotL (m - i) m (m + j) L = rotL a m b l := hr
  refine JD.keep [0, 2, 4, 10, 11] [(0, .ov v), (2, dN m), (4, .fn 32 [] []), (10, dN i), (11, dN j)] rfl (JD.norm [.sl v 2 30 (L.map RowD.d)] rfl (zh _ _ rfl rfl rfl (zh _ _ rfl rfl rfl (zc rfl (za rfl rfl (zb rfl) (za rfl rfl (zb rfl) (za rfl rfl (zbk rfl rfl rfl) (zg rfl (zf ?_)))))))))
  refine zt _ _ rfl rfl rfl rfl (fun hc1 => ?_) (fun hc1 => ?_)
  · replace hc1 := of_decide_eq_true hc1
    refine zy rfl (zf (zx _ rfl rfl (zh _ _ rfl rfl rfl (zc rfl (za rfl rfl (zb rfl) (za rfl rfl (zb rfl) (za rfl rfl (zar rfl rfl rfl) (zg rfl (zf ?_)))))))))
    refine zt _ _ rfl rfl rfl rfl (fun hc2 => ?_) (fun hc2 => ?_)
    · replace hc2 := of_decide_eq_true hc2
      refine zh _ _ rfl rfl rfl (zc rfl (za rfl rfl (zb rfl) (za rfl rfl (zb rfl) (za rfl rfl (zb rfl) (za rfl rfl (zaS (c := ((m - i : Nat) : Int)) rfl rfl (zU (by omega) (by omega))) (za rfl rfl (zb rfl) (za rfl rfl (zb rfl) (za rfl rfl (zb rfl) (zl rfl rfl (zs [.sl v 2 30 (L.map RowD.d)] [] [] rfl rfl (.cons ArgC.id (.cons ArgC.id (.cons ArgC.id (.cons ArgC.id (.cons ArgC.id .nil))))) zo Try.call85 (swpR_c v L (m - i) m j 0 (by omega) (by omega) (by omega)) (.inl rfl)) ?_)))))))))
      rintro _ _ ⟨_, ⟨rfl, rfl⟩, rfl⟩
      refine OpsD.norm [.sl v 2 30 ((swpN j (m - i) m L).map RowD.d)] rfl (zg rfl (zf (zc rfl (za rfl rfl (zb rfl) (za rfl rfl (zb rfl) (za rfl rfl (zaS (c := ((i - j : Nat) : Int)) rfl rfl (zU (by omega) (by omega))) (za rfl rfl (ze rfl) (zg rfl (zC ?_)))))))))
      exact zT (i - j, j, (swpN j (m - i) m L)) ⟨sk rfl, sk rfl, sk rfl, sk rfl, sk rfl, trivial⟩ HSub.rfl' ⟨by show 1 ≤ i - j ∧ i - j ≤ m - a; omega, by show 1 ≤ j ∧ j ≤ b - m; omega, by rw [swpN_len]; exact hL, by show rotL (m - (i - j)) m (m + j) _ = _; rw [← hr, rot_gt (a := m - i) (j := j) (by omega) (by omega) (by omega) (by omega)]; congr 1; omega⟩ (by show i - j + j < i + j; omega)
    · replace hc2 := of_decide_eq_false hc2
      refine zh _ _ rfl rfl rfl (zc rfl (za rfl rfl (zb rfl) (za rfl rfl (zb rfl) (za rfl rfl (zb rfl) (za rfl rfl (zaS (c := ((m - i : Nat) : Int)) rfl rfl (zU (by omega) (by omega))) (za rfl rfl (zb rfl) (za rfl rfl (zb rfl) (za rfl rfl (z8 (c := ((m + j : Nat) : Int)) rfl rfl (zU (by omega) (by omega))) (za rfl rfl (zb rfl) (za rfl rfl (zaS (c := (((m + j) - i : Nat) : Int)) rfl rfl (zU (by omega) (by omega))) (za rfl rfl (zb rfl) (za rfl rfl (zb rfl) (zl rfl rfl (zs [.sl v 2 30 (L.map RowD.d)] [] [] rfl rfl (.cons ArgC.id (.cons ArgC.id (.cons ArgC.id (.cons ArgC.id (.cons ArgC.id .nil))))) zo Try.call85 (swpR_c v L (m - i) ((m + j) - i) i 0 (by omega) (by omega) (by omega)) (.inl rfl)) ?_)))))))))))))
      rintro _ _ ⟨_, ⟨rfl, rfl⟩, rfl⟩
      refine OpsD.norm [.sl v 2 30 ((swpN i (m - i) ((m + j) - i) L).map RowD.d)] rfl (zg rfl (zf (zc rfl (za rfl rfl (zb rfl) (za rfl rfl (zb rfl) (za rfl rfl (zaS (c := ((j - i : Nat) : Int)) rfl rfl (zU (by omega) (by omega))) (za rfl rfl (ze rfl) (zg rfl (zC ?_)))))))))
      exact zT (i, j - i, (swpN i (m - i) ((m + j) - i) L)) ⟨sk rfl, sk rfl, sk rfl, sk rfl, sk rfl, trivial⟩ HSub.rfl' ⟨hi, by show 1 ≤ j - i ∧ j - i ≤ b - m; omega, by rw [swpN_len]; exact hL, by show rotL (m - i) m (m + (j - i)) _ = _; rw [← hr, rot_lt (a := m - i) (b := m + j) (i := i) (by omega) (by omega) (by omega) (by omega)]; congr 1; omega⟩ (by show i + (j - i) < i + j; omega)
  · replace hc1 := of_decide_eq_false hc1
    refine z2 rfl (zJ (zH (zB (zf (zc rfl (za rfl rfl (zb rfl) (za rfl rfl (zb rfl) (za rfl rfl (zb rfl) (za rfl rfl (zaS (c := ((m - i : Nat) : Int)) rfl rfl (zU (by omega) (by omega))) (za rfl rfl (zb rfl) (za rfl rfl (zb rfl) (za rfl rfl (zb rfl) (zl rfl rfl (zs [.sl v 2 30 (L.map RowD.d)] [] [] rfl rfl (.cons ArgC.id (.cons ArgC.id (.cons ArgC.id (.cons ArgC.id (.cons ArgC.id .nil))))) zo Try.call85 (swpR_c v L (m - i) m i 0 (by omega) (by omega) (by omega)) (.inl rfl)) ?_)))))))))))))
    rintro _ _ ⟨_, ⟨rfl, rfl⟩, rfl⟩
    refine OpsD.norm [.sl v 2 30 ((swpN i (m - i) m L).map RowD.d)] rfl (zg rfl (PD.norm [.sl v 2 30 ((rotL a m b l).map RowD.d)] (by rw [← hr, rot_eq (a := m - i) (i := i) (by omega) (by omega) (by omega) (by omega)]) ?_))
    exact zbT Try.results80 .nil rfl (HSub.fst 1 rfl) ⟨rfl, rfl⟩

set_option maxHeartbeats 4000000 in
set_option maxRecDepth 100000 in
theorem insortR_c (v : Value) (l : List RowD) (a b : Nat) (o : Int) (ha : a ≤ b) (hb : b ≤ l.length) (hl : l.length ≤ 1000000) :
    CD Try.prog 71 [.sl v 2 30 (l.map RowD.d)] [.ov v, dN a, dN b, .fn 32 [] []] (fun r H' => r = .tup [] ∧ H' = [.sl v 2 30 ((fixI (zI 0) a b l).map RowD.d)]) := by
  refine zM Try.func71 rfl (N := 53) rfl rfl (fun C => ?_)
  refine JD.keep [0, 1, 2, 3] [(0, .ov v), (1, dN a), (2, dN b), (3, .fn 32 [] [])] rfl (zh _ _ rfl rfl rfl (zc rfl (za rfl rfl (zb rfl) (za rfl rfl (z8 (c := ((a + 1 : Nat) : Int)) rfl rfl (zU (by omega) (by omega))) (za rfl rfl (ze rfl) (zg rfl (zf (zx _ rfl rfl (z7 (fun (g : Nat × Nat × List RowD) => [(0, .ov v), (1, dN a), (2, dN b), (3, .fn 32 [] []), (8, dN g.1)]) (fun (g : Nat × Nat × List RowD) => [.sl v 2 30 (g.2.2.map RowD.d)]) (fun (g : Nat × Nat × List RowD) => (a + 1 ≤ g.1) ∧ (b ≤ g.1 + g.2.1) ∧ ((g.2.2).length = l.length) ∧ (isrt (zI 0) a b g.2.1 (g.1) g.2.2 = isrt (zI 0) a b b (a + 1) l)) (fun (g : Nat × Nat × List RowD) => b - g.1) _ (a + 1, b, l) rfl rfl ⟨sk rfl, sk rfl, sk rfl, sk rfl, sk rfl, trivial⟩ HSub.rfl' ⟨Nat.le_refl _, by show b ≤ a + 1 + b; omega, rfl, rfl⟩ ?_)))))))))
  rintro ⟨i, n, L⟩ ⟨hi, hn, hL, hr⟩
  replace hi : a + 1 ≤ i := hi
  replace hn : b ≤ i + n := hn
  replace hL : (L).length = l.length := hL
  replace hr : isrt (zI 0) a b n (i) L = isrt (zI 0) a b b (a + 1) l := hr
  refine JD.keep [0, 1, 2, 3, 8] [(0, .ov v), (1, dN a), (2, dN b), (3, .fn 32 [] []), (8, dN i)] rfl (JD.norm [.sl v 2 30 (L.map RowD.d)] rfl (zh _ _ rfl rfl rfl (zh _ _ rfl rfl rfl (zc rfl (za rfl rfl (zb rfl) (za rfl rfl (zb rfl) (za rfl rfl (z9 rfl rfl rfl) (zg rfl (zf ?_)))))))))
  refine zt _ _ rfl rfl rfl rfl (fun hc1 => ?_) (fun hc1 => ?_)
  · replace hc1 := of_decide_eq_true hc1
    refine zy rfl (zf (zh _ _ rfl rfl rfl (zx _ rfl rfl (zh _ _ rfl rfl rfl (zc rfl (za rfl rfl (zb rfl) (za rfl rfl (ze rfl) (zg rfl (zf (zx _ rfl rfl (z7 (fun (g : Nat × List RowD) => [(0, .ov v), (1, dN a), (2, dN b), (3, .fn 32 [] []), (8, dN i), (12, dN i), (13, dN b), (14, dB (decide (((i : Nat) : Int) < ((b : Nat) : Int)))), (17, dN i), (9, dN g.1)]) (fun (g : Nat × List RowD) => [.sl v 2 30 (g.2.map RowD.d)]) (fun (g : Nat × List RowD) => (g.1 ≤ i) ∧ ((g.2).length = l.length) ∧ (bub (zI 0) a (g.1) g.2 = bub (zI 0) a i L)) (fun (g : Nat × List RowD) => g.1) _ (i, L) rfl rfl ⟨sk rfl, sk rfl, sk rfl, sk rfl, sk rfl, sk rfl, sk rfl, sk rfl, sk rfl, sk rfl, trivial⟩ HSub.rfl' ⟨Nat.le_refl _, hL, rfl⟩ ?_)))))))))))
    rintro ⟨j, M⟩ ⟨hj, hlM, hM⟩
    replace hj : j ≤ i := hj
    replace hlM : (M).length = l.length := hlM
    replace hM : bub (zI 0) a (j) M = bub (zI 0) a i L := hM
    refine JD.keep [0, 1, 2, 3, 8, 12, 13, 14, 17, 9] [(0, .ov v), (1, dN a), (2, dN b), (3, .fn 32 [] []), (8, dN i), (12, dN i), (13, dN b), (14, dB (decide (((i : Nat) : Int) < ((b : Nat) : Int)))), (17, dN i), (9, dN j)] rfl (JD.norm [.sl v 2 30 (M.map RowD.d)] rfl (zh _ _ rfl rfl rfl (zh _ _ rfl rfl rfl ?_)))
    by_cases hg2 : ((a : Nat) : Int) < ((j : Nat) : Int)
    · skip
      refine JD.keep [0, 1, 2, 3, 8, 9, 12, 13, 14, 17] [(0, .ov v), (1, dN a), (2, dN b), (3, .fn 32 [] []), (8, dN i), (9, dN j), (12, dN i), (13, dN b), (14, dB (decide (((i : Nat) : Int) < ((b : Nat) : Int)))), (17, dN i)] rfl (JD.norm [.sl v 2 30 (M.map RowD.d)] rfl ?_)
      obtain ⟨x1, hx1⟩ := zW M j (by (try simp only [ls]); omega)
      obtain ⟨x2, hx2⟩ := zW M (j - 1) (by (try simp only [ls]); omega)
      refine zaj 14 [(18, dN j, none), (19, dN a, none), (20, dB true, none), (21, dB true, none), (22, .fn 32 [] [], none), (23, .ov v, none), (24, dN j, none), (25, .v (.pointer (some ⟨bl v, j * 2 + 0, none⟩)), none), (26, RowD.d x1, none), (27, .ov v, none), (28, dN j, none), (29, dN (j - 1), none), (30, .v (.pointer (some ⟨bl v, (j - 1) * 2 + 0, none⟩)), none), (31, RowD.d x2, none)] [.sl v 2 30 (M.map RowD.d)] (Hn := [.sl v 2 30 (M.map RowD.d)]) zaz rfl rfl rfl rfl HSub.rfl' rfl ⟨sa_p rfl rfl rfl (zb rfl), sa_p rfl rfl rfl (zb rfl), sa_p rfl rfl rfl (zar rfl rfl (decide_eq_true hg2)), sa_p rfl rfl rfl (zb rfl), zQ rfl rfl rfl rfl rfl rfl (zb rfl).qu, zQ rfl rfl rfl rfl rfl rfl (zb rfl).qu, zQ rfl rfl rfl rfl rfl rfl (zb rfl).qu, zQ rfl rfl rfl rfl rfl rfl (zD (k := j) (j := 0) rfl rfl rfl Try.runUnderlying22 Try.sizeOf30 (by first | rfl | omega) (zu hx1)).qu, zQ rfl rfl rfl rfl rfl rfl (zam (d := RowD.d x1) rfl (i := 0) rfl (zu hx1) Try.isAgg30 Try.sizeOf30 rfl rfl).qu, zQ rfl rfl rfl rfl rfl rfl (zb rfl).qu, zQ rfl rfl rfl rfl rfl rfl (zb rfl).qu, zQ rfl rfl rfl rfl rfl rfl (zaS (c := ((j - 1 : Nat) : Int)) rfl rfl (zU (by omega) (by omega))).qu, zQ rfl rfl rfl rfl rfl rfl (zD (k := j - 1) (j := 0) rfl rfl rfl Try.runUnderlying22 Try.sizeOf30 (by first | rfl | omega) (zu hx2)).qu, zQ rfl rfl rfl rfl rfl rfl (zam (d := RowD.d x2) rfl (i := 0) rfl (zu hx2) Try.isAgg30 Try.sizeOf30 rfl rfl).qu, trivial⟩ ?_
      refine OpsD.keep [0, 1, 2, 3, 8, 9, 12, 13, 14, 17, 18, 19, 20, 21, 22, 23, 24, 25, 26, 27, 28, 29, 30, 31] [(0, .ov v), (1, dN a), (2, dN b), (3, .fn 32 [] []), (8, dN i), (9, dN j), (12, dN i), (13, dN b), (14, dB (decide (((i : Nat) : Int) < ((b : Nat) : Int)))), (17, dN i), (18, dN j), (19, dN a), (20, dB true), (21, dB true), (22, .fn 32 [] []), (23, .ov v), (24, dN j), (25, .v (.pointer (some ⟨bl v, j * 2 + 0, none⟩))), (26, RowD.d x1), (27, .ov v), (28, dN j), (29, dN (j - 1)), (30, .v (.pointer (some ⟨bl v, (j - 1) * 2 + 0, none⟩))), (31, RowD.d x2)] rfl (zaH rfl rfl rfl rfl rfl (zcU [] _ [] rfl rfl rfl (.cons ArgC.id (.cons ArgC.id .nil)) zo Try.call32 (cmpf_c x1 x2) (.inl rfl)) ?_)
      rintro _ _ ⟨_, ⟨rfl, rfl⟩, rfl⟩
      refine OpsD.norm [.sl v 2 30 (M.map RowD.d)] rfl (zi rfl rfl rfl rfl rfl (z9 rfl rfl rfl) (za rfl rfl (zn rfl rfl) (zg rfl (zf ?_))))
      refine zt _ _ rfl rfl rfl rfl (fun hc3 => ?_) (fun hc3 => ?_)
      · replace hc3 := of_decide_eq_true hc3
        refine zy rfl (zf (zh _ _ rfl rfl rfl (zx _ rfl rfl (JD.keep [0, 1, 2, 3, 8, 9, 12, 13, 14, 17, 18, 19, 20, 21, 22, 23, 24, 25, 26, 27, 28, 29, 30, 31, 32, 33, 34] [(0, .ov v), (1, dN a), (2, dN b), (3, .fn 32 [] []), (8, dN i), (9, dN j), (12, dN i), (13, dN b), (14, dB (decide (((i : Nat) : Int) < ((b : Nat) : Int)))), (17, dN i), (18, dN j), (19, dN a), (20, dB true), (21, dB true), (22, .fn 32 [] []), (23, .ov v), (24, dN j), (25, .v (.pointer (some ⟨bl v, j * 2 + 0, none⟩))), (26, RowD.d x1), (27, .ov v), (28, dN j), (29, dN (j - 1)), (30, .v (.pointer (some ⟨bl v, (j - 1) * 2 + 0, none⟩))), (31, RowD.d x2), (32, dI (zI 0 x1 x2)), (33, dB (decide (zI 0 x1 x2 < (0 : Int)))), (34, dB (decide (zI 0 x1 x2 < (0 : Int))))] rfl (JD.norm [.sl v 2 30 (M.map RowD.d)] rfl ?_)))))
        refine zbx 16 [(37, .q (.ov v)), (38, .q (dN j)), (39, .q (.ov v)), (40, .q (dN j)), (41, .q (dN (j - 1))), (42, .q (.ov v)), (43, .q (dN j)), (44, .q (dN (j - 1))), (45, .r (.v (.pointer (some ⟨bl v, (j - 1) * 2 + 0, none⟩)))), (46, .r (RowD.d x2)), (47, .q (.ov v)), (48, .q (dN j)), (49, .r (.v (.pointer (some ⟨bl v, j * 2 + 0, none⟩)))), (50, .r (RowD.d x1)), (51, .r (.v (.pointer (some ⟨bl v, j * 2 + 0, none⟩)))), (68, .s (fun γ => [.sl v 2 30 ((M.set j x2).map RowD.d)]))] [] (Hn := fun γ => [.sl v 2 30 ((M.set j x2).map RowD.d)]) zaz rfl rfl (by kernel_rfl) (by kernel_rfl) (by kernel_rfl) HSub.none (fun _ => rfl) (fun γ => ⟨so_p rfl rfl rfl (zb rfl), so_p rfl rfl rfl (zb rfl), so_p rfl rfl rfl (zb rfl), so_p rfl rfl rfl (zb rfl), so_p rfl rfl rfl (zaS (c := ((j - 1 : Nat) : Int)) rfl rfl (zU (by omega) (by omega))), so_p rfl rfl rfl (zb rfl), so_p rfl rfl rfl (zb rfl), so_p rfl rfl rfl (zaS (c := ((j - 1 : Nat) : Int)) rfl rfl (zU (by omega) (by omega))), so_r rfl rfl rfl rfl (zD (k := j - 1) (j := 0) rfl rfl rfl Try.runUnderlying22 Try.sizeOf30 (by first | rfl | omega) (zu hx2)), so_r rfl rfl rfl rfl (zam (d := RowD.d x2) rfl (i := 0) rfl (zu hx2) Try.isAgg30 Try.sizeOf30 rfl rfl), so_p rfl rfl rfl (zb rfl), so_p rfl rfl rfl (zb rfl), so_r rfl rfl rfl rfl (zD (k := j) (j := 0) rfl rfl rfl Try.runUnderlying22 Try.sizeOf30 (by first | rfl | omega) (zu hx1)), so_r rfl rfl rfl rfl (zam (d := RowD.d x1) rfl (i := 0) rfl (zu hx1) Try.isAgg30 Try.sizeOf30 rfl rfl), so_r rfl rfl rfl rfl (zD (k := j) (j := 0) rfl rfl rfl Try.runUnderlying22 Try.sizeOf30 (by first | rfl | omega) (zu hx1)), zdX rfl rfl rfl rfl rfl ((zbf (f := RowD.d) (k := j) (z := 2) (o := 0) (i := 0) (a' := x2) rfl rfl hx1 rfl (CellD.agg) Try.sizeOf30 rfl rfl rfl).mono (by rintro _ _ ⟨_, rfl⟩; rfl)) HSub.none, trivial⟩) (fun γ => ?_)
        refine OpsD.keep [0, 1, 2, 3, 8, 9, 12, 13, 14, 17, 18, 19, 20, 21, 22, 23, 24, 25, 26, 27, 28, 29, 30, 31, 32, 33, 34, 37, 38, 39, 40, 41, 42, 43, 44, 45, 46, 47, 48, 49, 50, 51] [(0, .ov v), (1, dN a), (2, dN b), (3, .fn 32 [] []), (8, dN i), (9, dN j), (12, dN i), (13, dN b), (14, dB (decide (((i : Nat) : Int) < ((b : Nat) : Int)))), (17, dN i), (18, dN j), (19, dN a), (20, dB true), (21, dB true), (22, .fn 32 [] []), (23, .ov v), (24, dN j), (25, .v (.pointer (some ⟨bl v, j * 2 + 0, none⟩))), (26, RowD.d x1), (27, .ov v), (28, dN j), (29, dN (j - 1)), (30, .v (.pointer (some ⟨bl v, (j - 1) * 2 + 0, none⟩))), (31, RowD.d x2), (32, dI (zI 0 x1 x2)), (33, dB (decide (zI 0 x1 x2 < (0 : Int)))), (34, dB (decide (zI 0 x1 x2 < (0 : Int)))), (37, .ov v), (38, dN j), (39, .ov v), (40, dN j), (41, dN (j - 1)), (42, .ov v), (43, dN j), (44, dN (j - 1)), (45, .v (.pointer (some ⟨bl v, (j - 1) * 2 + 0, none⟩))), (46, RowD.d x2), (47, .ov v), (48, dN j), (49, .v (.pointer (some ⟨bl v, j * 2 + 0, none⟩))), (50, RowD.d x1), (51, .v (.pointer (some ⟨bl v, j * 2 + 0, none⟩)))] rfl ?_
        obtain ⟨x3, hx3⟩ := zW (M.set j x2) (j - 1) (by (try simp only [ls]); omega)
        refine za rfl rfl (zD (k := j - 1) (j := 0) rfl rfl rfl Try.runUnderlying22 Try.sizeOf30 (by first | rfl | omega) (zu hx3)) (zl rfl rfl (zbf (f := RowD.d) (k := j - 1) (z := 2) (o := 0) (i := 0) (a' := x1) rfl rfl hx3 rfl (CellD.agg) Try.sizeOf30 rfl rfl rfl) ?_)
        rintro _ _ ⟨rfl, rfl⟩
        refine OpsD.norm [.sl v 2 30 (((M.set j x2).set (j - 1) x1).map RowD.d)] rfl (zg rfl (zC (zf (zc rfl (za rfl rfl (zb rfl) (za rfl rfl (zaS (c := ((j - 1 : Nat) : Int)) rfl rfl (zU (by omega) (by omega))) (za rfl rfl (ze rfl) (zg rfl ?_))))))))
        exact zT (j - 1, ((M.set j x2).set (j - 1) x1)) ⟨sk rfl, sk rfl, sk rfl, sk rfl, sk rfl, sk rfl, sk rfl, sk rfl, sk rfl, sk rfl, trivial⟩ HSub.rfl' ⟨by omega, by simp only [ls]; omega, by rw [← hM]; exact (bub_lt' (by omega) hx1 hx2 hc3).symm⟩ (by omega)
      · replace hc3 := of_decide_eq_false hc3
        refine z2 rfl (zJ (zH (zB (zC (zf (zc rfl (za rfl rfl (zb rfl) (za rfl rfl (z8 (c := ((i + 1 : Nat) : Int)) rfl rfl (zU (by omega) (by omega))) (za rfl rfl (ze rfl) (zg rfl ?_))))))))))
        exact zT (i + 1, n - 1, M) ⟨sk rfl, sk rfl, sk rfl, sk rfl, sk rfl, trivial⟩ HSub.rfl' ⟨by show a + 1 ≤ i + 1; omega, by show b ≤ i + 1 + (n - 1); omega, hlM, by show isrt (zI 0) a b (n - 1) (i + 1) M = _; have hb : bub (zI 0) a j M = M := bub_ge' hx1 hx2 hc3; rw [← hr]; obtain ⟨m, rfl⟩ : ∃ m, n = m + 1 := ⟨n - 1, by omega⟩; rw [zbA (by omega), ← hM, hb]; rfl⟩ (by omega)
    · skip
      refine JD.keep [0, 1, 2, 3, 8, 9, 12, 13, 14, 17] [(0, .ov v), (1, dN a), (2, dN b), (3, .fn 32 [] []), (8, dN i), (9, dN j), (12, dN i), (13, dN b), (14, dB (decide (((i : Nat) : Int) < ((b : Nat) : Int)))), (17, dN i)] rfl (JD.norm [.sl v 2 30 (M.map RowD.d)] rfl ?_)
      refine zaj 14 [(18, dN j, none), (19, dN a, none), (20, dB false, none), (21, dB false, none), (22, .v undef, none), (23, .v undef, none), (24, .v undef, none), (25, .v undef, none), (26, .v undef, none), (27, .v undef, none), (28, .v undef, none), (29, .v undef, none), (30, .v undef, none), (31, .v undef, none)] [.sl v 2 30 (M.map RowD.d)] (Hn := [.sl v 2 30 (M.map RowD.d)]) zaz rfl rfl rfl rfl HSub.rfl' rfl ⟨sa_p rfl rfl rfl (zb rfl), sa_p rfl rfl rfl (zb rfl), sa_p rfl rfl rfl (zar rfl rfl (decide_eq_false hg2)), sa_p rfl rfl rfl (zb rfl), sa_s rfl rfl rfl rfl rfl rfl (by decide), sa_s rfl rfl rfl rfl rfl rfl (by decide), sa_s rfl rfl rfl rfl rfl rfl (by decide), sa_s rfl rfl rfl rfl rfl rfl (by decide), sa_s rfl rfl rfl rfl rfl rfl (by decide), sa_s rfl rfl rfl rfl rfl rfl (by decide), sa_s rfl rfl rfl rfl rfl rfl (by decide), sa_s rfl rfl rfl rfl rfl rfl (by decide), sa_s rfl rfl rfl rfl rfl rfl (by decide), sa_s rfl rfl rfl rfl rfl rfl (by decide), trivial⟩ ?_
      refine OpsD.keep [0, 1, 2, 3, 8, 9, 12, 13, 14, 17, 18, 19, 20, 21, 22, 23, 24, 25, 26, 27, 28, 29, 30, 31] [(0, .ov v), (1, dN a), (2, dN b), (3, .fn 32 [] []), (8, dN i), (9, dN j), (12, dN i), (13, dN b), (14, dB (decide (((i : Nat) : Int) < ((b : Nat) : Int)))), (17, dN i), (18, dN j), (19, dN a), (20, dB false), (21, dB false), (22, .v undef), (23, .v undef), (24, .v undef), (25, .v undef), (26, .v undef), (27, .v undef), (28, .v undef), (29, .v undef), (30, .v undef), (31, .v undef)] rfl (zj rfl rfl rfl rfl rfl (by decide) (zj rfl rfl rfl rfl rfl (by decide) (za rfl rfl (zm rfl rfl) (zg rfl (zf (zay _ rfl rfl rfl (z2 rfl (zJ (zH (zB (zC (zf (zc rfl (za rfl rfl (zb rfl) (za rfl rfl (z8 (c := ((i + 1 : Nat) : Int)) rfl rfl (zU (by omega) (by omega))) (za rfl rfl (ze rfl) (zg rfl ?_)))))))))))))))))
      exact zT (i + 1, n - 1, M) ⟨sk rfl, sk rfl, sk rfl, sk rfl, sk rfl, trivial⟩ HSub.rfl' ⟨by show a + 1 ≤ i + 1; omega, by show b ≤ i + 1 + (n - 1); omega, hlM, by show isrt (zI 0) a b (n - 1) (i + 1) M = _; have hb : bub (zI 0) a j M = M := bub_end (by omega); rw [← hr]; obtain ⟨m, rfl⟩ : ∃ m, n = m + 1 := ⟨n - 1, by omega⟩; rw [zbA (by omega), ← hM, hb]; rfl⟩ (by omega)
  · replace hc1 := of_decide_eq_false hc1
    refine z2 rfl (zJ (zH (zB (PD.norm [.sl v 2 30 ((fixI (zI 0) a b l).map RowD.d)] (by rw [← isrt_fixI ha hb, ← hr, zbj (by omega)]) ?_))))
    exact zbT Try.results71 .nil rfl (HSub.fst 1 rfl) ⟨rfl, rfl⟩
end Lp
