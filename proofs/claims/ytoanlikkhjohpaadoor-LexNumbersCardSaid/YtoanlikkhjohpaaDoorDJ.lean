/- Walks, printed by a program of mine. -/
import Derived.Lib.MakeNoZero
import Derived.Test.YtoanlikkhjohpaaDoorV5
set_option linter.unusedSimpArgs false
set_option linter.unusedVariables false
namespace Lp
open Go Go.RowKit Go.Proofs

namespace HdYtoanlikkhjohpaaDoorV4
theorem eqp_49_eql (x y : Operand) (a : Addr) (w : World) : (do eqGuard .eql 49 x y (.pointer (some a)) (.pointer none); binOp .eql 49 (.pointer (some a)) (.pointer none) : Sem Value).run Tryd.prog w = .ok (.bool false) w := by kernel_rfl
theorem eqs_49_neq (d : Nat) (a : Addr) (w : World) : (Op.equalIn (d + 1) 49 (.pointer (some a)) (.pointer (some a))).run Tryd.prog w = .ok true w := by
  rw [Op.equalIn]
  simp only [Sem.run_bind, run_underlying (show Tryd.prog.underlying 49 = some (.pointer 51) by kernel_rfl), Result.andThen_ok, Tryd.sizeOf51]
  simp [sameAddr]
theorem eqt_49_neq (a : Addr) (w : World) : (Op.equal 49 (.pointer (some a)) (.pointer (some a))).run Tryd.prog w = .ok true w := eqs_49_neq 9999 a w
theorem eqq_49_neq (x y : Operand) (a : Addr) (w : World) : (do eqGuard .neq 49 x y (.pointer (some a)) (.pointer (some a)); binOp .neq 49 (.pointer (some a)) (.pointer (some a)) : Sem Value).run Tryd.prog w = .ok (.bool false) w := by simp [eqGuard, binOp, eqt_49_neq]
theorem fa_51_0 (b o : Nat) : ∀ w, (Instr.fieldAt 51 (.pointer (some ⟨b, o, none⟩)) 0).run Tryd.prog w = .ok (.pointer (some ⟨b, o + 0, none⟩)) w := fun _ => by kernel_rfl
theorem za5 (b o : Nat) : ∀ w, (Instr.fieldAt 51 (.pointer (some ⟨b, o, none⟩)) 1).run Tryd.prog w = .ok (.pointer (some ⟨b, o + 1, none⟩)) w := fun _ => by kernel_rfl
theorem zbn : ∃ i, Tryd.prog.info? 5 = some i ∧ i.zero = some (.int .u8 0) ∧ i.size = 1 ∧ i.bytes = 1 := infz_of (by kernel_rfl)
theorem zaR : Tryd.prog.underlying 39 = some (.slice 5) := by kernel_rfl
end HdYtoanlikkhjohpaaDoorV4
open HdYtoanlikkhjohpaaDoorV4

theorem cv_up {w : World} {g : Nat} {c : Array Value} (h : w.heap[g]? = some (.cells c 51 (0, 0))) (hc : c.size = 2) : (convert 49 72 (.pointer (some ⟨g, 0, none⟩))).run Tryd.prog w = .ok (.pointer (some ⟨g, 0, none⟩)) w := by
  simp [convert, run_underlying (show Tryd.prog.underlying 49 = some _ by kernel_rfl), run_underlying (show Tryd.prog.underlying 72 = some _ by kernel_rfl), Conv.unsafePointer, Conv.seenAt, viewAt, cellsIn, run_shape, h, hc, World.shape?, Tryd.sizeOf51]
theorem cv_down {w : World} {g : Nat} {c : Array Value} (h : w.heap[g]? = some (.cells c 51 (0, 0))) (hc : c.size = 2) : (convert 72 49 (.pointer (some ⟨g, 0, none⟩))).run Tryd.prog w = .ok (.pointer (some ⟨g, 0, none⟩)) w := by
  have e : liesAt Tryd.prog Tryd.prog.depth 51 (2 / Tryd.prog.cellsOf 51) 0 51 1 = true := by kernel_rfl
  simp [convert, run_underlying (show Tryd.prog.underlying 49 = some _ by kernel_rfl), run_underlying (show Tryd.prog.underlying 72 = some _ by kernel_rfl), Conv.unsafePointer, Conv.seenAt, viewAt, cellsIn, run_shape, h, hc, World.shape?, Tryd.sizeOf51, variablesAt, e]
theorem p_upto {ty : TypeId} {K : Kd} {H : List Hp} {t1 t2 : TypeId} {x : Operand} {g i : Nat} {X : D} (ht : (t1 = 49 ∧ t2 = 72) ∨ (t1 = 72 ∧ t2 = 49)) (hx : opD K x = some (dP g 0)) (hm : nth H i = some (.bx g 51 X)) (hX : Nat.beq X.cells.length 2 = true) : Pu Tryd.prog (.convert t1 t2 x) ty K H (dP g 0) :=
  ⟨fun ρ w F hk _ hH => by
    obtain ⟨u, h1, h2, h3⟩ := hH _ (zT hm)
    have hl := zaF (D.rep_cells h1 h2)
    have hc : u.cells.size = 2 := by have := Nat.eq_of_beq_eq_true hX; rw [← hl] at this; simpa [vcs] using this
    have e : ev ρ x = _ := hk.op hx
    refine EOp.of_run (v := .pointer (some ⟨g, 0, none⟩)) (w' := w) ?_ ⟨rfl, rfl⟩
    rcases ht with ⟨rfl, rfl⟩ | ⟨rfl, rfl⟩
    · have := zbm (cv_up h3 hc); simpa [execOp, zaa, e] using this
    · have := zbm (cv_down h3 hc); simpa [execOp, zaa, e] using this⟩
theorem p_noEscape {ty : TypeId} {K : Kd} {H : List Hp} {x : Operand} {ats : Array TypeId} {v : Value} (hx : opD K x = some (.v v)) : Pu Tryd.prog (.call { callee := .value (.func 49), args := #[x], argTypes := ats }) ty K H (.v v) :=
  ⟨fun ρ w F hk _ _ => e_ext (vs := [v]) (zz ρ [x]) (by rw [show (#[x] : Array Operand).toList = [x] from rfl, zbz ρ [x] [x] (fun _ h => h)]; have e : ev ρ x = v := hk.op hx; simp [e]) (fun w => by
    rw [run_callFunc_extern Tryd.func49 (by kernel_rfl) (by kernel_rfl) (by kernel_rfl) (e := Extern.AbiNoEscape.same) (by kernel_rfl)]; rfl) ⟨rfl, rfl⟩⟩

set_option maxHeartbeats 4000000 in
set_option maxRecDepth 100000 in
theorem copyCheck_c (g : Nat) (p : Value) (x : D) (hp : p = .pointer none ∨ p = .pointer (some ⟨g, 0, none⟩)) :
    CD Tryd.prog 39 [.bx g 51 (.agg [.v p, x])] [dP g 0] (fun r H' => r = .tup [] ∧ H' = [.bx g 51 (.agg [dP g 0, x])]) := by
  refine zD Tryd.func39 rfl (N := 20) rfl rfl (fun C => ?_)
  refine JD.keep [0] [(0, dP g 0)] rfl ?_
  rcases hp with rfl | rfl
  · skip
    refine zf _ _ rfl rfl rfl (zc rfl (za rfl rfl (zb rfl) (za rfl rfl (z6 rfl) (za rfl rfl (zN rfl fa_51_0 rfl) (za rfl rfl (zas rfl (i := 0) rfl Tryd.isAgg49 rfl) (za rfl rfl (zb6 (r := .bool true) rfl rfl (fun _ => by kernel_rfl)) (zg rfl (ze (zaW _ rfl rfl rfl (zc rfl (za rfl rfl (zb rfl) (za rfl rfl (zb rfl) (za rfl rfl (p_upto (i := 0) (by first | exact .inl ⟨rfl, rfl⟩ | exact .inr ⟨rfl, rfl⟩) rfl rfl rfl) (za rfl rfl (p_noEscape rfl) (za rfl rfl (p_upto (i := 0) (by first | exact .inl ⟨rfl, rfl⟩ | exact .inr ⟨rfl, rfl⟩) rfl rfl rfl) (za rfl rfl (z6 rfl) (za rfl rfl (zN rfl fa_51_0 rfl) (zk rfl rfl (zI (i := 0) (X' := .agg [dP g 0, x]) rfl rfl rfl (CellD.v rfl) Tryd.sizeOf49 rfl rfl rfl) ?_))))))))))))))))))
    rintro _ _ ⟨rfl, rfl⟩
    refine OpsD.norm [.bx g 51 (.agg [dP g 0, x])] rfl (zg rfl ?_)
    exact pd_end Tryd.results39 .nil rfl ⟨rfl, rfl⟩
  · skip
    refine zf _ _ rfl rfl rfl (zc rfl (za rfl rfl (zb rfl) (za rfl rfl (z6 rfl) (za rfl rfl (zN rfl fa_51_0 rfl) (za rfl rfl (zas rfl (i := 0) rfl Tryd.isAgg49 rfl) (za rfl rfl (zb6 (r := .bool false) rfl rfl (eqp_49_eql _ _ _)) (zg rfl (ze (zaj _ rfl rfl rfl (zf _ _ rfl rfl rfl (zc rfl (za rfl rfl (zb rfl) (za rfl rfl (z6 rfl) (za rfl rfl (zN rfl fa_51_0 rfl) (za rfl rfl (zas rfl (i := 0) rfl Tryd.isAgg49 rfl) (za rfl rfl (zb rfl) (za rfl rfl (zb6 (r := .bool false) rfl rfl (eqq_49_neq _ _ _)) (zg rfl (ze (JD.keep [19] [(19, dB false)] rfl (zaj _ rfl rfl rfl (zA rfl ?_))))))))))))))))))))))
    exact pd_end Tryd.results39 .nil rfl ⟨rfl, rfl⟩

set_option maxHeartbeats 4000000 in
set_option maxRecDepth 100000 in
theorem zaX (g : Nat) (p v : Value) (bs : List UInt8) (c : UInt8) (hp : p = .pointer none ∨ p = .pointer (some ⟨g, 0, none⟩)) (hl : bs.length ≤ 1000000000000) :
    CD Tryd.prog 26 [.bx g 51 (.agg [.v p, .ov v]), .sl v 1 5 (bs.map dU8)] [dP g 0, .v (.int .u8 ((c.toNat : Nat) : Int))] (fun r H' => ∃ v', r = .v .nilIface ∧ H' = [.bx g 51 (.agg [dP g 0, .ov v']), .sl v' 1 5 ((bs ++ [c]).map dU8)]) := by
  refine zD Tryd.func26 rfl (N := 17) rfl rfl (fun C => ?_)
  refine JD.keep [0, 1] [(0, dP g 0), (1, .v (.int .u8 ((c.toNat : Nat) : Int)))] rfl (zf _ _ rfl rfl rfl (zc rfl (za rfl rfl (zd rfl) (zg rfl (ze (zf _ _ rfl rfl rfl (zc rfl (za rfl rfl (zb rfl) (zk rfl rfl (zy [.bx g 51 (.agg [.v p, .ov v])] [.sl v 1 5 (bs.map dU8)] [] rfl rfl (.cons ArgC.id .nil) zu Tryd.call39 (copyCheck_c g p (.ov v) hp) (.inl rfl)) ?_)))))))))
  rintro _ _ ⟨_, ⟨rfl, rfl⟩, rfl⟩
  refine OpsD.norm [.bx g 51 (.agg [dP g 0, .ov v]), .sl v 1 5 (bs.map dU8)] rfl (zg rfl (ze (zf _ _ rfl rfl rfl (zc rfl (za rfl rfl (zb rfl) (za rfl rfl (zb rfl) (za rfl rfl (z6 rfl) (za rfl rfl (zN rfl za5 rfl) (za rfl rfl (zas rfl (i := 0) rfl Tryd.isAgg39 rfl) (za rfl rfl (zb rfl) (zk rfl rfl (zQ [.tmp 12] rfl rfl (.cons (CellD.v rfl) .nil) rfl Tryd.runUnderlying39 Tryd.sizeOf5 Tryd.zeroValue5 rfl rfl rfl rfl) ?_)))))))))))
  rintro _ _ ⟨g1, rfl, rfl⟩
  refine zk rfl rfl (zae (f := dU8) (l := bs) (l' := [c]) (i := 2) rfl rfl rfl (SrcD.own (j := 0) rfl rfl) zaR zbn rfl rfl (by unfold maxLen; (try simp only [la, lc, ln, lm, lt', ld, ls, lr]); omega) (by (try simp only [la, lc, ln, lm, lt', ld, ls, lr]); omega)) ?_
  rintro _ _ ⟨v2, rfl, rfl⟩
  refine OpsD.norm [.sl (vS g1 1 1) 1 5 ([.v (.int .u8 ((c.toNat : Nat) : Int))]), .bx g 51 (.agg [dP g 0, .ov v]), .sl v2 1 5 ((bs ++ [c]).map dU8)] rfl (za rfl rfl (z6 rfl) (za rfl rfl (zN rfl za5 rfl) (zk rfl rfl (zI (i := 1) (X' := .agg [dP g 0, .ov v2]) rfl rfl rfl (CellD.o) Tryd.sizeOf39 rfl rfl rfl) ?_)))
  rintro _ _ ⟨rfl, rfl⟩
  refine OpsD.norm [.sl (vS g1 1 1) 1 5 ([.v (.int .u8 ((c.toNat : Nat) : Int))]), .bx g 51 (.agg [dP g 0, .ov v2]), .sl v2 1 5 ((bs ++ [c]).map dU8)] rfl (zg rfl (ze (JD.keep [4] [(4, .v .nilIface)] rfl (zf _ _ rfl rfl rfl (zc rfl (za rfl rfl (zd rfl) (zg rfl (ze (zw rfl (PD.subH (HSub.perm (zj (i := 2) rfl)) (PD.norm [.sl v2 1 5 ((bs ++ [c]).map dU8), .sl (vS g1 1 1) 1 5 ([.v (.int .u8 ((c.toNat : Nat) : Int))]), .bx g 51 (.agg [dP g 0, .ov v2])] rfl (PD.subH (HSub.perm (zj (i := 2) rfl)) (PD.norm [.bx g 51 (.agg [dP g 0, .ov v2]), .sl v2 1 5 ((bs ++ [c]).map dU8), .sl (vS g1 1 1) 1 5 ([.v (.int .u8 ((c.toNat : Nat) : Int))])] rfl ?_)))))))))))))
  exact zo Tryd.results26 (.cons (zq rfl) .nil) rfl (HSub.fst 2 rfl) ⟨v2, rfl, rfl⟩

set_option maxHeartbeats 4000000 in
set_option maxRecDepth 100000 in
theorem WriteString_c (g : Nat) (p v : Value) (bs : List UInt8) (s : ByteArray) (hp : p = .pointer none ∨ p = .pointer (some ⟨g, 0, none⟩)) (hl : bs.length ≤ 1000000000000) (hs : s.size ≤ 1000000000000) :
    CD Tryd.prog 28 [.bx g 51 (.agg [.v p, .ov v]), .sl v 1 5 (bs.map dU8)] [dP g 0, .s s] (fun r H' => ∃ v', r = .tup [dI (s.size : Int), .v .nilIface] ∧ H' = [.bx g 51 (.agg [dP g 0, .ov v']), .sl v' 1 5 ((bs ++ s.data.toList).map dU8)]) := by
  refine zD Tryd.func28 rfl (N := 19) rfl rfl (fun C => ?_)
  refine JD.keep [0, 1] [(0, dP g 0), (1, .s s)] rfl ?_
  refine JD.bd 1 rfl (fun bd1 => ?_)
  have sz1 : s.size ≤ 9223372036854775807 := bd1
  refine zf _ _ rfl rfl rfl (zc rfl (za rfl rfl (zd rfl) (za rfl rfl (zd rfl) (zg rfl (ze (zf _ _ rfl rfl rfl (zc rfl (za rfl rfl (zb rfl) (zk rfl rfl (zy [.bx g 51 (.agg [.v p, .ov v])] [.sl v 1 5 (bs.map dU8)] [] rfl rfl (.cons ArgC.id .nil) zu Tryd.call39 (copyCheck_c g p (.ov v) hp) (.inl rfl)) ?_)))))))))
  rintro _ _ ⟨_, ⟨rfl, rfl⟩, rfl⟩
  refine OpsD.norm [.bx g 51 (.agg [dP g 0, .ov v]), .sl v 1 5 (bs.map dU8)] rfl (zg rfl (ze (zf _ _ rfl rfl rfl (zc rfl (za rfl rfl (zb rfl) (za rfl rfl (zb rfl) (za rfl rfl (z6 rfl) (za rfl rfl (zN rfl za5 rfl) (za rfl rfl (zas rfl (i := 0) rfl Tryd.isAgg39 rfl) (za rfl rfl (zb rfl) (zk rfl rfl (ef_append_s (i := 1) (bs := bs) (s := s) rfl rfl rfl zaR (by kernel_rfl) zbn (by (try simp only [la, lc, ln]); omega)) ?_)))))))))))
  rintro _ _ ⟨v1, rfl, rfl⟩
  refine OpsD.norm [.bx g 51 (.agg [dP g 0, .ov v]), .sl v1 1 5 ((bs ++ s.data.toList).map dU8)] rfl (za rfl rfl (z6 rfl) (za rfl rfl (zN rfl za5 rfl) (zk rfl rfl (zI (i := 0) (X' := .agg [dP g 0, .ov v1]) rfl rfl rfl (CellD.o) Tryd.sizeOf39 rfl rfl rfl) ?_)))
  rintro _ _ ⟨rfl, rfl⟩
  refine OpsD.norm [.bx g 51 (.agg [dP g 0, .ov v1]), .sl v1 1 5 ((bs ++ s.data.toList).map dU8)] rfl (zg rfl (ze (JD.keep [1, 4, 5] [(1, .s s), (4, dI 0), (5, .v .nilIface)] rfl (zf _ _ rfl rfl rfl (zc rfl (za rfl rfl (zb rfl) (za rfl rfl (zG rfl Tryd.runUnderlying9) (za rfl rfl (zd rfl) (za rfl rfl (zd rfl) (zg rfl (ze (zw rfl ?_))))))))))))
  exact zo Tryd.results28 (.cons (zq rfl) (.cons (zq rfl) .nil)) rfl (HSub.fst 2 rfl) ⟨v1, rfl, rfl⟩
end Lp
/-
  A region that draws its order, whose operations may make rows of the call's own: which place they have is told by a ghost for each of these.
-/
set_option linter.unusedVariables false
namespace Lp
open Go Go.RowKit

/-- The ghosts of a region: of each operation the row that it made. -/
abbrev Gh := Nat → Value
inductive Ex where
  | q (d : D)
  /-- reads what is owned at its place in the chain -/
  | r (d : D)
  /-- an operation without a result -/
  | s (H : Gh → List Hp)
  | e (d : D) (H : Gh → List Hp)
  | o (H : Gh → List Hp)
  | f (m : Value → D) (H : Gh → List Hp)
def Ex.d (γ : Gh) (i : Nat) : Ex → D
  | .q d => d
  | .r d => d
  | .s _ => .v undef
  | .e d _ => d
  | .o _ => .ov (γ i)
  | .f m _ => m (γ i)
def Ex.h (γ : Gh) : Ex → Option (List Hp)
  | .q _ => none
  | .r _ => none
  | .s H => some (H γ)
  | .e _ H => some (H γ)
  | .o H => some (H γ)
  | .f _ H => some (H γ)
section
variable {P : Program} {N : Nat} {ops : List Oper} {K : Kd} {Hs H0 : List Hp} {γ : Gh} {es : List (Tmp × Ex)} {k : Nat}
end

end Lp
/-
  BITS of small numbers; the capacity of a row; a new row of whatever bytes; a copy of nothing.
-/
set_option linter.unusedVariables false
namespace Lp
open Go Go.RowKit

theorem fdiv_nat (a n : Nat) : Int.fdiv (a : Int) (2 ^ n) = ((a / 2 ^ n : Nat) : Int) := by
  rw [show (2 : Int) ^ n = ((2 ^ n : Nat) : Int) by push_cast; rfl]
  rw [Int.fdiv_eq_ediv_of_nonneg _ (Int.natCast_nonneg _)]
  exact (Int.natCast_ediv a (2 ^ n)).symm
section
variable {P : Program} {ty : TypeId} {K : Kd} {H : List Hp} {t t' : TypeId} {x y : Operand}
theorem zbL {k k' : IntKind} {a n m : Nat} (hx : opD K x = some (.v (.int k (a : Int)))) (hy : opD K y = some (.v (.int k' (n : Int)))) (hn : n ≤ k.bits) (hm : 2 ^ n = m) : Pu P (.binOp .shr t x y t') ty K H (.v (.int k ((a / m : Nat) : Int))) :=
  zb6 hx hy (fun w => by
    subst hm
    have h1 : ¬ ((n : Nat) : Int) < 0 := by omega
    have h2 : min n k.bits = n := by omega
    simp [eqGuard, binOp, Op.shift, h1, h2, fdiv_nat])
theorem bv8 (a b : Nat) (ha : a < 256) (hb : b < 256) : (BitVec.ofInt IntKind.u8.bits (a : Int) &&& BitVec.ofInt IntKind.u8.bits (b : Int)).toNat = a &&& b := by
  rw [BitVec.toNat_and, BitVec.toNat_ofInt, BitVec.toNat_ofInt]
  have e : (2 : Nat) ^ IntKind.u8.bits = 256 := rfl
  rw [e]
  congr 1 <;> omega
theorem bv8o (a b : Nat) (ha : a < 256) (hb : b < 256) : (BitVec.ofInt IntKind.u8.bits (a : Int) ||| BitVec.ofInt IntKind.u8.bits (b : Int)).toNat = a ||| b := by
  rw [BitVec.toNat_or, BitVec.toNat_ofInt, BitVec.toNat_ofInt]
  have e : (2 : Nat) ^ IntKind.u8.bits = 256 := rfl
  rw [e]
  congr 1 <;> omega
theorem wrap8 {n : Nat} (h : n < 256) : IntKind.u8.wrap (n : Int) = (n : Int) := by simp [IntKind.wrap, IntKind.bits, IntKind.signed]; omega
theorem zbe {a b c : Nat} (hx : opD K x = some (.v (.int .u8 (a : Int)))) (hy : opD K y = some (.v (.int .u8 (b : Int)))) (ha : a < 256) (hb : b < 256) (hc : a &&& b = c) : Pu P (.binOp .and t x y t') ty K H (.v (.int .u8 (c : Int))) :=
  zb6 hx hy (fun w => by
    subst hc
    have h : a &&& b < 256 := Nat.lt_of_le_of_lt Nat.and_le_left ha
    simp only [eqGuard, binOp, Op.intBits, bv8 a b ha hb, wrap8 h]
    rfl)
theorem zbh {a b c : Nat} (hx : opD K x = some (.v (.int .u8 (a : Int)))) (hy : opD K y = some (.v (.int .u8 (b : Int)))) (ha : a < 256) (hb : b < 256) (hc : a ||| b = c) : Pu P (.binOp .or t x y t') ty K H (.v (.int .u8 (c : Int))) :=
  zb6 hx hy (fun w => by
    subst hc
    have h : a ||| b < 256 := Nat.or_lt_two_pow (n := 8) ha hb
    simp only [eqGuard, binOp, Op.intBits, bv8o a b ha hb, wrap8 h]
    rfl)
theorem zb0 (a : Nat) : a &&& 63 = a % 64 := Nat.and_two_pow_sub_one_eq_mod a 6
theorem and15 (a : Nat) : a &&& 15 = a % 16 := Nat.and_two_pow_sub_one_eq_mod a 4
theorem zbW : ∀ a, a < 64 → 128 ||| a = 128 + a := by decide
theorem or192 : ∀ a, a < 32 → 192 ||| a = 192 + a := by decide
theorem or224 : ∀ a, a < 16 → 224 ||| a = 224 + a := by decide
theorem or240 : ∀ a, a < 8 → 240 ||| a = 240 + a := by decide
end
end Lp
