/-
  BITS of small numbers; the capacity of a row; a new row of whatever bytes; a copy of nothing.
-/
import Derived.Lib.MakeNoZero
import Derived.Test.YtjhkajkickngmaaPRow
set_option linter.unusedVariables false
namespace Lp
open Go Go.RowKit

theorem fdiv_nat (a n : Nat) : Int.fdiv (a : Int) (2 ^ n) = ((a / 2 ^ n : Nat) : Int) := by
  rw [show (2 : Int) ^ n = ((2 ^ n : Nat) : Int) by push_cast; rfl]
  rw [Int.fdiv_eq_ediv_of_nonneg _ (Int.natCast_nonneg _)]
  exact (Int.natCast_ediv a (2 ^ n)).symm
section
variable {P : Program} {ty : TypeId} {K : Kd} {H : List Hp} {t t' : TypeId} {x y : Operand}
theorem p_shr {k k' : IntKind} {a n m : Nat} (hx : opD K x = some (.v (.int k (a : Int)))) (hy : opD K y = some (.v (.int k' (n : Int)))) (hn : n ≤ k.bits) (hm : 2 ^ n = m) : Pu P (.binOp .shr t x y t') ty K H (.v (.int k ((a / m : Nat) : Int))) :=
  p_bin hx hy (fun w => by
    subst hm
    have h1 : ¬ ((n : Nat) : Int) < 0 := by omega
    have h2 : min n k.bits = n := by omega
    simp [eqGuard, binOp, Op.shift, h1, h2, fdiv_nat])
/-- of a row of the call's own the front alone -/
theorem Hp.front {v : Value} {T : TypeId} {xs : List D} {m : Nat} (hm : m ≤ xs.length) : ∀ w F, (Hp.sl v 1 T xs).ok w F → (Hp.sl (cut 1 v 0 m) 1 T (xs.take m)).ok w F := fun w F ⟨us, h1, h2⟩ => by
  have hl := h1.len
  refine ⟨us.take m, h1.take m, ?_⟩
  rcases Nat.eq_zero_or_pos xs.length with h0 | h0
  · have hu : us = [] := List.eq_nil_of_length_eq_zero (by omega)
    have : m = 0 := by omega
    subst this; subst hu
    obtain ⟨A, c, e, _⟩ := h2.sl.capOk
    subst e
    cases A with
    | none => simpa [cut] using h2
    | some a => simpa [cut, Addr.add] using h2
  · obtain ⟨cap, r, e, _⟩ := h2.form (by omega)
    rw [e] at h2
    have := h2.front (m := m) (by omega)
    rw [e]
    simpa [cut, Addr.add] using this
end
end Lp
