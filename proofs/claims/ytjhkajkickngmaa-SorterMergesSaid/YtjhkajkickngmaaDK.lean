/-
  Ways that meet again, with ghosts; functions as values.
-/
import Derived.Test.YtjhkajkickngmaaDI
set_option linter.unusedVariables false
namespace Lp
open Go Go.RowKit
section
variable {P : Program} {N : Nat} {C : Ctx} {c : Code} {K : Kd} {H : List Hp} {Q : DEnds}
/-- A piece of code whose ways meet again, each with ghosts of its own. -/
theorem jd_join {G : Type} (L : G → Kd) (HI : G → List Hp) (I : G → Prop) (h : ∀ Q' : DEnds, (∀ g, I g → PD C Q' .normal (L g) (HI g)) → JD P N C c K H Q') (next : ∀ g, I g → PD C Q .normal (L g) (HI g)) : JD P N C c K H Q := h Q next
end
section
variable {P : Program} {ty : TypeId} {K : Kd} {H : List Hp}
theorem p_makeFunc {f : FuncId} {xs ys : Array Operand} {ds es : List D} (hx : opsD K xs.toList = some ds) (hy : opsD K ys.toList = some es) : Pu P (.makeFunc (.func f) xs ys) ty K H (.fn f ds es) :=
  ⟨fun ρ w F hk _ _ => by
    have h1 := opsD_rep hk hx
    have h2 := opsD_rep hk hy
    refine EOp.of_run (v := .func (.func f) (xs.map (ev ρ)) (ys.map (ev ρ))) (w' := w) ?_ ⟨rfl, xs.toList.map (ev ρ), ys.toList.map (ev ρ), ?_, h1, h2⟩
    · simp [execOp, Instr.makeFunc, Sem.run_pure, mkOper]
    · congr 1 <;> (apply Array.ext'; simp)⟩
end
end Lp
