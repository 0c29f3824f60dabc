/-
  THE ENGINE, sixth part: code by its path; a function's frame; what a function hands back.
-/
import Derived.Test.YtjhkajkickngmaaEngD
namespace Lp
open Go Go.RowKit

def isSeq : Code → Bool | .seq _ _ => true | _ => false
def isSkip : Code → Bool | .skip => true | _ => false
def isRet : Code → Bool | .ret => true | _ => false
def isLoop : Code → Bool | .loop _ => true | _ => false
def condOf : Code → Option Operand | .cond c _ _ => some c | _ => none
def blockOf : Code → Option Nat | .block i _ => some i | _ => none
def exitOf : Code → Option Nat | .exit i => some i | _ => none
theorem cd_nil (c : Code) : cd c [] = c := by cases c <;> rfl

theorem cd_app (b : Bool) : ∀ (p : List Bool) (c : Code), cd c (p ++ [b]) = cd (cd c p) [b]
  | [], c => by rw [cd_nil]; rfl
  | i :: r, c => by
    have ih := cd_app b r
    cases c <;> simp only [List.cons_append, cd] <;> first | rfl | (cases i <;> simp only [cond_true, cond_false, ih]) | exact ih _

section
variable {P : Program} {N : Nat} {l : Kn} {w : World} {Q : Ends} {c : Code} {p : List Bool}

variable {ops : List Oper} {K : Env → World → Prop} {i : Nat}

end

theorem run_loadVar_agg {P : Program} {t b o : Nat} {w : World} {cs : List Value} (hg : ∀ w, (isAgg t).run P w = .ok true w) (hs : ∀ w, (Go.sizeOf t).run P w = .ok cs.length w) (hc : At w b o cs) : (loadVar t ⟨b, o, none⟩).run P w = .ok (.agg cs.toArray) w := by
  have := run_loadCells P w b o cs hc
  simp [loadVar, hg, hs, this]
def packed : List Value → Value
  | [v] => v
  | vs => .tuple vs.toArray

end Lp
