/-
  THE ENGINE, second part: one operation; a region in the order of its text; a region that draws its order.
-/
import Derived.Test.YtjhkajkickngmaaEng
namespace Lp
open Go Go.RowKit

def mkOper (op : Op) (ty : TypeId) : Oper := { dst := none, op := op, type := ty, pos := "", after := #[], guard := none }

def EOpD (P : Program) (op : Op) (ty : TypeId) (ρ : Env) (w : World) (K : Value → World → Prop) : Prop :=
  match (execOp (ev ρ) (mkOper op ty)).run P w with
  | .ok (.value v) w' => K v w'
  | .ok .skip w' => K undef w'
  | .ok (.enter f args) w' => Calls P f args w' fun e w'' => ∃ v, e = .returned v ∧ K v w''
  | .ok (.row row args) w' => Rows P row args w' K
  | _ => False

structure EOp (P : Program) (op : Op) (ty : TypeId) (ρ : Env) (w : World) (K : Value → World → Prop) : Prop where
  out : EOpD P op ty ρ w K

theorem EOp.mono {P : Program} {op : Op} {ty : TypeId} {ρ : Env} {w : World} {K K' : Value → World → Prop} (h : EOp P op ty ρ w K) (hk : ∀ v w', K v w' → K' v w') : EOp P op ty ρ w K' := by
  obtain ⟨h⟩ := h
  refine ⟨?_⟩
  unfold EOpD at *
  split <;> simp_all
  · exact h.mono fun e w' ⟨v, he, hv⟩ => ⟨v, he, hk _ _ hv⟩
  · exact h.mono fun v w' hv => hk _ _ hv

theorem exec_same (ρ : Operand → Value) (o : Oper) : execOp ρ o = execOp ρ (mkOper o.op o.type) := rfl

theorem wp_of_EOp {P : Program} {o : Oper} {a : Act} {w : World} {next : Act → World → Prop} {Q : Exit → Act → World → Prop}
    (h : EOp P o.op o.type (envOf a) w (fun v w' => next (a.put o.dst v) w')) : o.wp P a w next Q := by
  obtain ⟨h⟩ := h
  unfold EOpD at h
  unfold Oper.wp
  rw [eval_env, exec_same]
  revert h
  cases hr : (execOp (ev (envOf a)) (mkOper o.op o.type)).run P w with
  | halt x w' => simp
  | ok x w' =>
    cases x with
    | value v => exact fun h => h
    | skip => exact fun h => h
    | enter f args => exact fun h => h.mono fun e w'' ⟨v, he, hv⟩ => by subst he; exact hv
    | row r args => exact fun h => h
    | _ => exact fun h => h.elim

def nth {α : Type} : List α → Nat → Option α
  | [], _ => none
  | x :: _, 0 => some x
  | _ :: r, n + 1 => nth r n

theorem nth_eq {α : Type} (l : List α) (n : Nat) : nth l n = l[n]? := by
  induction l generalizing n with
  | nil => rfl
  | cons x r ih => cases n <;> simp [nth, ih]

/-- What an operation is, but for its place in the text. -/
def opAt (ops : List Oper) (i : Nat) : Option (Option Tmp × Op × TypeId × Option (Nat × Bool)) :=
  match nth ops i with
  | some o => some (o.dst, o.op, o.type, o.guard)
  | none => none

theorem opAt_some {ops : List Oper} {i : Nat} {d : Option Tmp} {op : Op} {ty : TypeId} {g : Option (Nat × Bool)} (h : opAt ops i = some (d, op, ty, g)) :
    ∃ o, ops.toArray[i]? = some o ∧ o.dst = d ∧ o.op = op ∧ o.type = ty ∧ o.guard = g := by
  unfold opAt at h
  cases hn : nth ops i with
  | none => rw [hn] at h; cases h
  | some o =>
    rw [hn] at h
    simp only [Option.some.injEq, Prod.mk.injEq] at h
    refine ⟨o, ?_, h.1, h.2.1, h.2.2.1, h.2.2.2⟩
    rw [nth_eq] at hn
    simpa using hn

section seqRegion
variable {P : Program} {N : Nat} {ops : List Oper} {l : Kn} {w : World} {K : Env → World → Prop}

theorem wpOps_mono {P : Program} {ops : Array Oper} {Q Q' : Exit → Act → World → Prop} (hq : ∀ e a w, Q e a w → Q' e a w) : ∀ (js : List Nat) (a : Act) (w : World), wpOps P ops Q js a w → wpOps P ops Q' js a w
  | [], a, w, h => hq _ _ _ h
  | i :: rest, a, w, h => by
    simp only [wpOps] at h ⊢
    cases ho : ops[i]? with
    | none => simp only [ho] at h ⊢; exact wpOps_mono hq rest a w h
    | some o =>
      simp only [ho] at h ⊢
      split
      · rename_i hw
        rw [if_pos hw] at h
        rcases h with h | ⟨h1, a0, w0, h2⟩
        · left
          unfold Oper.wp at h ⊢
          revert h
          cases (execOp a.eval o).run P w with
          | halt x w' => cases x <;> simp [Oper.upon] <;> intro h <;> exact hq _ _ _ h
          | ok x w' =>
            cases x <;> simp [Oper.upon] <;> intro h
            · exact wpOps_mono hq rest _ _ h
            · exact wpOps_mono hq rest _ _ h
            · refine h.mono ?_
              intro e w'' he
              cases e with
              | returned v => exact wpOps_mono hq rest _ _ he
              | panicked c => exact hq _ _ _ he
              | outgrown => obtain ⟨a0, w0, h0⟩ := he; exact ⟨a0, w0, hq _ _ _ h0⟩
            · exact wpOps_mono hq rest _ _ h
            · exact h.mono fun v w'' hv => wpOps_mono hq rest _ _ hv
        · exact .inr ⟨h1, a0, w0, hq _ _ _ h2⟩
      · rename_i hw
        rw [if_neg hw] at h
        exact wpOps_mono hq rest _ _ h

def nb : Value → Option Bool
  | .bool b => some b
  | _ => none
def opsOf : Code → List Oper
  | .region _ ops _ => ops.toList
  | _ => []
def drawOf : Code → Option Bool
  | .region _ _ d => some d
  | _ => none

end seqRegion

/-- The code at a path: 0 the first part (the body), 1 the second. -/
def cd : Code → List Bool → Code
  | c, [] => c
  | .seq a b, i :: r => bif i then cd b r else cd a r
  | .cond _ a b, i :: r => bif i then cd b r else cd a r
  | .block _ a, _ :: r => cd a r
  | .loop a, _ :: r => cd a r
  | .scope a, _ :: r => cd a r
  | c, _ :: _ => c

def bodyOf (f : Func) : Code := f.body.getD .skip

end Lp
