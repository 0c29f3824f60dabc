/-
  THE ENGINE: a judgement over the model's code in which the frame is known slot by slot, and code is named by its path.
  Plain definitions and theorems, over any program.
-/
import Derived.WalkKit
namespace Lp
open Go Go.RowKit

abbrev Env := Nat → Value
abbrev Kn := List (Nat × Value)

def ev (ρ : Env) : Operand → Value
  | .tmp t => ρ t
  | .const v => v
  | .global g => .pointer (some ⟨g, 0, none⟩)
  | .func f => .func (.func f) #[] #[]

def envOf (a : Act) : Env := fun t => a.tmps.getD t undef

theorem eval_env (a : Act) : a.eval = ev (envOf a) := by funext x; cases x <;> rfl

theorem nbeq_ne {t d : Nat} (e : ¬ t = d) : Nat.beq t d = false := by
  cases h : Nat.beq t d with
  | false => rfl
  | true => exact absurd (Nat.eq_of_beq_eq_true h) e

def look : Kn → Nat → Option Value
  | [], _ => none
  | (d, v) :: r, t => bif Nat.beq t d then some v else look r t

def Knows (ρ : Env) (l : Kn) : Prop := ∀ t v, look l t = some v → ρ t = v

def opv (l : Kn) : Operand → Option Value
  | .tmp t => look l t
  | .const v => some v
  | .global g => some (.pointer (some ⟨g, 0, none⟩))
  | .func f => some (.func (.func f) #[] #[])

theorem Knows.op {ρ : Env} {l : Kn} (h : Knows ρ l) {x : Operand} {v : Value} (hx : opv l x = some v) : ev ρ x = v := by
  cases x with
  | tmp t => exact h t v hx
  | const c => simpa [opv, ev] using hx
  | global g => simpa [opv, ev] using hx
  | func f => simpa [opv, ev] using hx

def upd (ρ : Env) : Option Tmp → Value → Env
  | some d, v => fun t => if t = d then v else ρ t
  | none, _ => ρ

def upl (l : Kn) : Option Tmp → Value → Kn
  | some d, v => (d, v) :: l
  | none, _ => l

theorem Knows.upd {ρ : Env} {l : Kn} (h : Knows ρ l) (d : Option Tmp) (v : Value) : Knows (upd ρ d v) (upl l d v) := by
  cases d with
  | none => exact h
  | some d =>
    intro t u hu
    simp only [upl, look] at hu
    by_cases e : t = d
    · subst e
      rw [show Nat.beq t t = true from Nat.beq_refl t] at hu
      simp only [cond_true, Option.some.injEq] at hu
      simp [Lp.upd, hu]
    · rw [nbeq_ne e] at hu
      simp only [cond_false] at hu
      simpa [Lp.upd, e] using h t u hu

/-- What is known of one list is known of another. -/
def Sub : Kn → Kn → Prop
  | [], _ => True
  | (t, v) :: r, l => look l t = some v ∧ Sub r l

theorem Knows.sub {ρ : Env} {l l' : Kn} (h : Knows ρ l) (hs : Sub l' l) : Knows ρ l' := by
  induction l' with
  | nil => intro t v hv; simp [look] at hv
  | cons x r ih =>
    obtain ⟨d, u⟩ := x
    obtain ⟨h1, h2⟩ := hs
    intro t v hv
    simp only [look] at hv
    by_cases e : t = d
    · subst e
      rw [show Nat.beq t t = true from Nat.beq_refl t] at hv
      simp only [cond_true, Option.some.injEq] at hv
      subst hv
      exact h t u h1
    · rw [nbeq_ne e] at hv
      simp only [cond_false] at hv
      exact ih h2 t v hv

def Ok (N : Nat) (a : Act) : Prop := a.tmps.size = N ∧ a.defers = []

def dok (N : Nat) : Option Tmp → Bool
  | some d => Nat.blt d N
  | none => true

theorem Ok.put {N : Nat} {a : Act} (h : Ok N a) (d : Option Tmp) (v : Value) : Ok N (a.put d v) := by
  cases d with
  | none => exact h
  | some d => exact ⟨by simpa [Act.put] using h.1, h.2⟩

theorem envOf_put {N : Nat} {a : Act} (h : Ok N a) {d : Option Tmp} (hd : dok N d = true) (v : Value) : envOf (a.put d v) = upd (envOf a) d v := by
  cases d with
  | none => rfl
  | some d =>
    have hlt : d < a.tmps.size := by
      rw [h.1]; have h' : Nat.ble (d + 1) N = true := hd
      exact Nat.le_of_ble_eq_true h'
    funext t
    simp only [envOf, Act.put, upd, Array.getD_eq_getD_getElem?, Array.getElem?_setIfInBounds]
    by_cases e : t = d
    · subst e; simp [hlt]
    · simp [e, Ne.symm e]

abbrev Ends := Exit → Env → World → Prop

section code
variable {P : Program} {N : Nat} {l : Kn} {w : World} {Q : Ends}

end code
end Lp
