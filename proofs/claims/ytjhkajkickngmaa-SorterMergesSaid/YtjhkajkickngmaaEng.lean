/-
  THE ENGINE: a judgement over the model's code in which the frame is known slot by slot, and code is named by its path.
  Plain definitions and theorems, over any program.
-/
import Derived.WalkKit
namespace Lp
open Go Go.RowKit

abbrev Env := Nat → Value
abbrev Kn := List (Nat × Value)

def ev (ρ : Env) : Operand → Value
  | .tmp t => ρ t
  | .const v => v
  | .global g => .pointer (some ⟨g, 0, none⟩)
  | .func f => .func (.func f) #[] #[]

def envOf (a : Act) : Env := fun t => a.tmps.getD t undef

theorem eval_env (a : Act) : a.eval = ev (envOf a) := by funext x; cases x <;> rfl

theorem nbeq_ne {t d : Nat} (e : ¬ t = d) : Nat.beq t d = false := by
  cases h : Nat.beq t d with
  | false => rfl
  | true => exact absurd (Nat.eq_of_beq_eq_true h) e

def look : Kn → Nat → Option Value
  | [], _ => none
  | (d, v) :: r, t => bif Nat.beq t d then some v else look r t

def Knows (ρ : Env) (l : Kn) : Prop := ∀ t v, look l t = some v → ρ t = v

def opv (l : Kn) : Operand → Option Value
  | .tmp t => look l t
  | .const v => some v
  | .global g => some (.pointer (some ⟨g, 0, none⟩))
  | .func f => some (.func (.func f) #[] #[])

theorem Knows.op {ρ : Env} {l : Kn} (h : Knows ρ l) {x : Operand} {v : Value} (hx : opv l x = some v) : ev ρ x = v := by
  cases x with
  | tmp t => exact h t v hx
  | const c => simpa [opv, ev] using hx
  | global g => simpa [opv, ev] using hx
  | func f => simpa [opv, ev] using hx

def upd (ρ : Env) : Option Tmp → Value → Env
  | some d, v => fun t => if t = d then v else ρ t
  | none, _ => ρ

def upl (l : Kn) : Option Tmp → Value → Kn
  | some d, v => (d, v) :: l
  | none, _ => l

theorem Knows.upd {ρ : Env} {l : Kn} (h : Knows ρ l) (d : Option Tmp) (v : Value) : Knows (upd ρ d v) (upl l d v) := by
  cases d with
  | none => exact h
  | some d =>
    intro t u hu
    simp only [upl, look] at hu
    by_cases e : t = d
    · subst e
      rw [show Nat.beq t t = true from Nat.beq_refl t] at hu
      simp only [cond_true, Option.some.injEq] at hu
      simp [Lp.upd, hu]
    · rw [nbeq_ne e] at hu
      simp only [cond_false] at hu
      simpa [Lp.upd, e] using h t u hu

/-- What is known of one list is known of another. -/
def Sub : Kn → Kn → Prop
  | [], _ => True
  | (t, v) :: r, l => look l t = some v ∧ Sub r l

theorem Knows.sub {ρ : Env} {l l' : Kn} (h : Knows ρ l) (hs : Sub l' l) : Knows ρ l' := by
  induction l' with
  | nil => intro t v hv; simp [look] at hv
  | cons x r ih =>
    obtain ⟨d, u⟩ := x
    obtain ⟨h1, h2⟩ := hs
    intro t v hv
    simp only [look] at hv
    by_cases e : t = d
    · subst e
      rw [show Nat.beq t t = true from Nat.beq_refl t] at hv
      simp only [cond_true, Option.some.injEq] at hv
      subst hv
      exact h t u h1
    · rw [nbeq_ne e] at hv
      simp only [cond_false] at hv
      exact ih h2 t v hv

def Ok (N : Nat) (a : Act) : Prop := a.tmps.size = N ∧ a.defers = []

def dok (N : Nat) : Option Tmp → Bool
  | some d => Nat.blt d N
  | none => true

theorem Ok.put {N : Nat} {a : Act} (h : Ok N a) (d : Option Tmp) (v : Value) : Ok N (a.put d v) := by
  cases d with
  | none => exact h
  | some d => exact ⟨by simpa [Act.put] using h.1, h.2⟩

theorem envOf_put {N : Nat} {a : Act} (h : Ok N a) {d : Option Tmp} (hd : dok N d = true) (v : Value) : envOf (a.put d v) = upd (envOf a) d v := by
  cases d with
  | none => rfl
  | some d =>
    have hlt : d < a.tmps.size := by
      rw [h.1]; have h' : Nat.ble (d + 1) N = true := hd
      exact Nat.le_of_ble_eq_true h'
    funext t
    simp only [envOf, Act.put, upd, Array.getD_eq_getD_getElem?, Array.getElem?_setIfInBounds]
    by_cases e : t = d
    · subst e; simp [hlt]
    · simp [e, Ne.symm e]

abbrev Ends := Exit → Env → World → Prop

structure J (P : Program) (N : Nat) (c : Code) (l : Kn) (w : World) (Q : Ends) : Prop where
  out : ∀ a, Ok N a → Knows (envOf a) l → c.wp P (fun e a' w' => Ok N a' ∧ Q e (envOf a') w') a w

def Post (Q : Ends) (e : Exit) (l : Kn) (w : World) : Prop := ∀ ρ, Knows ρ l → Q e ρ w

theorem Post.sub {Q : Ends} {e : Exit} {l : Kn} {w : World} (l' : Kn) (hs : Sub l' l) (h : Post Q e l' w) : Post Q e l w := fun ρ hk => h ρ (hk.sub hs)

section code
variable {P : Program} {N : Nat} {l : Kn} {w : World} {Q : Ends}

theorem J.sub (l' : Kn) {c : Code} (hs : Sub l' l) (h : J P N c l' w Q) : J P N c l w Q := ⟨fun a ok hk => h.out a ok (hk.sub hs)⟩

def seqQ (P : Program) (N : Nat) (b : Code) (Q : Ends) : Ends
  | .normal, ρ, w => ∀ a, Ok N a → envOf a = ρ → b.wp P (fun e a' w' => Ok N a' ∧ Q e (envOf a') w') a w
  | e, ρ, w => Q e ρ w

theorem j_seq {a b : Code} (h : J P N a l w (seqQ P N b Q)) : J P N (.seq a b) l w Q := by
  refine ⟨fun a0 hok hk => ?_⟩
  refine wp_seq (wp_mono (h.out a0 hok hk) ?_)
  rintro e a' w' ⟨ok, hq⟩
  cases e with
  | normal => exact hq a' ok rfl
  | exit id => exact ⟨ok, hq⟩
  | goto k => exact ⟨ok, hq⟩
  | ret => exact ⟨ok, hq⟩
  | panic ch => exact ⟨ok, hq⟩
  | outgrown => exact ⟨ok, hq⟩

theorem post_seq {b : Code} (h : J P N b l w Q) : Post (seqQ P N b Q) .normal l w := fun _ρ hk a ok he => h.out a ok (he ▸ hk)
theorem post_seq_ret {b : Code} (h : Post Q .ret l w) : Post (seqQ P N b Q) .ret l w := h
theorem post_seq_exit {b : Code} {id : Nat} (h : Post Q (.exit id) l w) : Post (seqQ P N b Q) (.exit id) l w := h
theorem post_seq_goto {b : Code} {id : Nat} (h : Post Q (.goto id) l w) : Post (seqQ P N b Q) (.goto id) l w := h

theorem j_skip (h : Post Q .normal l w) : J P N .skip l w Q := ⟨fun _ ok hk => wp_skip ⟨ok, h _ hk⟩⟩
theorem j_label {k : Nat} (h : Post Q .normal l w) : J P N (.label k) l w Q := ⟨fun _ ok hk => wp_label ⟨ok, h _ hk⟩⟩
theorem j_exit {id : Nat} (h : Post Q (.exit id) l w) : J P N (.exit id) l w Q := ⟨fun _ ok hk => wp_exit ⟨ok, h _ hk⟩⟩
theorem j_ret (h : Post Q .ret l w) : J P N .ret l w Q := ⟨fun _ ok hk => wp_ret ⟨ok, h _ hk⟩⟩

theorem j_cond {c : Operand} {x y : Code} {t : Bool} (hc : opv l c = some (.bool t)) (ht : t = true → J P N x l w Q) (hf : t = false → J P N y l w Q) : J P N (.cond c x y) l w Q := by
  refine ⟨fun a ok hk => ?_⟩
  refine wp_cond_split (t := t) ?_ (fun e => (ht e).out a ok hk) (fun e => (hf e).out a ok hk)
  rw [eval_env]; exact hk.op hc

def blockQ (id : Nat) (Q : Ends) : Ends
  | .exit id', ρ, w => if id' = id then Q .normal ρ w else Q (.exit id') ρ w
  | e, ρ, w => Q e ρ w

theorem j_block {id : Nat} {c : Code} (h : J P N c l w (blockQ id Q)) : J P N (.block id c) l w Q := by
  refine ⟨fun a ok hk => ?_⟩
  refine wp_block (wp_mono (h.out a ok hk) ?_)
  rintro e a' w' ⟨ok', hq⟩
  cases e with
  | exit id' =>
    simp only [Exit.inBlock, blockQ] at hq ⊢
    split
    · rename_i e; rw [if_pos e] at hq; exact ⟨ok', hq⟩
    · rename_i e; rw [if_neg e] at hq; exact ⟨ok', hq⟩
  | normal => exact ⟨ok', hq⟩
  | goto k => exact ⟨ok', hq⟩
  | ret => exact ⟨ok', hq⟩
  | panic ch => exact ⟨ok', hq⟩
  | outgrown => exact ⟨ok', hq⟩

theorem post_block {id : Nat} (h : Post Q .normal l w) : Post (blockQ id Q) .normal l w := h
theorem post_block_ret {id : Nat} (h : Post Q .ret l w) : Post (blockQ id Q) .ret l w := h
theorem post_block_goto {id k : Nat} (h : Post Q (.goto k) l w) : Post (blockQ id Q) (.goto k) l w := h
theorem post_block_exit {id : Nat} (h : Post Q .normal l w) : Post (blockQ id Q) (.exit id) l w := fun ρ hk => by
  show (if id = id then _ else _); rw [if_pos rfl]; exact h ρ hk
theorem post_block_exit_far {id id' : Nat} (hne : Nat.beq id' id = false) (h : Post Q (.exit id') l w) : Post (blockQ id Q) (.exit id') l w := fun ρ hk => by
  show (if id' = id then _ else _); rw [if_neg (by intro e; rw [e, Nat.beq_refl] at hne; cases hne)]; exact h ρ hk

def loopQ {G : Type} (L : G → Kn) (I : G → World → Prop) (μ : G → Nat) (g : G) (Q : Ends) : Ends
  | .normal, ρ, w => ∃ g', Knows ρ (L g') ∧ I g' w ∧ μ g' < μ g
  | e, ρ, w => Q e ρ w

theorem post_loop {G : Type} {L : G → Kn} {I : G → World → Prop} {μ : G → Nat} {g : G} (g' : G) (hs : Sub (L g') l) (hI : I g' w) (hμ : μ g' < μ g) : Post (loopQ L I μ g Q) .normal l w :=
  fun _ hk => ⟨g', hk.sub hs, hI, hμ⟩
theorem post_loop_ret {G : Type} {L : G → Kn} {I : G → World → Prop} {μ : G → Nat} {g : G} (h : Post Q .ret l w) : Post (loopQ L I μ g Q) .ret l w := h
theorem post_loop_exit {G : Type} {L : G → Kn} {I : G → World → Prop} {μ : G → Nat} {g : G} {id : Nat} (h : Post Q (.exit id) l w) : Post (loopQ L I μ g Q) (.exit id) l w := h
theorem post_loop_goto {G : Type} {L : G → Kn} {I : G → World → Prop} {μ : G → Nat} {g : G} {id : Nat} (h : Post Q (.goto id) l w) : Post (loopQ L I μ g Q) (.goto id) l w := h

theorem j_loop {G : Type} (L : G → Kn) (I : G → World → Prop) (μ : G → Nat) {c : Code} (g : G) (hs : Sub (L g) l) (hI : I g w)
    (h : ∀ g w, I g w → J P N c (L g) w (loopQ L I μ g Q)) : J P N (.loop c) l w Q := by
  refine ⟨fun a ok hk => ?_⟩
  have key : ∀ n, ∀ a w, Ok N a → (∃ g, Knows (envOf a) (L g) ∧ I g w ∧ μ g = n) → ∀ (b : Frame) (k : List Item) (cs : List Frame),
      ∃ e a' w', (Ok N a' ∧ Q e (envOf a') w') ∧ Arrives P (lone (b.at a (.code c :: .inLoop c :: k)) cs w) b k cs e a' w' := by
    intro n
    induction n using Nat.strongRecOn with
    | _ n ih =>
      rintro a w ok ⟨g, hk, hI, hμ⟩ b k cs
      obtain ⟨e, a1, w1, hq, harr⟩ := (h g w hI).out a ok hk b (.inLoop c :: k) cs
      cases e with
      | normal =>
        obtain ⟨ok1, g', hk', hI', hlt⟩ := hq
        obtain ⟨e2, a2, w2, hq2, harr2⟩ := ih (μ g') (hμ ▸ hlt) a1 w1 ok1 ⟨g', hk', hI', rfl⟩ b k cs
        exact ⟨e2, a2, w2, hq2, .of_steps (Steps.trans harr (.one step_inLoop)) harr2⟩
      | exit id => exact ⟨_, a1, w1, hq, .pass (x := .inLoop c) rfl (fun _ _ => .inl (by simp)) harr⟩
      | goto l => exact ⟨_, a1, w1, hq, .pass (x := .inLoop c) rfl (fun _ _ => .inl (by simp)) harr⟩
      | ret => exact ⟨_, a1, w1, hq, .pass (x := .inLoop c) rfl (fun _ _ => .inl (by simp)) harr⟩
      | panic ch => exact ⟨_, a1, w1, hq, .pass (x := .inLoop c) rfl (fun _ _ => .inl (by simp)) harr⟩
      | outgrown => exact ⟨_, a1, w1, hq, .pass (x := .inLoop c) rfl (fun _ _ => .inl (by simp)) harr⟩
  intro b k cs
  obtain ⟨e, a', w', hq, harr⟩ := key (μ g) a w ok ⟨g, hk.sub hs, hI, rfl⟩ b k cs
  exact ⟨e, a', w', hq, .of_steps (.one step_loop) harr⟩

end code
end Lp
