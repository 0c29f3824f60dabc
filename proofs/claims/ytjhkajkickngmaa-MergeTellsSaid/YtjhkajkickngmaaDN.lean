/-
  Lists that are kept: rows of the call's own, any number of them.
-/
import Derived.Test.YtjhkajkickngmaaPSort2
set_option linter.unusedVariables false
namespace Lp
open Go Go.RowKit
variable {P : Program} {ty : TypeId} {K : Kd} {H : List Hp}

structure Kp (α : Type) where
  v : Value
  l : List α
/-- a list that has grown: v0 is what it was, of m elements -/
structure K2 (α : Type) where
  v0 : Value
  v : Value
  m : Nat
  l : List α
abbrev Kp.d {α : Type} (p : Kp α) : D := .ov p.v
abbrev Kp.h {α : Type} (z : Nat) (T : TypeId) (f : α → D) (p : Kp α) : Hp := .sl p.v z T (p.l.map f)
abbrev K2.d0 {α : Type} (p : K2 α) : D := .ov p.v0
abbrev K2.d1 {α : Type} (p : K2 α) : D := .ov p.v
abbrev K2.h {α : Type} (z : Nat) (T : TypeId) (f : α → D) (p : K2 α) : Hp := .sl2 p.v0 p.v z T p.m (p.l.map f)
theorem kp_out {α β : Type} {A : List Hp} {h : α → Hp} {g : β → Hp} {P : List β} {K R : List α} {x : α} (e : K = x :: R) : HSub (A ++ (P.map g ++ K.map h)) (h x :: A ++ (P.map g ++ R.map h)) := by
  subst e
  refine HSub.perm ?_
  rw [List.map_cons, ← List.append_assoc, ← List.append_assoc]
  exact List.perm_middle
theorem kp_in {α β : Type} {A : List Hp} {h : α → Hp} {g : β → Hp} {P : List β} {R : List α} {y : β} : HSub (g y :: A ++ (P.map g ++ R.map h)) (A ++ ((P ++ [y]).map g ++ R.map h)) := by
  refine HSub.perm ?_
  rw [List.map_append, List.map_cons, List.map_nil, List.append_assoc, List.singleton_append, ← List.append_assoc, ← List.append_assoc]
  exact List.perm_middle.symm
theorem kp_end {α β : Type} {h : α → Hp} {g : β → Hp} {P Q : List β} {R : List α} {A : List Hp} (e : R = []) (e2 : P = Q) : A ++ (P.map g ++ R.map h) = A ++ Q.map g := by subst e; subst e2; simp
theorem kp_in2 {α β : Type} {A : List Hp} {h : α → Hp} {g : β → Hp} {P : List β} {R : List α} {y : α} : HSub (h y :: A ++ (P.map g ++ R.map h)) (A ++ (P.map g ++ (R ++ [y]).map h)) := by
  refine HSub.perm ?_
  rw [List.map_append, List.map_cons, List.map_nil, ← List.append_assoc, ← List.append_assoc, ← List.append_assoc]
  exact (List.perm_append_comm (l₁ := [h y]) (l₂ := A ++ P.map g ++ R.map h)).trans (List.Perm.refl _)
theorem ArgC.shs {L : List Hp} {z : Nat} {xs xs' : List D} (h : ArgCs L xs xs') : ArgC L (.sh z xs) (.sh z xs') := ⟨fun w F u hF hL hr => by
  obtain ⟨us, h1, h2, h3, h4⟩ := D.rep_sl hF hr
  refine D.sl_rep (h.repE hF hL h1) h2 (fun hn g hg => ?_) (by have := h1.len; omega)
  have hx : xs ≠ [] := by rintro rfl; cases h; exact hn rfl
  obtain ⟨b, o, c, rfl, hb⟩ := h3 hx
  simp only [Value.ownBlock] at hg
  injection hg with hg
  rw [← hg]; exact .inl hb⟩
theorem perm_tt {A B T U : List Hp} : ((A ++ B) ++ (T ++ U)).Perm ((A ++ T) ++ (B ++ U)) := by
  rw [List.append_assoc, List.append_assoc]
  refine List.Perm.append_left A ?_
  rw [← List.append_assoc, ← List.append_assoc]
  exact List.perm_append_comm.append_right U
theorem perm_sw {A T U : List Hp} : (A ++ (T ++ U)).Perm (A ++ (U ++ T)) := List.perm_append_comm.append_left A
theorem put_next {α : Type} {m l : List α} {k : Nat} {y : α} (hm : m[k]? = some y) (hl : l.length = m.length) : (m.take k ++ l.drop k).set k y = m.take (k + 1) ++ l.drop (k + 1) := by
  have hk := get_lt hm
  rw [List.set_append_right _ _ (by rw [List.length_take]; omega), List.length_take, Nat.min_eq_left (by omega), Nat.sub_self, List.drop_eq_getElem_cons (by omega), List.set_cons_zero, take_snoc hm, List.append_assoc]
  rfl
theorem p_len_own2 {t e : TypeId} {x : Operand} {z n m j : Nat} {v0 v : Value} {T : TypeId} {xs : List D} (hx : opO K x = some v) (hm : nth H j = some (.sl2 v0 v z T m xs)) (ht : ∀ w, (underlying t).run P w = .ok (.slice e) w) (hn : xs.length = n) : Pu P (.call { callee := .builtin .len, args := #[x], argTypes := #[t] }) ty K H (.v (.int .i64 (n : Int))) :=
  ⟨fun ρ w F hk _ hH => by
    obtain ⟨us, hr, ho, _⟩ := hH _ (nth_mem hm)
    exact e_len (n := n) (knows_lkO ρ [x]) (opv1 ρ (hk.opO hx)) ht (by have := ho.len; rw [hr.len, hn] at this; exact this) ⟨rfl, rfl⟩⟩
theorem p_len_own0 {t e : TypeId} {x : Operand} {z n m j : Nat} {v0 v : Value} {T : TypeId} {xs : List D} (hx : opO K x = some v0) (hm : nth H j = some (.sl2 v0 v z T m xs)) (ht : ∀ w, (underlying t).run P w = .ok (.slice e) w) (hn : (xs.take m).length = n) : Pu P (.call { callee := .builtin .len, args := #[x], argTypes := #[t] }) ty K H (.v (.int .i64 (n : Int))) :=
  ⟨fun ρ w F hk _ hH => by
    obtain ⟨us, hr, _, ho, _⟩ := hH _ (nth_mem hm)
    exact e_len (n := n) (knows_lkO ρ [x]) (opv1 ρ (hk.opO hx)) ht (by have := ho.len; rw [List.length_take, hr.len, ← List.length_take, hn] at this; exact this) ⟨rfl, rfl⟩⟩
end Lp
