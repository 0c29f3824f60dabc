/-
  Slices with room behind them in which what stands is known.
-/
import Derived.Test.YtjhkajkickngmaaDL
set_option linter.unusedVariables false
namespace Lp
open Go Go.RowKit
theorem rep_shr {w : World} {F : Nat → Prop} {z n : Nat} {xs : List D} {a : Value} (h : D.rep w F (.shr z n xs) a) : ∃ A c, a = .slice A n c ∧ n ≤ xs.length ∧ D.rep w F (.sh z xs) (.slice A xs.length c) ∧ xs.length ≤ c := by
  obtain ⟨A, c, e, h0, h1, h2, h3⟩ := h
  exact ⟨A, c, e, h0, ⟨A, c, rfl, h1, h2, h3⟩, h1⟩
theorem shr_rep {w : World} {F : Nat → Prop} {z n : Nat} {xs : List D} {A : Option Addr} {c : Nat} (h0 : n ≤ xs.length) (h : D.rep w F (.sh z xs) (.slice A xs.length c)) : D.rep w F (.shr z n xs) (.slice A n c) := by
  obtain ⟨A', c', e, h1, h2, h3⟩ := h
  injection e with e1 _ e2
  subst e1; subst e2
  exact ⟨A, c, rfl, h0, h1, h2, h3⟩
theorem rep_take {w : World} {F : Nat → Prop} {z n : Nat} {xs : List D} {A : Option Addr} {c : Nat} (hF : ∀ b, F b → b < w.heap.size) (h0 : n ≤ xs.length) (h : D.rep w F (.sh z xs) (.slice A xs.length c)) : D.rep w F (.sh z (xs.take n)) (.slice A n c) := by
  have hl : (xs.take n).length = n := by rw [List.length_take]; omega
  obtain ⟨us, hr, hsl, hblk, hmx⟩ := D.rep_sl hF h
  have hul := hr.len
  cases xs with
  | nil =>
    have : n = 0 := by simpa using h0
    subst this
    exact ⟨A, c, rfl, Nat.zero_le _, Nat.zero_le _, fun e => absurd rfl e⟩
  | cons x r =>
    obtain ⟨b', o', c', hv', hF'⟩ := hblk (by simp)
    injection hv' with e1 _ e2
    subst e1; subst e2
    have h2 := hsl.cut 0 n (Nat.zero_le _) (by omega)
    rw [cut0 (.inr ⟨_, _, rfl⟩), List.drop_zero] at h2
    have := D.sl_rep (hr.take n) h2 (fun _ g hg => by cases hg; exact hF') (by rw [List.length_take]; omega)
    exact this
theorem slice_of_sh {w : World} {F : Nat → Prop} {z : Nat} {xs : List D} {a : Value} (h : D.rep w F (.sh z xs) a) : ∃ A c, a = .slice A xs.length c ∧ xs.length ≤ c ∧ (xs ≠ [] → ∃ b o, A = some ⟨b, o, none⟩) := by
  obtain ⟨A, c, e, h1, _, h3⟩ := h
  exact ⟨A, c, e, h1, fun hn => by obtain ⟨b, o, e, _⟩ := h3 hn; exact ⟨b, o, e⟩⟩
/-- an argument with room behind it, read as what it is -/
theorem ArgC.shr {L : List Hp} {z n : Nat} {xs : List D} : ArgC L (.shr z n xs) (.sh z (xs.take n)) := ⟨fun w F u hF hL hr => by
  obtain ⟨A, c, rfl, h0, h, _⟩ := rep_shr hr
  exact D.keep (Keep.wide _) _ _ (rep_take hF h0 h)⟩
theorem ArgC.cutr {L : List Hp} {z j n : Nat} {v : Value} {T : TypeId} {ys : List D} (hm : nth L j = some (.sl v z T ys)) (hn : n ≤ ys.length) (h0 : ys ≠ []) : ArgC L (.v (Lp.cut z v 0 n)) (.shr z n ys) := ⟨fun w F u hF hL hr => by
  have e : u = _ := hr
  subst e
  have ho : D.rep w F (.ov v) v := ⟨rfl, by obtain ⟨us, _, ho⟩ := hL _ (nth_mem hm); exact ho.one⟩
  have h := (ArgC.own hm (d := .ov v) rfl).out w F v hF hL ho
  obtain ⟨A, c, e, hc, hA⟩ := slice_of_sh h
  obtain ⟨b, o, eA⟩ := hA h0
  rw [e] at h ⊢
  rw [cut0 (.inr ⟨b, o, eA⟩)]
  exact shr_rep hn h⟩
section
variable {P : Program} {ty : TypeId} {K : Kd} {H : List Hp}
theorem p_len_shr {t e : TypeId} {x : Operand} {z n : Nat} {xs : List D} (hx : opD K x = some (.shr z n xs)) (ht : ∀ w, (underlying t).run P w = .ok (.slice e) w) : Pu P (.call { callee := .builtin .len, args := #[x], argTypes := #[t] }) ty K H (.v (.int .i64 (n : Int))) :=
  ⟨fun ρ w F hk _ hH => by
    obtain ⟨A, c, e, _⟩ := rep_shr (hk.op hx)
    exact e_len (n := n) (knows_lkO ρ [x]) (opv1 ρ rfl) ht ⟨A, c, e⟩ ⟨rfl, rfl⟩⟩
/-- with the room behind it -/
theorem p_slice_shr {t e : TypeId} {z n b : Nat} {x : Operand} {hi : Option Operand} {xs : List D} {rh : Option Int} (hx : opD K x = some (.shr z n xs)) (hhi : bndD K hi = some rh) (hb : Bnd rh n b)
    (ht : ∀ w, (underlying t).run P w = .ok (.slice e) w) (hs : ∀ w, (Go.sizeOf e).run P w = .ok z w) (hbn : b ≤ xs.length) (h0 : xs ≠ []) : Pu P (.slice t x none hi none) ty K H (.sh z (xs.take b)) :=
  ⟨fun ρ w F hk hF hH => by
    obtain ⟨A, c, e, hn, h, hc⟩ := rep_shr (hk.op hx)
    obtain ⟨A', c', e', _, hA⟩ := slice_of_sh h
    injection e' with e1 _ e2
    subst e1; subst e2
    obtain ⟨b', o', eA⟩ := hA h0
    refine e_slice (n := n) (a := 0) (b := b) (z := z) (knows_lkO ρ [x]) (opv1 ρ rfl) rfl rfl (.inl ⟨rfl, rfl⟩) (hb.out (bndD_rep hk hhi)) ht hs ⟨A, c, e, by omega⟩ (Nat.zero_le _) ⟨rfl, ?_⟩
    rw [e, cut0 (.inr ⟨b', o', eA⟩)]
    exact rep_take hF hbn h⟩
end
/-- lists that are read otherwise, each -/
theorem CvL.map {α : Type} {f g : α → D} (h : ∀ x, Cv (f x) (g x)) : ∀ l : List α, CvL (l.map f) (l.map g)
  | [] => .nil
  | x :: r => .cons (h x) (CvL.map h r)
theorem ArgC.lent {L : List Hp} {α : Type} {f : α → D} {z : Nat} {l : List α} {x : α} : ArgC L (.shr z l.length ((l ++ [x]).map f)) (.sh z (l.map f)) := by
  have := ArgC.shr (L := L) (z := z) (n := l.length) (xs := (l ++ [x]).map f)
  rwa [← List.map_take, List.take_left] at this
theorem lent_all {α : Type} {f : α → D} {z : Nat} {l : List α} {x : α} : D.sh z (((l ++ [x]).map f).take (l.length + 1)) = .sh z ((l ++ [x]).map f) := by
  rw [List.take_of_length_le]; simp
theorem set_same {α : Type} {l : List α} {i : Nat} {x : α} (h : l[i]? = some x) : l.set i x = l := by
  obtain ⟨hi, e⟩ := List.getElem?_eq_some_iff.1 h
  rw [← e]; exact List.set_getElem_self hi
end Lp
