/-
  Ways that meet again, with ghosts; functions as values.
-/
import Derived.Test.YtjhkajkickngmaaDI
set_option linter.unusedVariables false
namespace Lp
open Go Go.RowKit
section
variable {P : Program} {N : Nat} {C : Ctx} {c : Code} {K : Kd} {H : List Hp} {Q : DEnds}
end
/-- as Mv, and what all could read they still can -/
structure Mvk (K : Kd) (H : List Hp) (K' : Kd) (H' : List Hp) : Prop where
  out : ∀ C w F ρ, KOk w F ρ K → Good C H w F → ∃ F', KOk w F' ρ K' ∧ Good C H' w F' ∧ Keep w F w F'
theorem frz_good {C : Ctx} {w : World} {F : Nat → Prop} {L H1 H1' : List Hp} (hh : HL L H1 H1') (g : Good C (L ++ H1) w F) : Good C H1' w (fun b => F b ∨ blks L b) := by
  have hap := List.pairwise_append.1 g.h.apart
  have hokL : ∀ h ∈ L, h.ok w F := fun h hh => g.h.ok h (List.mem_append_left _ hh)
  refine { g with fsub := fun b hb => .inl (g.fsub b hb), fnew := ?_, flt := ?_, h := ⟨pairwise_blk hh.blk hap.2.1, hh.out g.flt hokL (fun h hm => g.h.ok h (List.mem_append_right _ hm)), fun b hb => ?_⟩ }
  · rintro b (h | ⟨x, hx, e⟩)
    · exact g.fnew b h
    · exact .inr (g.h.mine b ⟨x, List.mem_append_left _ hx, e⟩).1
  · rintro b (h | ⟨x, hx, e⟩)
    · exact g.flt b h
    · exact Hp.lt (hokL x hx) e
  · obtain ⟨x, hx, e⟩ := blks_eq hh.blk hb
    have hm := g.h.mine b ⟨x, List.mem_append_right _ hx, e⟩
    refine ⟨hm.1, ?_⟩
    rintro (h | ⟨y, hy, e'⟩)
    · exact hm.2 h
    · exact hap.2.2 y hy x hx b e' e
theorem Mvk.freeze {K : Kd} (L : List Hp) {K' : Kd} {H1 H1' : List Hp} (hs : SubL L K' K) (hh : HL L H1 H1') : Mvk K (L ++ H1) K' H1' := ⟨fun C w F ρ hk g => by
  have hokL : ∀ h ∈ L, h.ok w F := fun h hh => g.h.ok h (List.mem_append_left _ hh)
  exact ⟨fun b => F b ∨ blks L b, hs.out g.flt hokL hk, frz_good hh g, ⟨fun _ h => .inl h, fun _ _ _ => rfl⟩⟩⟩
theorem Ef.mv {P : Program} {op : Op} {ty : TypeId} {K K' : Kd} {H H' : List Hp} {R : D → List Hp → Prop} (m : Mvk K H K' H') (h : Ef P op ty K' H' R) : Ef P op ty K H R := ⟨fun C ρ w F hk g => by
  obtain ⟨F1, hk1, g1, k1⟩ := m.out C w F ρ hk g
  exact (h.out C ρ w F1 hk1 g1).mono fun u w' ⟨F', d, H1, h1, h2, h3, h4⟩ => ⟨F', d, H1, h1, h2, h3, ⟨fun b hb => h4.sub b (k1.sub b hb), fun b hb hl => h4.same b (k1.sub b hb) hl⟩⟩⟩
theorem HL.rfl' (L : List Hp) : ∀ H : List Hp, HL L H H
  | [] => .nil
  | _ :: r => .same (HL.rfl' L r)
section
variable {P : Program} {ty : TypeId} {K : Kd} {H : List Hp}
end
end Lp
