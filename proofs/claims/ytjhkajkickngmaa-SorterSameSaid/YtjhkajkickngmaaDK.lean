/-
  Ways that meet again, with ghosts; functions as values.
-/
import Derived.Test.YtjhkajkickngmaaDI
set_option linter.unusedVariables false
namespace Lp
open Go Go.RowKit
section
variable {P : Program} {N : Nat} {C : Ctx} {c : Code} {K : Kd} {H : List Hp} {Q : DEnds}
/-- A piece of code whose ways meet again, each with ghosts of its own. -/
theorem jd_join {G : Type} (L : G → Kd) (HI : G → List Hp) (I : G → Prop) (h : ∀ Q' : DEnds, (∀ g, I g → PD C Q' .normal (L g) (HI g)) → JD P N C c K H Q') (next : ∀ g, I g → PD C Q .normal (L g) (HI g)) : JD P N C c K H Q := h Q next
end
/-- as Mv, and what all could read they still can -/
structure Mvk (K : Kd) (H : List Hp) (K' : Kd) (H' : List Hp) : Prop where
  out : ∀ C w F ρ, KOk w F ρ K → Good C H w F → ∃ F', KOk w F' ρ K' ∧ Good C H' w F' ∧ Keep w F w F'
theorem frz_good {C : Ctx} {w : World} {F : Nat → Prop} {L H1 H1' : List Hp} (hh : HL L H1 H1') (g : Good C (L ++ H1) w F) : Good C H1' w (fun b => F b ∨ blks L b) := by
  have hap := List.pairwise_append.1 g.h.apart
  have hokL : ∀ h ∈ L, h.ok w F := fun h hh => g.h.ok h (List.mem_append_left _ hh)
  refine { g with fsub := fun b hb => .inl (g.fsub b hb), fnew := ?_, flt := ?_, h := ⟨pairwise_blk hh.blk hap.2.1, hh.out g.flt hokL (fun h hm => g.h.ok h (List.mem_append_right _ hm)), fun b hb => ?_⟩ }
  · rintro b (h | ⟨x, hx, e⟩)
    · exact g.fnew b h
    · exact .inr (g.h.mine b ⟨x, List.mem_append_left _ hx, e⟩).1
  · rintro b (h | ⟨x, hx, e⟩)
    · exact g.flt b h
    · exact Hp.lt (hokL x hx) e
  · obtain ⟨x, hx, e⟩ := blks_eq hh.blk hb
    have hm := g.h.mine b ⟨x, List.mem_append_right _ hx, e⟩
    refine ⟨hm.1, ?_⟩
    rintro (h | ⟨y, hy, e'⟩)
    · exact hm.2 h
    · exact hap.2.2 y hy x hx b e' e
theorem Mvk.freeze {K : Kd} (L : List Hp) {K' : Kd} {H1 H1' : List Hp} (hs : SubL L K' K) (hh : HL L H1 H1') : Mvk K (L ++ H1) K' H1' := ⟨fun C w F ρ hk g => by
  have hokL : ∀ h ∈ L, h.ok w F := fun h hh => g.h.ok h (List.mem_append_left _ hh)
  exact ⟨fun b => F b ∨ blks L b, hs.out g.flt hokL hk, frz_good hh g, ⟨fun _ h => .inl h, fun _ _ _ => rfl⟩⟩⟩
theorem Ef.mv {P : Program} {op : Op} {ty : TypeId} {K K' : Kd} {H H' : List Hp} {R : D → List Hp → Prop} (m : Mvk K H K' H') (h : Ef P op ty K' H' R) : Ef P op ty K H R := ⟨fun C ρ w F hk g => by
  obtain ⟨F1, hk1, g1, k1⟩ := m.out C w F ρ hk g
  exact (h.out C ρ w F1 hk1 g1).mono fun u w' ⟨F', d, H1, h1, h2, h3, h4⟩ => ⟨F', d, H1, h1, h2, h3, ⟨fun b hb => h4.sub b (k1.sub b hb), fun b hb hl => h4.same b (k1.sub b hb) hl⟩⟩⟩
theorem HL.rfl' (L : List Hp) : ∀ H : List Hp, HL L H H
  | [] => .nil
  | _ :: r => .same (HL.rfl' L r)
/-- what comes out as a row of the call's own is at once what all may read -/
theorem Ef.fz {P : Program} {op : Op} {ty : TypeId} {K : Kd} {H Hr : List Hp} {R : D → List Hp → Prop} {d : D} (h : Ef P op ty K H R) (hR : ∀ e He, R e He → ∃ L, He = L ++ Hr ∧ ArgC L e d) : Ef P op ty K H (fun e He => e = d ∧ He = Hr) := ⟨fun C ρ w F hk g => (h.out C ρ w F hk g).mono fun u w' ⟨F', e, He, hr, hrep, g', kp⟩ => by
  obtain ⟨L, rfl, hc⟩ := hR e He hr
  have hL : ∀ h ∈ L, h.ok w' F' := fun h hh => g'.h.ok h (List.mem_append_left _ hh)
  have hrep2 := hc.out w' F' u g'.flt hL hrep
  exact ⟨_, d, Hr, ⟨rfl, rfl⟩, hrep2, frz_good (HL.rfl' L Hr) g', ⟨fun b hb => .inl (kp.sub b hb), fun b hb hl => kp.same b hb hl⟩⟩⟩
section
variable {P : Program} {ty : TypeId} {K : Kd} {H : List Hp}
theorem p_makeFunc {f : FuncId} {xs ys : Array Operand} {ds es : List D} (hx : opsD K xs.toList = some ds) (hy : opsD K ys.toList = some es) : Pu P (.makeFunc (.func f) xs ys) ty K H (.fn f ds es) :=
  ⟨fun ρ w F hk _ _ => by
    have h1 := opsD_rep hk hx
    have h2 := opsD_rep hk hy
    refine EOp.of_run (v := .func (.func f) (xs.map (ev ρ)) (ys.map (ev ρ))) (w' := w) ?_ ⟨rfl, xs.toList.map (ev ρ), ys.toList.map (ev ρ), ?_, h1, h2⟩
    · simp [execOp, Instr.makeFunc, Sem.run_pure, mkOper]
    · congr 1 <;> (apply Array.ext'; simp)⟩
end
end Lp
