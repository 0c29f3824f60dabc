/-
  What comes of a sort, whatever the arguments.
-/
import Derived.Test.YtoanlikkhjohpaaGreatV28R
set_option linter.unusedVariables false
namespace Lp
open Go
theorem sortE_ok {room fan : Int} {l : List RowD} (h : zaa room fan l = 0) : 2 ≤ fan ∧ fan ≤ 20 ∧ 0 ≤ room ∧ room ≤ 1000000 ∧ fan * maxC l ≤ room := by
  unfold zaa at h
  by_cases h1 : fan < 2 ∨ 20 < fan ∨ room < 0 ∨ 1000000 < room ∨ (2000 : Int) < ((l.length : Nat) : Int)
  · rw [if_pos h1] at h; exact absurd h (by decide)
  · rw [if_neg h1] at h
    by_cases h2 : room < fan * maxC l
    · rw [if_pos h2] at h; exact absurd h (by decide)
    · omega
theorem sortL_all {o room fan : Int} {l : List RowD} (hL : z9 l) : (zB o room fan l).length ≤ l.length ∧ ∀ r ∈ zB o room fan l, zbd r.ls = true := by
  by_cases h : zaa room fan l = 0
  · obtain ⟨h1, h2, h3, h4, h5⟩ := sortE_ok h
    obtain ⟨fn, hfn⟩ : ∃ fn : Nat, fan = (fn : Int) := ⟨fan.toNat, by omega⟩
    rw [(za8 (o := o) h hfn).1]
    have m := zdO (o := o) h3 h4 hL
    have s := sorted0 (o := o) (fan := fn) h3 h4 (by omega) hL
    have z : (zac (zak room).runs).length = 0 := rfl
    have s3 := s.len; have m4 := m.len
    refine ⟨by omega, fun r hr => ?_⟩
    obtain ⟨x, hx, hrx⟩ := List.mem_flatten.1 hr
    obtain ⟨y, hy, e⟩ := List.mem_map.1 hx
    exact (s.runs.li y hy).1 r (by rw [e]; exact hrx)
  · rw [(zbk (o := o) h).1]; exact ⟨Nat.zero_le _, fun r hr => by cases hr⟩
end Lp
