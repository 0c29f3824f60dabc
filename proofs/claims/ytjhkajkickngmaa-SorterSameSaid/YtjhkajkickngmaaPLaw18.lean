/-
  What is said of the sorter (chapter 18), as plain data.
-/
import Derived.Test.YtjhkajkickngmaaV2
set_option linter.unusedVariables false
namespace Lp
open Go
/-- lists that are in order, merged: the stable sort of all -/
theorem runR_isort {o : Int} {ll : LLs} (h : ∀ l ∈ ll, Sorted o l) : (runR o ll).1 = isort (cmpRow o) ll.flatten := by
  have st := (runR_run o ll).stable h
  exact Stab.eq (cmpRow_cmp o) ⟨st.sorted.to, st.same⟩ (isort_stab (cmpRow_cmp o) _ _ rfl)

/-! ### the first call -/
abbrev al18 : List RowD := [⟨[], 3⟩, ⟨[], 1⟩, ⟨[], 2⟩]
theorem al18_light : LightRs al18 := by unfold LightRs al18; decide
theorem al18_make : mkGo 1 [] al18 (sort0 32) = ⟨[⟨true, [⟨[], 1⟩, ⟨[], 3⟩]⟩, ⟨true, [⟨[], 2⟩]⟩], 2, 0, ⟨32, 0, 32⟩⟩ := by rfl
theorem al18_E : sortE 32 2 al18 = 0 := by decide
theorem al18_S : flatR (sortS 1 32 2 al18).runs = [⟨[], 1⟩, ⟨[], 2⟩, ⟨[], 3⟩] ∧ (sortS 1 32 2 al18).nr = 2 ∧ (sortS 1 32 2 al18).nm = 1 ∧ (sortS 1 32 2 al18).p.high = 32 := by
  have hs := sorted0 (o := 1) (room := 32) (fan := 2) (by omega) (by omega) (by omega) al18_light
  have h1 := hs.p.hr
  have h2 := hs.room
  have h3 := hs.high
  have h4 := hs.nr
  have h5 := hs.nm
  rw [al18_make] at h2 h3 h4 h5
  refine ⟨?_, h4, by rw [h5]; rfl, ?_⟩
  · unfold sortS
    rw [al18_make]
    show flatR (mergeAll 1 2 3 _).runs = _
    rw [mergeAll_next (by decide), mergeAll_end (by rw [mergeS_runs]; decide)]
    show flatR (_ ++ [_]) = _
    rw [flatR_app, flatR_one, runR_isort (by
      intro l hl
      simp [lls] at hl
      rcases hl with rfl | rfl
      · exact (Srt.to (o := 1) (l := [⟨[], 1⟩, ⟨[], 3⟩]) (by unfold Srt; decide))
      · exact (Srt.to (o := 1) (l := [⟨[], 2⟩]) (by unfold Srt; decide)))]
    rfl
  · have e1 : (SortD.p (SortD.mk [⟨true, [⟨[], 1⟩, ⟨[], 3⟩]⟩, ⟨true, [⟨[], 2⟩]⟩] 2 0 ⟨32, 0, 32⟩)).high = 32 := rfl
    have e2 : (SortD.p (SortD.mk [⟨true, [⟨[], 1⟩, ⟨[], 3⟩]⟩, ⟨true, [⟨[], 2⟩]⟩] 2 0 ⟨32, 0, 32⟩)).room = 32 := rfl
    rw [e1] at h3
    rw [e2] at h2
    omega
theorem al18_L : sortL 1 32 2 al18 = [⟨[], 1⟩, ⟨[], 2⟩, ⟨[], 3⟩] := by rw [(sortL_0 (fn := 2) al18_E rfl).1, al18_S.1]
theorem al18_P : sortP 1 32 2 al18 = ⟨2, 1, 32⟩ := by rw [(sortL_0 (fn := 2) al18_E rfl).2, al18_S.2.1, al18_S.2.2.1, al18_S.2.2.2]

/-- what a sort in room enough leaves -/
structure Done18 (o room fan : Int) (l : List RowD) : Prop where
  E : sortE room fan l = 0
  len : (sortL o room fan l).length = l.length
  nr0 : 0 ≤ (sortP o room fan l).nr
  nr1 : (sortP o room fan l).nr ≤ (l.length : Int)
  nr2 : (sortP o room fan l).nr = 0 ↔ l.length = 0
  nm : (sortP o room fan l).nm = if 1 < (sortP o room fan l).nr then ((sortP o room fan l).nr - 1 + fan - 2).tdiv (fan - 1) else 0
  hi : (sortP o room fan l).hi ≤ room
  lo : maxC l ≤ (sortP o room fan l).hi
theorem done18 {o room : Int} {fan : Nat} {l : List RowD} (hl : LightRs l) (hll : l.length ≤ 2000) (h1 : 2 ≤ fan) (h2 : fan ≤ 20) (hr : room ≤ 1000000) (hc : (fan : Int) * maxC l ≤ room) : Done18 o room (fan : Int) l := by
  have hb := maxC_bd hl l.length
  rw [List.take_of_length_le (Nat.le_refl _)] at hb
  have hm0 : 0 ≤ (fan : Int) * maxC l := Int.mul_nonneg (by omega) hb.1
  have hm1 : maxC l ≤ (fan : Int) * maxC l := by
    have : (1 : Int) * maxC l ≤ (fan : Int) * maxC l := Int.mul_le_mul_of_nonneg_right (by omega) hb.1
    omega
  have hE : sortE room (fan : Int) l = 0 := sortE_0 (by omega) (by omega)
  obtain ⟨eL, eP⟩ := sortL_0 (o := o) hE rfl
  have hs := sorted0 (o := o) (room := room) (fan := fan) (by omega) hr h1 hl
  have hm := made0 (o := o) (room := room) (l := l) (by omega) hr hl
  have m1 := hm.nr; have m2 := hm.le2; have m3 := hm.pos; have m4 := hm.len; have m5 := hm.nm; have m6 := hm.room
  have z1 : (sort0 room).runs.length = 0 := rfl
  have z2 : (sort0 room).nr = 0 := rfl
  have z3 : (sort0 room).nm = 0 := rfl
  have z4 : (flatR (sort0 room).runs).length = 0 := rfl
  have z5 : (sort0 room).p.room = room := rfl
  have s1 := hs.nr; have s2 := hs.nm; have s3 := hs.len; have s4 := hs.room; have s5 := hs.high; have s6 := hs.p.hr
  refine ⟨hE, ?_, ?_, ?_, ?_, ?_, ?_, ?_⟩
  · rw [eL]; omega
  · rw [eP]; show 0 ≤ (sortS o room fan l).nr; omega
  · rw [eP]; show (sortS o room fan l).nr ≤ _; omega
  · rw [eP]; show (sortS o room fan l).nr = 0 ↔ _; omega
  · rw [eP]
    show (sortS o room fan l).nm = if 1 < (sortS o room fan l).nr then ((sortS o room fan l).nr - 1 + fan - 2).tdiv (fan - 1) else 0
    have e : (sortS o room fan l).nr = ((mkGo o [] l (sort0 room)).runs.length : Int) := by omega
    rw [e, s2, m5, z3]
    generalize (mkGo o [] l (sort0 room)).runs.length = R
    unfold merges
    by_cases h : 1 < R
    · rw [if_pos h, if_pos (by omega)]
      have e1 : ((R : Int) - 1 + fan - 2) = ((R - 1 + fan - 2 : Nat) : Int) := by omega
      have e2 : ((fan : Int) - 1) = ((fan - 1 : Nat) : Int) := by omega
      rw [e1, e2, Int.zero_add, Int.tdiv_eq_ediv_of_nonneg (by omega)]; rfl
    · rw [if_neg h, if_neg (by omega)]; rfl
  · rw [eP]; show (sortS o room fan l).p.high ≤ room; omega
  · rw [eP]
    show maxC l ≤ (sortS o room fan l).p.high
    by_cases h0 : maxC l = 0
    · have := hs.p.n0; have := hs.p.nh; omega
    · obtain ⟨r, hr1, hr2⟩ := maxC_at h0
      have hg := mkGo_high (o := o) l [] (sort0 room) (sort0_ok (by omega) hr) ⟨fun _ h => (by cases h), fun _ h => (by cases h)⟩ (fun _ h => (by cases h)) hl rfl (fun y hy => by have := maxC_ge hy; show costR y ≤ room; omega) r hr1
      omega
theorem done18' {o room fan : Int} {l : List RowD} (hl : LightRs l) (hll : l.length ≤ 2000) (h1 : 2 ≤ fan) (h2 : fan ≤ 20) (hr : room ≤ 1000000) (hc : fan * maxC l ≤ room) : Done18 o room fan l := by
  obtain ⟨fn, rfl⟩ : ∃ fn : Nat, fan = (fn : Int) := ⟨fan.toNat, by omega⟩
  exact done18 hl hll (by omega) (by omega) hr hc
end Lp
