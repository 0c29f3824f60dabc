/-
  In whatever room rows are sorted they come in the same order (chapter 18), as plain data.
-/
import Derived.Test.YtjhkajkickngmaaV22
set_option linter.unusedVariables false
namespace Lp
open Go
theorem perm_same {c : RowD → RowD → Int} (h : Cmp c) {a b : List RowD} (hs : ∀ k, a.filter (eqv c k) = b.filter (eqv c k)) : a.Perm b := by
  rw [List.perm_iff_count]
  intro x
  have e := eqv_self h x
  rw [← List.count_filter (p := eqv c x) (l := a) e, ← List.count_filter (p := eqv c x) (l := b) e, hs x]
theorem Made.perm {o : Int} {s s' : SortD} {l : List RowD} (m : Made o s s' l) : (flatR s'.runs).Perm (flatR s.runs ++ l) := perm_same (cmpRow_cmp o) (fun k => by rw [m.same k, List.filter_append])
theorem mergeS_perm {o : Int} {n : Nat} {s : SortD} (hr : RunsOk o s.runs) : (flatR (mergeS o n s).runs).Perm (flatR s.runs) := by
  show (flatR (s.runs.drop n ++ [_])).Perm _
  rw [flatR_app, flatR_one]
  have st := (runR_run o (lls (s.runs.take n))).stable (lls_srt hr n)
  have p1 : (runR o (lls (s.runs.take n))).1.Perm (flatR (s.runs.take n)) := perm_same (cmpRow_cmp o) (fun k => st.same k)
  have e : flatR s.runs = flatR (s.runs.take n) ++ flatR (s.runs.drop n) := by rw [← flatR_app, List.take_append_drop]
  rw [e]
  exact (List.Perm.append_left _ p1).trans List.perm_append_comm
theorem mergeAll_perm {o : Int} {fan : Nat} (hf : 2 ≤ fan) : ∀ (n : Nat) (s : SortD), s.p.Ok → RunsOk o s.runs → (flatR (mergeAll o fan n s).runs).Perm (flatR s.runs)
  | 0, s, _, _ => List.Perm.refl _
  | n + 1, s, hp, hr => by
    by_cases h : 1 < s.runs.length
    · rw [mergeAll_next h]
      have m := mergeS_merged (o := o) (n := min fan s.runs.length) hp hr (by omega) (by omega)
      exact (mergeAll_perm hf n _ m.p m.runs).trans (mergeS_perm hr)
    · rw [mergeAll_end h]
theorem flat_srt {o : Int} {rs : List RunD} (h : RunsOk o rs) (h1 : rs.length ≤ 1) : Srt (cmpRow o) (flatR rs) := by
  cases rs with
  | nil => exact List.Pairwise.nil
  | cons r t =>
    cases t with
    | nil => rw [flatR_one]; exact h.srt r List.mem_cons_self
    | cons _ _ => simp at h1
theorem cmpRow_cL {o : Int} {x y : RowD} (h : cmpRow o x y = 0) : cL x y = 0 := by
  have key : ∀ a b : Int, or2 a b = 0 → b = 0 := fun a b h => by unfold or2 at h; split at h <;> omega
  unfold cmpRow at h
  (repeat' split at h) <;> first | exact h | exact key _ _ h
theorem sortR_srt (o : Int) (l : List RowD) : Srt (cmpRow o) (sortR o l) ∧ (sortR o l).Perm l := by
  have st := sortR_stable o l
  exact ⟨st.sorted.to, perm_same (cmpRow_cmp o) (fun k => st.same k)⟩
/-- rows whose labels differ come out in one order alone -/
theorem sortL_same {o room fan : Int} {l : List RowD} (hl : LightRs l) (hs : Strict cL l) (h0 : 0 ≤ room) (h1 : room ≤ 1000000) (hf : 2 ≤ fan) (hE : sortE room fan l = 0) : sortL o room fan l = sortR o l := by
  obtain ⟨fn, rfl⟩ : ∃ fn : Nat, fan = (fn : Int) := ⟨fan.toNat, by omega⟩
  rw [(sortL_0 (o := o) hE rfl).1]
  have m := made0 (o := o) h0 h1 hl
  have s := sorted0 (o := o) (fan := fn) h0 h1 (by omega) hl
  have p1 : (flatR (sortS o room fn l).runs).Perm l := by
    have := (mergeAll_perm (o := o) (fan := fn) (by omega) l.length _ m.p m.runs).trans m.perm
    exact this
  obtain ⟨r1, r2⟩ := sortR_srt o l
  refine srt_perm (cmpRow_cmp o) (flat_srt s.runs s.one) r1 (p1.trans r2.symm) (fun x hx y hy e => ?_)
  exact hs.anti cL_cmp x (p1.mem_iff.1 hx) y (p1.mem_iff.1 hy) (cmpRow_cL e)
theorem sum_le {l : List RowD} (h : LightRs l) : sumC l ≤ 8176 * (l.length : Int) := by
  induction l with
  | nil => simp [sumC]
  | cons x r ih =>
    have h1 := costR_bd (h x List.mem_cons_self)
    have h2 := ih (fun y hy => h y (List.mem_cons_of_mem _ hy))
    simp only [sumC, List.length_cons]; omega
theorem one_run {o : Int} {l : List RowD} (hl : LightRs l) (hll : l.length ≤ 60) (hE : sortE 1000000 2 l = 0) : (sortP o 1000000 2 l).nr ≤ 1 ∧ (sortP o 1000000 2 l).nm = 0 := by
  rw [(sortL_0 (o := o) (fn := 2) hE rfl).2]
  have m := made0 (o := o) (room := 1000000) (by omega) (by omega) hl
  have s := sorted0 (o := o) (room := 1000000) (fan := 2) (by omega) (by omega) (by omega) hl
  have hsum := sum_le hl
  obtain ⟨p, e⟩ := mkGo_one (o := o) l [] (sort0 1000000) hl rfl (by show 0 + sumC l ≤ 1000000; omega)
  have hn := endS_num (o := o) (s := ⟨(sort0 1000000).runs, (sort0 1000000).nr, (sort0 1000000).nm, p⟩) (l := [] ++ l)
  rw [← e] at hn
  have z1 : (sort0 1000000).runs.length = 0 := rfl
  have z2 : (sort0 1000000).nr = 0 := rfl
  have z3 : (sort0 1000000).nm = 0 := rfl
  have s1 := s.nr; have s2 := s.nm; have m5 := m.nm
  have hr : (mkGo o [] l (sort0 1000000)).runs.length ≤ 1 := by have := hn.2.2.1; simp only at this; omega
  have hm : merges 2 (mkGo o [] l (sort0 1000000)).runs.length = 0 := by unfold merges; rw [if_neg (by omega)]
  rw [hm] at s2
  refine ⟨?_, ?_⟩
  · show (sortS o 1000000 2 l).nr ≤ 1; have := hn.2.1; simp only at this; omega
  · show (sortS o 1000000 2 l).nm = 0; simp only [Int.natCast_zero] at s2; omega
theorem min_room {fan : Int} {l : List RowD} (hl : LightRs l) (hll : l.length ≤ 60) (h1 : 2 ≤ fan) (h2 : fan ≤ 20) (h0 : 0 < l.length) : sortE (fan * maxC l - 1) fan l = 8 := by
  have hb := maxC_bd hl l.length
  rw [List.take_of_length_le (Nat.le_refl _)] at hb
  have hm := mulbd (a := fan) (by omega) h2 hb.1 hb.2
  obtain ⟨x, hx⟩ : ∃ x, l[0]? = some x := ⟨l[0], List.getElem?_eq_getElem h0⟩
  have hc := costR_bd (hl x (mem_get hx))
  have hg := maxC_ge (mem_get hx)
  have hp : 1 * maxC l ≤ fan * maxC l := Int.mul_le_mul_of_nonneg_right (by omega) hb.1
  exact sortE_8 (by omega) (by omega)
structure Same18 (o fan more : Int) (l : List RowD) : Prop where
  e1 : sortE (fan * maxC l) fan l = 0
  e2 : sortE (fan * maxC l + more) fan l = 0
  e3 : sortE 1000000 2 l = 0
  h1 : (sortP o (fan * maxC l) fan l).hi ≤ fan * maxC l
  h2 : (sortP o (fan * maxC l + more) fan l).hi ≤ fan * maxC l + more
  nr : (sortP o 1000000 2 l).nr ≤ 1
  nm : (sortP o 1000000 2 l).nm = 0
  l1 : sortL o (fan * maxC l) fan l = sortR o l
  l2 : sortL o (fan * maxC l + more) fan l = sortR o l
  l3 : sortL o 1000000 2 l = sortR o l
  full : 0 < l.length → sortE (fan * maxC l - 1) fan l = 8
theorem same18 {o fan more : Int} {l : List RowD} (hl : LightRs l) (hs : Strict cL l) (hll : l.length ≤ 60) (h1 : 2 ≤ fan) (h2 : fan ≤ 20) (h3 : 0 ≤ more) (h4 : more ≤ 5000) : Same18 o fan more l := by
  have hb := maxC_bd hl l.length
  rw [List.take_of_length_le (Nat.le_refl _)] at hb
  have hm := mulbd (a := fan) (by omega) h2 hb.1 hb.2
  have d1 := done18' (o := o) (room := fan * maxC l) (fan := fan) hl (by omega) h1 h2 (by omega) (by omega)
  have d2 := done18' (o := o) (room := fan * maxC l + more) (fan := fan) hl (by omega) h1 h2 (by omega) (by omega)
  have d3 := done18' (o := o) (room := 1000000) (fan := 2) hl (by omega) (by omega) (by omega) (by omega) (by omega)
  have one := one_run (o := o) hl hll d3.E
  exact ⟨d1.E, d2.E, d3.E, d1.hi, d2.hi, one.1, one.2, sortL_same hl hs hm.1 (by omega) h1 d1.E, sortL_same hl hs (by omega) (by omega) h1 d2.E, sortL_same hl hs (by omega) (by omega) (by omega) d3.E, min_room hl hll h1 h2⟩
theorem same_dead {o fan more : Int} {l : List RowD} (S : Same18 o fan more l) (h : ((((((sortE (fan * maxC l) fan l ≠ 0 ∨ sortE (fan * maxC l + more) fan l ≠ 0) ∨ sortE 1000000 2 l ≠ 0) ∨ fan * maxC l < (sortP o (fan * maxC l) fan l).hi) ∨ fan * maxC l + more < (sortP o (fan * maxC l + more) fan l).hi) ∨ 1 < (sortP o 1000000 2 l).nr) ∨ (sortP o 1000000 2 l).nm ≠ 0)) : False := by
  have a1 := S.e1; have a2 := S.e2; have a3 := S.e3; have a4 := S.h1; have a5 := S.h2; have a6 := S.nr; have a7 := S.nm
  rcases h with (((((h | h) | h) | h) | h) | h) | h <;> first | exact h a1 | exact h a2 | exact h a3 | exact h a7 | omega
end Lp
