/-
  Sorting in little room, as plain data: what comes out.
-/
import Derived.Test.YtoanlikkhjohpaaGreatV18
set_option linter.unusedVariables false
namespace Lp
open Go

structure RunsOk (o : Int) (rs : List RunD) : Prop where
  li : ∀ r ∈ rs, z9 r.l ∧ 0 < r.l.length
  srt : ∀ r ∈ rs, Srt (zC o) r.l
theorem RunsOk.snoc {o : Int} {rs : List RunD} (h : RunsOk o rs) {x : RunD} (h1 : z9 x.l) (h2 : 0 < x.l.length) (h3 : Srt (zC o) x.l) : RunsOk o (rs ++ [x]) := by
  constructor
  · intro r hr
    rcases List.mem_append.1 hr with hr | hr
    · exact h.li r hr
    · rw [List.mem_singleton.1 hr]; exact ⟨h1, h2⟩
  · intro r hr
    rcases List.mem_append.1 hr with hr | hr
    · exact h.srt r hr
    · rw [List.mem_singleton.1 hr]; exact h3
theorem isort_light {o : Int} {l : List RowD} (h : z9 l) : z9 (zag (zC o) l) := fun r hr => h r ((isort_mem (zab o)).1 hr)
/-- what making runs leaves -/
structure Made (o : Int) (s s' : SortD) (l : List RowD) : Prop where
  p : s'.p.Ok
  room : s'.p.room = s.p.room
  high : s.p.high ≤ s'.p.high
  nm : s'.nm = s.nm
  nr : s'.nr - s.nr = (s'.runs.length : Int) - (s.runs.length : Int)
  le : s.runs.length ≤ s'.runs.length
  le2 : s'.runs.length ≤ s.runs.length + l.length
  pos : 0 < l.length → s.runs.length < s'.runs.length
  runs : RunsOk o s'.runs
  len : (zac s'.runs).length = (zac s.runs).length + l.length
  same : ∀ k, (zac s'.runs).filter (eqv (zC o) k) = (zac s.runs).filter (eqv (zC o) k) ++ l.filter (eqv (zC o) k)
theorem endS_made {o : Int} {s : SortD} {l : List RowD} (hp : s.p.Ok) (hr : RunsOk o s.runs) (hl : z9 l) : Made o s (endS o s l) l := by
  by_cases h : 0 < l.length
  · rw [zbV h]
    have g := giveAll_ok hp l
    refine ⟨g.1, g.2.1, Int.le_of_eq g.2.2.symm, rfl, ?_, ?_, ?_, fun _ => ?_, ?_, ?_, fun k => ?_⟩
    · show s.nr + 1 - s.nr = (((s.runs ++ [_]).length : Nat) : Int) - _; rw [List.length_append]; simp; omega
    · show _ ≤ (s.runs ++ [_]).length; simp
    · show (s.runs ++ [_]).length ≤ _; simp; omega
    · show _ < (s.runs ++ [_]).length; simp
    · exact hr.snoc (isort_light hl) (by rw [zba]; exact h) (zaJ (zab o) _ l rfl).srt
    · show (zac (s.runs ++ [_])).length = _; rw [zbB, zbP, List.length_append, zba]
    · show (zac (s.runs ++ [_])).filter _ = _; rw [zbB, zbP, List.filter_append, (zaJ (zab o) _ l rfl).same]
  · rw [zcw h]
    have : l = [] := List.eq_nil_of_length_eq_zero (by omega)
    subst this
    exact ⟨hp, rfl, Int.le_refl _, rfl, by omega, Nat.le_refl _, Nat.le_add_right _ _, fun h => absurd h (by simp), hr, rfl, fun k => by simp⟩
theorem mkGo_made {o : Int} : ∀ (rest cur : List RowD) (s : SortD), s.p.Ok → RunsOk o s.runs → z9 cur → z9 rest → Made o s (mkGo o cur rest s) (cur ++ rest)
  | [], cur, s, hp, hr, hc, _ => by rw [List.append_nil]; exact endS_made hp hr hc
  | r :: t, cur, s, hp, hr, hc, ht => by
    have hrl : zbd r.ls = true := ht r List.mem_cons_self
    have htl : z9 t := fun x hx => ht x (List.mem_cons_of_mem _ hx)
    have h1 : z9 [r] := fun x hx => by rw [List.mem_singleton.1 hx]; exact hrl
    rcases hk : s.p.takes (zp r) with _ | _
    · rw [mkGo_f hk]
      have e := endS_made (l := cur) hp hr hc
      have tk := e.p.take (zp r)
      have ih := mkGo_made t [r] ⟨(endS o s cur).runs, (endS o s cur).nr, (endS o s cur).nm, (endS o s cur).p.take (zp r)⟩ tk.1 e.runs h1 htl
      have i4 := ih.nr; have i5 := ih.le; have i6 := ih.le2; have i7 := ih.pos (by simp); have i8 := ih.len; have i9 := ih.nm; have i3 := ih.high; have i2 := ih.room
      have e1 := e.nr; have e2 := e.le; have e3 := e.le2; have e4 := e.len; have e5 := e.nm; have e6 := e.high; have e7 := e.room
      have tk2 := tk.2.1; have tk3 := tk.2.2
      simp only [List.singleton_append, List.length_cons] at i4 i5 i6 i7 i8 i9 i3 i2
      refine ⟨ih.p, by omega, by omega, by omega, by omega, by omega, by rw [List.length_append, List.length_cons]; omega, fun _ => by omega, ih.runs, by rw [List.length_append, List.length_cons]; omega, fun k => ?_⟩
      rw [show cur ++ r :: t = cur ++ ([r] ++ t) from rfl, ih.same k, show (zac (SortD.runs ⟨(endS o s cur).runs, (endS o s cur).nr, (endS o s cur).nm, (endS o s cur).p.take (zp r)⟩)) = zac (endS o s cur).runs from rfl, e.same k]
      simp only [List.filter_append, List.append_assoc]
    · rw [mkGo_t hk]
      have tk := hp.take (zp r)
      have hc2 : z9 (cur ++ [r]) := fun x hx => by
        rcases List.mem_append.1 hx with hx | hx
        · exact hc x hx
        · exact h1 x hx
      have ih := mkGo_made t (cur ++ [r]) ⟨s.runs, s.nr, s.nm, s.p.take (zp r)⟩ tk.1 hr hc2 htl
      have e : cur ++ r :: t = cur ++ [r] ++ t := by simp
      rw [e]
      have i3 := ih.high; have i2 := ih.room
      have tk2 := tk.2.1; have tk3 := tk.2.2
      refine ⟨ih.p, ?_, ?_, ih.nm, ih.nr, ih.le, ih.le2, ih.pos, ih.runs, ih.len, ih.same⟩
      · simp only at i2; omega
      · simp only at i3; omega
/-! ### merging -/
theorem Run.mem {o : Int} {ll : LLs} {rs : List RowD} {hs : List Nat} (h : Run o ll rs hs) : ∀ r ∈ rs, ∃ l ∈ ll, r ∈ l := by
  induction h with
  | done _ => intro r hr; cases hr
  | @step ll m x rs hs hx _ _ ih =>
    obtain ⟨t, ht⟩ := zdJ hx
    intro r hr
    rcases List.mem_cons.1 hr with e | e
    · exact ⟨_, zai ht, by rw [e]; exact List.mem_cons_self⟩
    · obtain ⟨l, hl, hrl⟩ := ih r e
      unfold pop at hl
      rcases List.mem_or_eq_of_mem_set hl with hl | hl
      · exact ⟨l, hl, hrl⟩
      · rw [hl] at hrl
        refine ⟨_, zai ht, ?_⟩
        rw [List.getD_eq_getElem?_getD, ht] at hrl
        exact List.mem_of_mem_drop hrl
theorem Srt.to {o : Int} : ∀ {l : List RowD}, Srt (zC o) l → zaK o l
  | [], _ => trivial
  | x :: r, h => ⟨(List.pairwise_cons.1 h).1, Srt.to (List.pairwise_cons.1 h).2⟩
theorem zaK.to {o : Int} : ∀ {l : List RowD}, zaK o l → Srt (zC o) l
  | [], _ => List.Pairwise.nil
  | x :: r, h => List.pairwise_cons.2 ⟨h.1, zaK.to h.2⟩
/-- what a merge leaves -/
structure Merged (o : Int) (s s' : SortD) : Prop where
  p : s'.p.Ok
  room : s'.p.room = s.p.room
  high : s.p.high ≤ s'.p.high
  nm : s'.nm = s.nm + 1
  nr : s'.nr = s.nr
  runs : RunsOk o s'.runs
  len : (zac s'.runs).length = (zac s.runs).length
theorem zdE {o : Int} {rs : List RunD} (h : RunsOk o rs) (k : Nat) : ∀ x ∈ lls (rs.take k), z9 x ∧ 0 < x.length := by
  intro x hx
  unfold lls at hx
  obtain ⟨r, hr, e⟩ := List.mem_map.1 hx
  rw [← e]; exact h.li r (List.mem_of_mem_take hr)
theorem lls_srt {o : Int} {rs : List RunD} (h : RunsOk o rs) (k : Nat) : ∀ x ∈ lls (rs.take k), zaK o x := by
  intro x hx
  unfold lls at hx
  obtain ⟨r, hr, e⟩ := List.mem_map.1 hx
  rw [← e]; exact (h.srt r (List.mem_of_mem_take hr)).to
theorem mergeS_merged {o : Int} {n : Nat} {s : SortD} (hp : s.p.Ok) (hr : RunsOk o s.runs) (h1 : 1 ≤ n) (h2 : n ≤ s.runs.length) : Merged o s (zan o n s) := by
  have c := countS_ok hp o (lls (s.runs.take n))
  have r := zbS o (lls (s.runs.take n))
  have rl := r.len
  have st := r.stable (lls_srt hr n)
  have hpos : 0 < (runR o (lls (s.runs.take n))).1.length := by
    rw [rl.1]
    obtain ⟨x, hx⟩ : ∃ x, s.runs[0]? = some x := ⟨s.runs[0], List.getElem?_eq_getElem (by omega)⟩
    have hm : x.l ∈ lls (s.runs.take n) := by
      unfold lls; exact List.mem_map.2 ⟨x, List.mem_of_getElem? (i := 0) (by rw [List.getElem?_take, if_pos (by omega)]; exact hx), rfl⟩
    have := (zdE hr n _ hm).2
    have := zcj hm
    omega
  have hli : z9 (runR o (lls (s.runs.take n))).1 := fun y hy => by
    obtain ⟨l, hl, hy⟩ := r.mem y hy
    exact (zdE hr n l hl).1 y hy
  refine ⟨c.1, c.2.1, c.2.2, rfl, rfl, ?_, ?_⟩
  · have hd : RunsOk o (s.runs.drop n) := ⟨fun x hx => hr.li x (List.mem_of_mem_drop hx), fun x hx => hr.srt x (List.mem_of_mem_drop hx)⟩
    exact hd.snoc hli hpos st.sorted.to
  · show (zac (s.runs.drop n ++ [_])).length = _
    rw [zbB, zbP, List.length_append, rl.1, total_lls]
    have e : zac s.runs = zac (s.runs.take n) ++ zac (s.runs.drop n) := by rw [← zbB, List.take_append_drop]
    rw [e, List.length_append]; omega
theorem mergeS_runs (o : Int) (n : Nat) (s : SortD) : (zan o n s).runs.length = s.runs.length - n + 1 := by
  show (s.runs.drop n ++ [_]).length = _; rw [List.length_append, List.length_drop]; rfl
/-- how many zdd there are -/
def zdd (fan R : Nat) : Nat := if 1 < R then (R - 1 + fan - 2) / (fan - 1) else 0
theorem merges_step {fan R : Nat} (hf : 2 ≤ fan) (hR : 1 < R) : zdd fan R = zdd fan (R - min fan R + 1) + 1 := by
  obtain ⟨f, rfl⟩ : ∃ f, fan = f + 2 := ⟨fan - 2, by omega⟩
  unfold zdd
  rw [if_pos hR]
  rw [show f + 2 - 1 = f + 1 by omega]
  rcases Nat.lt_or_ge (f + 2) R with h | h
  · rw [Nat.min_eq_left (by omega), if_pos (by omega)]
    rw [show R - 1 + (f + 2) - 2 = (R - (f + 2) + 1 - 1 + (f + 2) - 2) + (f + 1) by omega, Nat.add_div_right _ (by omega)]
  · rw [Nat.min_eq_right h, if_neg (by omega)]
    have e : (R - 1 + (f + 2) - 2) / (f + 1) = 1 := by
      rw [Nat.div_eq_of_lt_le (k := 1)]
      · omega
      · omega
    rw [e]
/-- all merging is done -/
structure Sorted1 (o : Int) (fan : Nat) (s s' : SortD) : Prop where
  p : s'.p.Ok
  room : s'.p.room = s.p.room
  high : s.p.high ≤ s'.p.high
  nm : s'.nm = s.nm + (zdd fan s.runs.length : Int)
  nr : s'.nr = s.nr
  runs : RunsOk o s'.runs
  len : (zac s'.runs).length = (zac s.runs).length
  one : s'.runs.length ≤ 1
theorem mergeAll_sorted {o : Int} {fan : Nat} (hf : 2 ≤ fan) : ∀ (n : Nat) (s : SortD), s.p.Ok → RunsOk o s.runs → s.runs.length ≤ n + 1 → Sorted1 o fan s (zbo o fan n s)
  | 0, s, hp, hr, hn => by
    refine ⟨hp, rfl, Int.le_refl _, ?_, rfl, hr, rfl, hn⟩
    show s.nm = s.nm + _; unfold zdd; rw [if_neg (by omega)]; simp
  | n + 1, s, hp, hr, hn => by
    by_cases h : 1 < s.runs.length
    · rw [mergeAll_next h]
      have m := mergeS_merged (o := o) (n := min fan s.runs.length) hp hr (by omega) (by omega)
      have hl := mergeS_runs o (min fan s.runs.length) s
      have ih := mergeAll_sorted hf n (zan o (min fan s.runs.length) s) m.p m.runs (by omega)
      refine ⟨ih.p, ih.room.trans m.room, Int.le_trans m.high ih.high, ?_, ih.nr.trans m.nr, ih.runs, ih.len.trans m.len, ih.one⟩
      rw [ih.nm, m.nm, hl, merges_step hf h]; omega
    · rw [mergeAll_end h]
      refine ⟨hp, rfl, Int.le_refl _, ?_, rfl, hr, rfl, by omega⟩
      unfold zdd; rw [if_neg h]; simp

/-! ### sorting -/
structure RepD where
  nr : Int
  nm : Int
  hi : Int
deriving DecidableEq
def RepD.d (x : RepD) : D := .agg [.v (.int .i64 x.nr), .v (.int .i64 x.nm), .v (.int .i64 x.hi)]
def zak (room : Int) : SortD := ⟨[], 0, 0, ⟨room, 0, 0⟩⟩
noncomputable def zbM (o room : Int) (fan : Nat) (l : List RowD) : SortD := zbo o fan l.length (mkGo o [] l (zak room))
def zaa (room fan : Int) (l : List RowD) : Int := if fan < 2 ∨ 20 < fan ∨ room < 0 ∨ 1000000 < room ∨ (2000 : Int) < ((l.length : Nat) : Int) then 1 else if room < fan * maxC l then 8 else 0
noncomputable def zB (o room fan : Int) (l : List RowD) : List RowD := if zaa room fan l = 0 then zac (zbM o room fan.toNat l).runs else []
noncomputable def zT (o room fan : Int) (l : List RowD) : RepD := if zaa room fan l = 0 then ⟨(zbM o room fan.toNat l).nr, (zbM o room fan.toNat l).nm, (zbM o room fan.toNat l).p.high⟩ else ⟨0, 0, 0⟩
theorem sort0_ok {room : Int} (h0 : 0 ≤ room) (h1 : room ≤ 1000000) : (zak room).p.Ok := ⟨Int.le_refl _, Int.le_refl _, h0, h1⟩
theorem zdO {o room : Int} {l : List RowD} (h0 : 0 ≤ room) (h1 : room ≤ 1000000) (hl : z9 l) : Made o (zak room) (mkGo o [] l (zak room)) l := mkGo_made l [] _ (sort0_ok h0 h1) ⟨fun _ h => (by cases h), fun _ h => (by cases h)⟩ (fun _ h => (by cases h)) hl
theorem sorted0 {o room : Int} {fan : Nat} {l : List RowD} (h0 : 0 ≤ room) (h1 : room ≤ 1000000) (hf : 2 ≤ fan) (hl : z9 l) : Sorted1 o fan (mkGo o [] l (zak room)) (zbM o room fan l) := by
  have m := zdO (o := o) h0 h1 hl
  exact mergeAll_sorted hf _ _ m.p m.runs (by have := m.le2; have e : (zak room).runs.length = 0 := rfl; omega)
theorem zdg {room fan : Int} {l : List RowD} (h : fan < 2 ∨ 20 < fan ∨ room < 0 ∨ 1000000 < room ∨ (2000 : Int) < ((l.length : Nat) : Int)) : zaa room fan l = 1 := by unfold zaa; rw [if_pos h]
theorem zdf {room fan : Int} {l : List RowD} (h : ¬ (fan < 2 ∨ 20 < fan ∨ room < 0 ∨ 1000000 < room ∨ (2000 : Int) < ((l.length : Nat) : Int))) (h2 : room < fan * maxC l) : zaa room fan l = 8 := by unfold zaa; rw [if_neg h, if_pos h2]
theorem zdh {room fan : Int} {l : List RowD} (h : ¬ (fan < 2 ∨ 20 < fan ∨ room < 0 ∨ 1000000 < room ∨ (2000 : Int) < ((l.length : Nat) : Int))) (h2 : ¬ room < fan * maxC l) : zaa room fan l = 0 := by unfold zaa; rw [if_neg h, if_neg h2]
theorem zbk {o room fan : Int} {l : List RowD} (h : zaa room fan l ≠ 0) : zB o room fan l = [] ∧ zT o room fan l = ⟨0, 0, 0⟩ := by unfold zB zT; rw [if_neg h, if_neg h]; exact ⟨rfl, rfl⟩
theorem za8 {o room fan : Int} {fn : Nat} {l : List RowD} (h : zaa room fan l = 0) (hf : fan = (fn : Int)) : zB o room fan l = zac (zbM o room fn l).runs ∧ zT o room fan l = ⟨(zbM o room fn l).nr, (zbM o room fn l).nm, (zbM o room fn l).p.high⟩ := by
  unfold zB zT; rw [if_pos h, if_pos h, hf]; exact ⟨rfl, rfl⟩
end Lp
