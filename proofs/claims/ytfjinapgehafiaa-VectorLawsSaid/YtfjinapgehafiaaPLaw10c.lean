/-
  What is said of vectors (chapter 10): keys, sums, sizes, contraries.
-/
import Derived.Test.YtfjinapgehafiaaV65
set_option linter.unusedVariables false
namespace Lp
open Go
theorem within_ok {v : Int} (h : zax v = true) : za5 v = (v, 0) := by unfold za5; rw [if_pos h]
/-! ### sums -/
theorem find_iff {mode : Int} {ns : List ByteArray} {b : List RowD} (h : ndT mode ns b) {t : ByteArray} {q : RowD} : zcu mode ns t b = some q ↔ q ∈ b ∧ keyT mode ns q = t :=
  ⟨find_q, fun ⟨h1, h2⟩ => by rw [← h2]; exact find_self h h1⟩
theorem strict_ext : ∀ {a b : List RowD}, zaI cL a → zaI cL b → (∀ x, x ∈ a ↔ x ∈ b) → a = b
  | [], [], _, _, _ => rfl
  | [], y :: b, _, _, h => by have := (h y).2 List.mem_cons_self; cases this
  | x :: a, [], _, _, h => by have := (h x).1 List.mem_cons_self; cases this
  | x :: a, y :: b, ha, hb, h => by
    have ha' := List.pairwise_cons.1 ha
    have hb' := List.pairwise_cons.1 hb
    have e : x = y := by
      rcases List.mem_cons.1 ((h x).1 List.mem_cons_self) with e | e
      · exact e
      · rcases List.mem_cons.1 ((h y).2 List.mem_cons_self) with e' | e'
        · exact e'.symm
        · have := ha'.1 y e'; have := hb'.1 x e; have := zcJ.neg x y; omega
    subst e
    congr 1
    refine strict_ext ha'.2 hb'.2 (fun z => ⟨fun hz => ?_, fun hz => ?_⟩)
    · rcases List.mem_cons.1 ((h z).1 (List.mem_cons_of_mem _ hz)) with e | e
      · have := ha'.1 z hz; have := zcJ.neg x x; rw [e] at *; omega
      · exact e
    · rcases List.mem_cons.1 ((h z).2 (List.mem_cons_of_mem _ hz)) with e | e
      · have := hb'.1 z hz; have := zcJ.neg x x; rw [e] at *; omega
      · exact e
theorem rt_nd {l : List RowD} (h1 : l.length ≤ 2000) (h2 : ∀ r ∈ l, zba r = true) (h3 : (l.map (·.ls)).Nodup) : rtE l = 0 := by
  have hp := zc2 (c := cL) l
  have hs : Srt cL (zN cL l) := (zaA zcJ _ l rfl).srt
  have hn : ((zN cL l).map (·.ls)).Nodup := (hp.map (·.ls)).nodup_iff.2 h3
  rw [List.Nodup, List.pairwise_map] at hn
  have hst : (zN cL l).Pairwise (fun a b => cL a b < 0) := List.Pairwise.imp (fun {x y} ⟨p, q⟩ => by
    have : cL x y ≠ 0 := fun e => q (cmpLs_eq.1 e)
    have p' : cL x y ≤ 0 := p
    omega) (List.Pairwise.and hs hn)
  have hb : ordB l = true := decide_eq_true hst
  obtain ⟨_, e2⟩ := zdZ (l := l) (by omega) (zcy.2 h2)
  rw [← e2]; unfold ordE; rw [hb]; rfl
theorem key11 (ns : List ByteArray) (l : List Lbl) : keyL 1 ns (keyL 1 ns l) = keyL 1 ns l := pick_same l ns true
def zaX : ByteArray := ⟨#[43]⟩
/-- the sums that there are -/
def Sums (ns : List ByteArray) (a b : List RowD) (x : RowD) : Prop := ∃ r ∈ a, ∃ q ∈ b, keyT 1 ns q = keyT 1 ns r ∧ x = ⟨keyL 1 ns r.ls, r.v + q.v⟩
def zei (ns : List ByteArray) (a b : List RowD) : Prop := ∀ r ∈ a, ∀ q ∈ b, keyT 1 ns q = keyT 1 ns r → zax (r.v + q.v) = true
theorem within_0 {v : Int} : (za5 v).2 = 0 ↔ zax v = true := by
  unfold za5
  cases h : zax v <;> simp
structure SumF (ns : List ByteArray) (a b : List RowD) : Prop where
  e : zP zaX a b 1 ns = 0 ↔ (ndT 1 ns a ∧ ndT 1 ns b) ∧ zei ns a b
  no : zP zaX a b 1 ns ≠ 0 → zq zaX a b 1 ns = []
  mem : zP zaX a b 1 ns = 0 → ∀ x, x ∈ zq zaX a b 1 ns ↔ Sums ns a b x
  vr : z1 (zq zaX a b 1 ns) = true
theorem vr_match (op : ByteArray) (a b : List RowD) (mode : Int) (ns : List ByteArray) : z1 (zq op a b mode ns) = true := by
  unfold zq
  split
  · split
    · split
      · exact vr_rt _
      · rfl
    · rfl
  · rfl
theorem match_no {op : ByteArray} {a b : List RowD} {mode : Int} {ns : List ByteArray} (h : zP op a b mode ns ≠ 0) : zq op a b mode ns = [] := by
  unfold zP at h; unfold zq
  split at h
  · split at h
    · split at h
      · rename_i h1 h2 h3
        rw [if_pos h1, if_pos h2, if_pos h3]
        rcases rt_cases (zbA op mode ns b a) with ⟨e, _⟩ | ⟨_, e⟩
        · exact absurd e h
        · exact e
      · rename_i h1 h2 h3; rw [if_pos h1, if_pos h2, if_neg h3]
    · rename_i h1 h2; rw [if_pos h1, if_neg h2]
  · rename_i h1; rw [if_neg h1]
theorem sumF {ns : List ByteArray} {a b : List RowD} (ha : z1 a = true) (hb : z1 b = true) : SumF ns a b := by
  have hg : zbB zaX a b = true := by unfold zbB; rw [show opB zaX = true from op_plus, ha, hb]; rfl
  have hcb : cmpB zaX = false := by decide
  have hdo : ∀ r ∈ a, ∀ q ∈ b, doE zaX r.v q.v = za5 (r.v + q.v) := fun r hr q hq => do_plus (zcf (zbD ha r hr)).2 (zcf (zbD hb q hq)).2
  -- if all goes well
  have key : (ndT 1 ns a ∧ ndT 1 ns b) → zei ns a b → zaG (maF zaX 1 ns b) a = 0 ∧ rtE (zbA zaX 1 ns b a) = 0 ∧ ∀ x, x ∈ zbA zaX 1 ns b a ↔ Sums ns a b x := fun hn hok => by
    have hmem : ∀ x, x ∈ zbA zaX 1 ns b a ↔ Sums ns a b x := fun x => by
      unfold zbA
      rw [List.mem_filterMap]
      constructor
      · rintro ⟨r, hr, e⟩
        cases hf : zcu 1 ns (keyT 1 ns r) b with
        | none => unfold zbI at e; rw [hf] at e; cases e
        | some q =>
          obtain ⟨hq, hk⟩ := find_q hf
          rw [zds hf hcb, hdo r hr q hq, within_ok (hok r hr q hq hk)] at e
          injection e with e
          exact ⟨r, hr, q, hq, hk, e.symm⟩
      · rintro ⟨r, hr, q, hq, hk, e⟩
        have hf := (find_iff hn.2).2 ⟨hq, hk⟩
        exact ⟨r, hr, by rw [zds hf hcb, hdo r hr q hq, within_ok (hok r hr q hq hk), e]⟩
    refine ⟨zdu.2 (fun r hr => ?_), rt_nd (Nat.le_trans (maOut_len _ _ _ _ _) (zbk.1 ha).1) (fun x hx => ?_) ?_, hmem⟩
    · cases hf : zcu 1 ns (keyT 1 ns r) b with
      | none => unfold maF; rw [hf]
      | some q =>
        obtain ⟨hq, hk⟩ := find_q hf
        rw [zaD hf, hdo r hr q hq, within_ok (hok r hr q hq hk)]
    · obtain ⟨r, hr, q, hq, hk, e⟩ := (hmem x).1 hx
      rw [e]
      exact zdo (r := ⟨keyL 1 ns r.ls, r.v + q.v⟩) (right_key (zcf (zbD ha r hr)).1 1 ns) (hok r hr q hq hk)
    · -- the keys differ
      have : ∀ (m : List RowD), (∀ r ∈ m, r ∈ a) → (m.map (fun r => keyL 1 ns r.ls)).Nodup → ((m.filterMap (zbI zaX 1 ns b)).map (·.ls)).Nodup ∧ ∀ z ∈ (m.filterMap (zbI zaX 1 ns b)).map (·.ls), z ∈ m.map (fun r => keyL 1 ns r.ls) := by
        intro m
        induction m with
        | nil => intro _ _; exact ⟨List.Pairwise.nil, fun _ h => h⟩
        | cons r m ih =>
          intro hm hnd
          rw [List.map_cons, List.nodup_cons] at hnd
          obtain ⟨i1, i2⟩ := ih (fun z hz => hm z (List.mem_cons_of_mem _ hz)) hnd.2
          cases hf : zbI zaX 1 ns b r with
          | none =>
            rw [List.filterMap_cons_none hf]
            exact ⟨i1, fun z hz => List.mem_cons_of_mem _ (i2 z hz)⟩
          | some y =>
            have hy : y.ls = keyL 1 ns r.ls := by
              unfold zbI at hf
              split at hf
              · cases hf
              · rw [hcb] at hf; injection hf with hf; rw [← hf]
            rw [List.filterMap_cons_some hf, List.map_cons, List.map_cons, List.nodup_cons, hy]
            refine ⟨⟨fun hc => hnd.1 (i2 _ hc), i1⟩, fun z hz => ?_⟩
            rcases List.mem_cons.1 hz with e | e
            · rw [e]; exact List.mem_cons_self
            · exact List.mem_cons_of_mem _ (i2 z e)
      exact (this a (fun _ h => h) ((nd_of_keys (zbD ha)).1 hn.1)).1
  have he : zP zaX a b 1 ns = 0 ↔ (ndT 1 ns a ∧ ndT 1 ns b) ∧ zei ns a b := by
    constructor
    · intro h
      unfold zP at h
      rw [if_pos hg] at h
      split at h
      · rename_i hn
        refine ⟨hn, fun r hr q hq hk => ?_⟩
        split at h
        · rename_i h0
          have := zdu.1 h0 r hr
          rw [zaD ((find_iff hn.2).2 ⟨hq, hk⟩), hdo r hr q hq] at this
          exact within_0.1 this
        · rename_i h0; exact absurd h h0
      · cases h
    · rintro ⟨hn, hok⟩
      obtain ⟨k1, k2, _⟩ := key hn hok
      unfold zP
      rw [if_pos hg, if_pos hn, if_pos k1]; exact k2
  refine ⟨he, match_no, fun h x => ?_, vr_match _ _ _ _ _⟩
  obtain ⟨hn, hok⟩ := he.1 h
  obtain ⟨k1, k2, k3⟩ := key hn hok
  unfold zq
  rw [if_pos hg, if_pos hn, if_pos k1, (rt_strict k2).2.mem_iff, k3 x]
structure LawsF (ns : List ByteArray) (a b : List RowD) : Prop where
  e : zP zaX a b 1 ns = 0 ↔ zP zaX b a 1 ns = 0
  l : zP zaX a b 1 ns = 0 → zq zaX a b 1 ns = zq zaX b a 1 ns
  n1 : zP zaX a b 1 ns ≠ 0 → zq zaX a b 1 ns = []
  n2 : zP zaX b a 1 ns ≠ 0 → zq zaX b a 1 ns = []
  z : zP zaX a b 1 ns = 0 → zP ⟨#[45]⟩ (zq zaX a b 1 ns) b 1 ns = 0 ∧ (zq ⟨#[45]⟩ (zq zaX a b 1 ns) b 1 ns).map (·.ls) = (zq zaX a b 1 ns).map (·.ls)
  v1 : z1 (zq zaX a b 1 ns) = true
  v2 : z1 (zq ⟨#[45]⟩ (zq zaX a b 1 ns) b 1 ns) = true
theorem sums_comm {ns : List ByteArray} {a b : List RowD} (ha : z1 a = true) (hb : z1 b = true) (x : RowD) : Sums ns a b x → Sums ns b a x := by
  rintro ⟨r, hr, q, hq, hk, e⟩
  refine ⟨q, hq, r, hr, hk.symm, ?_⟩
  rw [e, (key_eq (zbD hb q hq) (zbD ha r hr)).1 hk, Int.add_comm]
theorem lawsF {ns : List ByteArray} {a b : List RowD} (ha : z1 a = true) (hb : z1 b = true) : LawsF ns a b := by
  have f1 := sumF (ns := ns) ha hb
  have f2 := sumF (ns := ns) hb ha
  have ok : ∀ {a b : List RowD}, zei ns a b → zei ns b a := fun h r hr q hq hk => by rw [Int.add_comm]; exact h q hq r hr hk.symm
  have he : zP zaX a b 1 ns = 0 ↔ zP zaX b a 1 ns = 0 := by
    rw [f1.e, f2.e]
    exact ⟨fun ⟨⟨h1, h2⟩, h3⟩ => ⟨⟨h2, h1⟩, ok h3⟩, fun ⟨⟨h1, h2⟩, h3⟩ => ⟨⟨h2, h1⟩, ok h3⟩⟩
  refine ⟨he, fun h => ?_, f1.no, f2.no, fun h => ?_, f1.vr, vr_match _ _ _ _ _⟩
  · exact strict_ext (zcx f1.vr) (zcx f2.vr) (fun x => by rw [f1.mem h x, f2.mem (he.1 h) x]; exact ⟨sums_comm ha hb x, sums_comm hb ha x⟩)
  · have hx := f1.vr
    have hm := f1.mem h
    obtain ⟨⟨hna, hnb⟩, hok⟩ := f1.e.1 h
    revert hx hm
    generalize zq zaX a b 1 ns = x
    intro hx hm
    have hkx : ∀ p ∈ x, keyL 1 ns p.ls = p.ls := fun p hp => by obtain ⟨r, _, q, _, _, e⟩ := (hm p).1 hp; rw [e]; exact key11 ns r.ls
    have hnx : ndT 1 ns x := by
      rw [nd_of_keys (zbD hx), List.map_congr_left hkx]; exact strict_ls (zcx hx)
    have hf : ∀ p ∈ x, ∃ w, maF ⟨#[45]⟩ 1 ns b p = (w, 0) ∧ zax w = true ∧ zbI ⟨#[45]⟩ 1 ns b p = some ⟨p.ls, w⟩ := fun p hp => by
      obtain ⟨r, hr, q, hq, hk, e⟩ := (hm p).1 hp
      have hkp : keyT 1 ns q = keyT 1 ns p := by rw [hk, e]; unfold keyT; rw [key11]
      have ff := (find_iff hnb).2 ⟨hq, hkp⟩
      have hv : p.v = r.v + q.v := by rw [e]
      have hd : doE ⟨#[45]⟩ p.v q.v = (r.v, 0) := by
        rw [do_minus (zcf (zbD hx p hp)).2 (zcf (zbD hb q hq)).2, hv, show r.v + q.v - q.v = r.v by omega, within_ok (zcf (zbD ha r hr)).2]
      exact ⟨r.v, by rw [zaD ff, hd], (zcf (zbD ha r hr)).2, by rw [zds ff (by decide), hd, hkx p hp]⟩
    have hg : zbB ⟨#[45]⟩ x b = true := by unfold zbB; rw [op_minus, hx, hb]; rfl
    have h0 : zaG (maF ⟨#[45]⟩ 1 ns b) x = 0 := zdu.2 (fun p hp => by obtain ⟨w, e, _⟩ := hf p hp; rw [e])
    have ho : zbA ⟨#[45]⟩ 1 ns b x = x.map (fun p => ⟨p.ls, (maF ⟨#[45]⟩ 1 ns b p).1⟩) := fm_map (fun p hp => by obtain ⟨w, e, _, e2⟩ := hf p hp; rw [e2, e])
    obtain ⟨c1, c2⟩ := rt_self (vr_map hx (fun p => (maF ⟨#[45]⟩ 1 ns b p).1) (fun p hp => by obtain ⟨w, e, e3, _⟩ := hf p hp; rw [e]; exact e3))
    have hn2 : ndT 1 ns x ∧ ndT 1 ns b := ⟨hnx, hnb⟩
    unfold zq zP
    rw [if_pos hg, if_pos hg, if_pos hn2, if_pos hn2, if_pos h0, if_pos h0, ho, c1, c2, List.map_map]
    exact ⟨rfl, List.map_congr_left (fun p _ => rfl)⟩
/-! ### sizes -/
theorem nodup_le {α : Type} [DecidableEq α] : ∀ {a b : List α}, a.Nodup → (∀ x ∈ a, x ∈ b) → a.length ≤ b.length
  | [], b, _, _ => Nat.zero_le _
  | x :: a, b, h, hs => by
    rw [List.nodup_cons] at h
    have hx := hs x List.mem_cons_self
    have := nodup_le (a := a) (b := b.erase x) h.2 (fun y hy => by
      have hne : y ≠ x := fun e => h.1 (by rw [← e]; exact hy)
      exact (List.mem_erase_of_ne hne).2 (hs y (List.mem_cons_of_mem _ hy)))
    rw [List.length_erase_of_mem hx] at this
    have hp := List.length_pos_of_mem hx
    simp only [List.length_cons]; omega
theorem hasN_mem {ns : List ByteArray} {n : ByteArray} : hasN ns n = true ↔ n ∈ ns := by
  unfold hasN; rw [List.any_eq_true]
  exact ⟨fun ⟨x, hx, e⟩ => by rw [← of_decide_eq_true e]; exact hx, fun h => ⟨n, h, decide_eq_true rfl⟩⟩
theorem match_len (op : ByteArray) (a b : List RowD) (mode : Int) (ns : List ByteArray) : (zq op a b mode ns).length ≤ a.length ∧ (zq op a b mode ns).length ≤ b.length := by
  unfold zq
  split
  · split
    · rename_i hn
      split
      · have h1 := rt_len (zbA op mode ns b a)
        have h2 : (zbA op mode ns b a).length ≤ b.length := by
          -- those that are matched have different keys, which b has
          have hl : ∀ m : List RowD, (m.filterMap (zbI op mode ns b)).length ≤ (m.filter (fun r => hasN (z9 mode ns b) (keyT mode ns r))).length := by
            intro m
            induction m with
            | nil => exact Nat.le_refl _
            | cons r m ih =>
              by_cases hk : keyT mode ns r ∈ z9 mode ns b
              · rw [List.filter_cons_of_pos (p := fun r => hasN (z9 mode ns b) (keyT mode ns r)) (hasN_mem.2 hk), List.filterMap_cons]
                split
                · simp only [List.length_cons]; omega
                · simp only [List.length_cons]; omega
              · rw [List.filter_cons_of_neg (p := fun r => hasN (z9 mode ns b) (keyT mode ns r)) (fun h => hk (hasN_mem.1 h)), List.filterMap_cons_none (maF_none (op := op) hk).2]; exact ih
          refine Nat.le_trans (hl a) ?_
          have := nodup_le (a := (a.filter (fun r => hasN (z9 mode ns b) (keyT mode ns r))).map (keyT mode ns)) (b := z9 mode ns b) (List.Pairwise.sublist ((List.filter_sublist).map _) hn.1) (fun t ht => by
            obtain ⟨r, hr, e⟩ := List.mem_map.1 ht
            rw [← e]; exact hasN_mem.1 (List.mem_filter.1 hr).2)
          rw [List.length_map] at this
          unfold z9 at this
          rwa [List.length_map] at this
        exact ⟨Nat.le_trans h1 (maOut_len _ _ _ _ _), Nat.le_trans h1 h2⟩
      · exact ⟨Nat.zero_le _, Nat.zero_le _⟩
    · exact ⟨Nat.zero_le _, Nat.zero_le _⟩
  · exact ⟨Nat.zero_le _, Nat.zero_le _⟩
theorem rt_mem {l : List RowD} {x : RowD} (h : x ∈ rtL l) : x ∈ l := by
  rcases rt_cases l with ⟨_, _, hp⟩ | ⟨_, e⟩
  · exact hp.mem_iff.1 h
  · rw [e] at h; cases h
theorem matchLZ {op : ByteArray} {a b : List RowD} {mode : Int} {ns : List ByteArray} (h : LZ a) : LZ (zq op a b mode ns) := fun x hx => by
  unfold zq at hx
  split at hx
  · split at hx
    · split at hx
      · have hx := rt_mem hx
        unfold zbA at hx
        obtain ⟨r, hr, e⟩ := List.mem_filterMap.1 hx
        unfold zbI at e
        split at e
        · cases e
        · split at e
          · split at e
            · injection e with e; rw [← e]; exact h r hr
            · cases e
          · injection e with e; rw [← e]; exact h.key hr mode ns
      · cases hx
    · cases hx
  · cases hx
end Lp
