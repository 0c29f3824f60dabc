/-
  Laws of groups: the greatest of each.
-/
import Derived.Shelf.SlSortCmp.WholeK
import Derived.Shelf.SlLaysF0
import Derived.Test.YtfjinapgehafiaaGreatProg
import Derived.Test.YtfjinapgehafiaaGreatPPdq
set_option linter.unusedVariables false
namespace Lp
open Go Classical
abbrev tx (r : RowD) : ByteArray := zau r.ls
def topG (n : Int) (g : List RowD) : List RowD := (zt grC g).take (min n.toNat g.length)
theorem topR_eq (n : Int) (gs : List (List RowD)) : topR n gs = gs.flatMap (topG n) := rfl
section
variable {κ : RowD → List Lbl}
theorem insG_perm {r : RowD} : ∀ gs : List (List RowD), (insG κ gs r).flatten.Perm (gs.flatten ++ [r])
  | [] => by simp [insG]
  | g :: gs => by
    have ih := insG_perm (r := r) gs
    unfold insG; split
    · rw [List.flatten_cons, List.flatten_cons, List.append_assoc]; exact ih.append_left g
    · split
      · rw [List.flatten_cons, List.flatten_cons, List.append_assoc, List.append_assoc]; exact (List.perm_append_comm).append_left g
      · rw [List.flatten_cons]; exact List.perm_append_comm (l₁ := [r])
theorem split_perm (l : List RowD) : (zaT κ l).flatten.Perm l := by
  unfold zaT
  have : ∀ s : List (List RowD), (l.foldl (insG κ) s).flatten.Perm (s.flatten ++ l) := by
    induction l with
    | nil => intro s; simp
    | cons x l ih =>
      intro s
      refine (ih _).trans ?_
      refine ((insG_perm s).append_right l).trans ?_
      rw [List.append_assoc]; exact List.Perm.refl _
  simpa using this []
end
section
variable {mode : Int} {names : List ByteArray} {a : List RowD}
theorem row_same (h : zT a = true) {q r : RowD} (hq : q ∈ a) (hr : r ∈ a) (e : q.ls = r.ls) : q = r := by
  obtain ⟨i, hi⟩ := List.getElem?_of_mem hq
  obtain ⟨j, hj⟩ := List.getElem?_of_mem hr
  obtain ⟨h1, e1⟩ := List.getElem?_eq_some_iff.1 hi
  obtain ⟨h2, e2⟩ := List.getElem?_eq_some_iff.1 hj
  have st := List.pairwise_iff_getElem.1 (zay.1 h).2.2
  rcases Nat.lt_trichotomy i j with hl | hl | hl
  · have := st i j h1 h2 hl; rw [e1, e2] at this
    have t : zM q.ls r.ls < 0 := this
    rw [e, zbE] at t; omega
  · subst hl; rw [← e1, ← e2]
  · have := st j i h2 h1 hl; rw [e1, e2] at this
    have t : zM r.ls q.ls < 0 := this
    rw [e, zbE] at t; omega
theorem a_nodup (h : zT a = true) : a.Nodup := (zay.1 h).2.2.imp (fun {p q} hc e => by
  subst e
  have t : zM p.ls p.ls < 0 := hc
  rw [zbE] at t; omega)
theorem g_sub {g : List RowD} (hg : g ∈ zu mode names a) : g.Sublist (zu mode names a).flatten := List.sublist_flatten_of_mem hg
theorem fl_nodup (h : zT a = true) : (zu mode names a).flatten.Nodup := by
  rw [zbv h]; exact (split_perm a).nodup_iff.2 (a_nodup h)
theorem g_nodup (h : zT a = true) {g : List RowD} (hg : g ∈ zu mode names a) : g.Nodup := (fl_nodup h).sublist (g_sub hg)
theorem g_one (h : zT a = true) {g g' : List RowD} (hg : g ∈ zu mode names a) (hg' : g' ∈ zu mode names a) {r : RowD} (h1 : r ∈ g) (h2 : r ∈ g') : g = g' := by
  rw [zbv h] at hg hg'
  have k1 := split_key (κ := kapB mode names) a g hg r h1
  have k2 := split_key (κ := kapB mode names) a g' hg' r h2
  obtain ⟨i, hi⟩ := List.getElem?_of_mem hg
  obtain ⟨j, hj⟩ := List.getElem?_of_mem hg'
  have ok := zcy (κ := kapB mode names) a
  rcases Nat.lt_trichotomy i j with hl | hl | hl
  · have := ok.pair hi hj hl; rw [← k1, ← k2, zbE] at this; omega
  · subst hl; rw [hi] at hj; injection hj
  · have := ok.pair hj hi hl; rw [← k1, ← k2, zbE] at this; omega
theorem topG_sub {n : Int} {g : List RowD} {r : RowD} (h : r ∈ topG n g) : r ∈ g := (zaW g).mem_iff.1 (List.mem_of_mem_take h)
theorem topG_len (n : Int) (g : List RowD) : (topG n g).length = min n.toNat g.length := by
  unfold topG; rw [List.length_take, (zaW g).length_eq]; omega
theorem topR_nodup (h : zT a = true) (n : Int) : (topR n (zu mode names a)).Nodup := by
  have hs : (topR n (zu mode names a)).Sublist ((zu mode names a).flatMap (fun g => zt grC g)) := by
    rw [topR_eq]
    generalize zu mode names a = G
    induction G with
    | nil => exact List.Sublist.slnil
    | cons g G ih => rw [List.flatMap_cons, List.flatMap_cons]; exact (List.take_sublist _ _).append ih
  refine List.Nodup.sublist hs ?_
  have hp : ((zu mode names a).flatMap (fun g => zt grC g)).Perm (zu mode names a).flatten := by
    generalize zu mode names a = G
    induction G with
    | nil => exact List.Perm.refl _
    | cons g G ih => rw [List.flatMap_cons, List.flatten_cons]; exact (zaW g).append ih
  exact hp.nodup_iff.2 (fl_nodup h)
theorem topR_mem {n : Int} {r : RowD} : r ∈ topR n (zu mode names a) ↔ ∃ g ∈ zu mode names a, r ∈ topG n g := by rw [topR_eq, List.mem_flatMap]
noncomputable def topS (n mode : Int) (names : List ByteArray) (a : List RowD) : List RowD := a.filter (fun r => decide (r ∈ topR n (zu mode names a)))
theorem topS_mem (h : zT a = true) {n : Int} {r : RowD} : r ∈ topS n mode names a ↔ r ∈ topR n (zu mode names a) := by
  unfold topS; rw [List.mem_filter, decide_eq_true_eq]
  refine ⟨fun h => h.2, fun hr => ⟨?_, hr⟩⟩
  obtain ⟨g, hg, hr'⟩ := topR_mem.1 hr
  exact (grp h hg).2.1 r (topG_sub hr')
theorem topS_right (h : zT a = true) (n : Int) : zT (topS n mode names a) = true := by
  have sub : (topS n mode names a).Sublist a := List.filter_sublist
  refine zdQ ?_ (fun r hr => zcb h r (sub.subset hr)) ((zay.1 h).2.2.sublist sub)
  have := sub.length_le; have := (zay.1 h).1; omega
theorem topS_perm (h : zT a = true) (n : Int) : (topR n (zu mode names a)).Perm (topS n mode names a) :=
  (List.perm_ext_iff_of_nodup (topR_nodup h n) ((a_nodup h).sublist List.filter_sublist)).2 (fun r => (topS_mem h).symm)
theorem gt_top (h : zT a = true) (n : Int) : gtE n mode names a = 0 ∧ gtL n mode names a = topS n mode names a := by
  have := rt_perm (topS_right (mode := mode) (names := names) h n) (topS_perm h n).symm
  unfold gtE gtL; rw [if_pos h, if_pos h]; exact ⟨this.2, this.1⟩
theorem zdq (h : zT a = true) {n : Int} {g : List RowD} (hg : g ∈ zu mode names a) {r : RowD} (hr : r ∈ g) : hasN ((topS n mode names a).map tx) (tx r) = true ↔ r ∈ topG n g := by
  have hra := (grp h hg).2.1 r hr
  rw [hasN_mem, List.mem_map]
  constructor
  · rintro ⟨q, hq, e⟩
    have hq1 := (topS_mem h).1 hq
    have hqa : q ∈ a := (List.mem_filter.1 hq).1
    have := text_inj (zdo (zcb h q hqa)).1 (zdo (zcb h r hra)).1 e
    obtain rfl := row_same h hqa hra this
    obtain ⟨g', hg', hr'⟩ := topR_mem.1 hq1
    rwa [g_one h hg hg' hr (topG_sub hr')]
  · exact fun ht => ⟨r, (topS_mem h).2 (topR_mem.2 ⟨g, hg, ht⟩), rfl⟩
theorem filter_take {L : List RowD} (h : L.Nodup) (m : Nat) : L.filter (fun r => decide (r ∈ L.take m)) = L.take m := by
  have e : L = L.take m ++ L.drop m := (List.take_append_drop m L).symm
  have hd : ∀ r ∈ L.drop m, r ∉ L.take m := fun r h1 h2 => by
    rw [e] at h; exact (List.nodup_append.1 h).2.2 r h2 r h1 rfl
  conv => lhs; arg 2; rw [e]
  rw [List.filter_append, List.filter_eq_self.2 (fun r hr => decide_eq_true hr), List.filter_eq_nil_iff.2 (fun r hr => by simpa using hd r hr), List.append_nil]
structure TopF (n m mode : Int) (names : List ByteArray) (a : List RowD) : Prop where
  f2 : ∀ g ∈ zu mode names a, ∀ r ∈ g, hasN ((gtL n mode names a).map tx) (tx r) = true → hasN ((gtL m mode names a).map tx) (tx r) = true
  f3 : ∀ g ∈ zu mode names a, ∀ r ∈ g, ∀ o ∈ g, hasN ((gtL n mode names a).map tx) (tx r) = true → hasN ((gtL n mode names a).map tx) (tx o) = false → ¬ r.v < o.v
  f4 : ∀ g ∈ zu mode names a, (((g.filter (fun r => hasN ((gtL n mode names a).map tx) (tx r))).length : Nat) : Int) = min n ((g.length : Nat) : Int)
  f5 : (topR n (zu mode names a)).length = (gtL n mode names a).length
  f6 : ∀ (i : Nat) (r : RowD), (gtL n mode names a)[i]? = some r → ¬ tx r ∈ ((gtL n mode names a).take i).map tx
  f7 : ∀ (i : Nat) (r : RowD), (gtL m mode names a)[i]? = some r → ¬ tx r ∈ ((gtL m mode names a).take i).map tx
  e1 : gtE n mode names a = 0
  e2 : gtE m mode names a = 0
  l1 : (gtL n mode names a).length ≤ a.length
  l2 : (gtL m mode names a).length ≤ a.length
  s1 : ∀ r ∈ gtL n mode names a, r ∈ a
  s2 : ∀ r ∈ gtL m mode names a, r ∈ a
theorem new_tx (h : zT a = true) {i : Nat} {r : RowD} (hr : a[i]? = some r) : ¬ tx r ∈ (a.take i).map tx := by
  intro hm
  obtain ⟨q, hq, e⟩ := List.mem_map.1 hm
  obtain ⟨j, hj⟩ := List.getElem?_of_mem hq
  have hji : j < i := by have := (List.getElem?_eq_some_iff.1 hj).1; rw [List.length_take] at this; omega
  rw [List.getElem?_take, if_pos hji] at hj
  have h1 := List.mem_of_getElem? hj
  have h2 := List.mem_of_getElem? hr
  have h3 := row_same h h1 h2 (text_inj (zdo (zcb h q h1)).1 (zdo (zcb h r h2)).1 e)
  subst h3
  obtain ⟨b1, e1⟩ := List.getElem?_eq_some_iff.1 hj
  obtain ⟨b2, e2⟩ := List.getElem?_eq_some_iff.1 hr
  have := (List.nodup_iff_pairwise_ne.1 (a_nodup h))
  exact List.pairwise_iff_getElem.1 this j i b1 b2 hji (by rw [e1, e2])
theorem topF (h : zT a = true) {n m : Int} (h1 : 1 ≤ n) (h2 : n ≤ m) : TopF n m mode names a := by
  have a1 := gt_top (mode := mode) (names := names) h n
  have a2 := gt_top (mode := mode) (names := names) h m
  have sb : ∀ k : Int, (topS k mode names a).Sublist a := fun k => List.filter_sublist
  refine ⟨fun g hg r hr => ?_, fun g hg r hr o ho => ?_, fun g hg => ?_, ?_, ?_, ?_, a1.1, a2.1, ?_, ?_, ?_, ?_⟩
  · rw [a1.2, a2.2, zdq h hg hr, zdq h hg hr]
    unfold topG
    intro ht
    exact List.mem_of_mem_take (i := min n.toNat g.length) (by rw [List.take_take, show min (min n.toNat g.length) (min m.toNat g.length) = min n.toNat g.length by omega]; exact ht)
  · rw [a1.2, zdq h hg hr]
    intro ht hf hlt
    have hno : ¬ o ∈ topG n g := fun hc => by have := (zdq h hg ho).2 hc; rw [this] at hf; cases hf
    unfold topG at ht hno
    have hoi : o ∈ zt grC g := (zaW g).mem_iff.2 ho
    rw [← List.take_append_drop (min n.toNat g.length) (zt grC g), List.mem_append] at hoi
    have hod := hoi.resolve_left hno
    have hs : Srt grC (zt grC g) := (zaj (zaa 2) _ g rfl).srt
    rw [← List.take_append_drop (min n.toNat g.length) (zt grC g)] at hs
    have := (List.pairwise_append.1 hs).2.2 r ht o hod
    unfold grC or2 cmpI at this
    rw [if_neg (show ¬ o.v < r.v by omega), if_pos hlt] at this
    simp at this
  · rw [a1.2]
    have e : g.filter (fun r => hasN ((topS n mode names a).map tx) (tx r)) = g.filter (fun r => decide (r ∈ topG n g)) := List.filter_congr (fun r hr => by
      rw [Bool.eq_iff_iff, zdq h hg hr, decide_eq_true_eq])
    rw [e]
    have hp := ((zaW (c := grC) g).filter (fun r => decide (r ∈ topG n g))).length_eq
    rw [← hp]
    have := filter_take (L := zt grC g) ((zaW g).nodup_iff.2 (g_nodup h hg)) (min n.toNat g.length)
    have hc : (zt grC g).filter (fun r => decide (r ∈ topG n g)) = (zt grC g).take (min n.toNat g.length) := this
    rw [hc, List.length_take, (zaW g).length_eq]; omega
  · rw [a1.2]; exact (topS_perm h n).length_eq
  · rw [a1.2]; exact fun i r hr => new_tx (topS_right h n) hr
  · rw [a2.2]; exact fun i r hr => new_tx (topS_right h m) hr
  · rw [a1.2]; exact (sb n).length_le
  · rw [a2.2]; exact (sb m).length_le
  · rw [a1.2]; exact fun r hr => (sb n).subset hr
  · rw [a2.2]; exact fun r hr => (sb m).subset hr
theorem topR_cnt {n : Int} {gs : List (List RowD)} {k : Nat} {x : List RowD} (hx : gs[k]? = some x) : (topR n (gs.take (k + 1))).length = (topR n (gs.take k)).length + min n.toNat x.length := by
  rw [topR_snoc hx, List.length_append]; exact congrArg _ (topG_len n x)
theorem filt_t {p : RowD → Bool} {g : List RowD} {j : Nat} {r : RowD} (hr : g[j]? = some r) (h : p r = true) : ((g.take (j + 1)).filter p).length = ((g.take j).filter p).length + 1 := by
  rw [zab hr, List.filter_append]; simp [h]
theorem filt_f {p : RowD → Bool} {g : List RowD} {j : Nat} {r : RowD} (hr : g[j]? = some r) (h : p r = false) : ((g.take (j + 1)).filter p).length = ((g.take j).filter p).length := by
  rw [zab hr, List.filter_append]; simp [h]
end
end Lp
/-
  ROWS OF THE CALL's OWN, SORTED BY THE LIBRARY (slices.SortFunc at structs, at any length).
-/
set_option linter.unusedVariables false
namespace Lp
open Go Go.RowKit Go.Sort Go.Proofs Go.Shelf
/-- the end of a call that owns nothing, as an equation of worlds -/
theorem world_eq {W w' : World} {F F' : Nat → Prop} (g : Good ⟨W, blks [], F⟩ [] w' F') : ∃ q os', w' = grow (W.drewN q) os' := by
  have hno : ∀ b, ¬ blks [] b := fun _ ⟨_, h, _⟩ => by cases h
  have hs : W.heap.size ≤ w'.heap.size := g.size
  have hd : W.drawn ≤ w'.drawn := g.drawn
  refine ⟨w'.drawn - W.drawn, w'.heap.extract W.heap.size w'.heap.size, ?_⟩
  have hh : w'.heap = W.heap ++ w'.heap.extract W.heap.size w'.heap.size := by
    apply Array.ext_getElem?
    intro k
    rw [Array.getElem?_append]
    split
    · rename_i hk; exact g.frame k hk (hno k)
    · rename_i hk
      rw [Array.getElem?_extract]
      split
      · congr 1; omega
      · rw [Array.getElem?_eq_none (by omega)]
  have e1 := g.os
  have e2 := g.tape
  have e3 := g.output
  cases w' with
  | mk heap tape drawn os output =>
    simp only at hh hd hs e1 e2 e3
    unfold grow World.drewN
    simp only
    rw [← hh, e1, e2, e3]
    congr 1
    omega
section
variable {w : World} {F : Nat → Prop}
/-- a row and the value that reads as it -/
abbrev RV (w : World) (F : Nat → Prop) : Type := {p : RowD × Value // D.rep w F (RowD.d p.1) p.2 ∧ One p.2 ∧ p.2.cells.size = 2}
theorem rv_of : ∀ {l : List RowD} {us : List Value}, RepE w F 2 (l.map RowD.d) us → ∃ ps : List (RV w F), ps.map (·.1.1) = l ∧ ps.map (·.1.2) = us
  | [], us, h => ⟨[], rfl, (h : us = []).symm⟩
  | x :: l, us, ⟨u, t, e, h1, h2, h3, h4⟩ => by
    obtain ⟨ps, e1, e2⟩ := rv_of h4
    exact ⟨⟨(x, u), h1, h2, h3⟩ :: ps, by simp [e1], by simp [e2, e]⟩
theorem rv_mk {w' : World} {F' : Nat → Prop} (kp : Keep w F w' F') : ∀ ps : List (RV w F), RepE w' F' 2 ((ps.map (·.1.1)).map RowD.d) (ps.map (·.1.2))
  | [] => rfl
  | p :: ps => ⟨_, _, rfl, D.keep kp _ _ p.2.1, p.2.2.1, p.2.2.2, rv_mk kp ps⟩
theorem rv_agg (p : RV w F) : Value.agg (vcs p.1.2).toArray = p.1.2 := by
  obtain ⟨⟨r, u⟩, h, _, _⟩ := p
  obtain ⟨vs, e, _⟩ := h
  simp only at e
  subst e
  simp [vcs, Value.cells]
abbrev encV (p : RV w F) : List Value := vcs p.1.2
theorem zdr (p : RV w F) : (encV p).length = 2 := by have := p.2.2.2; unfold encV vcs; simpa using this
theorem enc_one (p : RV w F) : ∀ v ∈ encV p, v.oneCell' = true := p.2.2.1
theorem flatK_list [Inhabited (RV w F)] (ps : List (RV w F)) : (flatK encV 2 ps.toArray).toList = (ps.map (·.1.2)).flatMap vcs := by
  apply List.ext_getElem?
  intro t
  have hl : ((ps.map (·.1.2)).flatMap vcs).length = ps.length * 2 := by
    have := zbx (cs := vcs) (z := 2) (xs := ps.map (·.1.2)) (fun x hx => by obtain ⟨p, _, rfl⟩ := List.mem_map.1 hx; exact zdr p)
    rw [this, List.length_map]
  by_cases ht : t < ps.length * 2
  · have hi : t / 2 < ps.length := by omega
    obtain ⟨p, hp⟩ := zy ps (t / 2) hi
    have hj : t % 2 < (encV p).length := by rw [zdr]; omega
    obtain ⟨u, hu⟩ := zy (encV p) (t % 2) hj
    have h1 := zb8 (cs := vcs) (n := 2) (xs := ps.map (·.1.2)) (fun x hx => by obtain ⟨p, _, rfl⟩ := List.mem_map.1 hx; exact zdr p) (t / 2) p.1.2 (by rw [List.getElem?_map, hp]; rfl) (t % 2) u hu
    rw [show t / 2 * 2 + t % 2 = t by omega] at h1
    rw [h1, Array.getElem?_toList]
    have hg := get_flatK encV 2 ps.toArray t (by simpa using ht)
    have hs : t < (flatK encV 2 ps.toArray).size := by simpa using ht
    rw [getElem!_pos _ t hs] at hg
    rw [Array.getElem?_eq_getElem hs, hg]
    have e1 : (ps.toArray[t / 2]!) = p := by
      rw [getElem!_pos ps.toArray (t / 2) (by simpa using hi)]
      have := (List.getElem?_eq_some_iff.1 hp).2
      simpa using this
    rw [e1, getElem!_pos (encV p) (t % 2) hj]
    exact congrArg some (List.getElem?_eq_some_iff.1 hu).2
  · rw [List.getElem?_eq_none (by simp; omega), List.getElem?_eq_none (by omega)]
end
theorem holds_cells {w : World} {g : Nat} {cur : Array Value} {e : TypeId} {d : Array Value} (hb : w.heap[g]? = some (.cells cur e (0, 0))) (ht : cur.toList.take d.size = d.toList) : Holds id w g 0 d := by
  intro j hj
  refine ⟨?_, by simp [World.frozen?, hb]⟩
  have h1 : (cur.toList.take d.size)[j]? = d.toList[j]? := by rw [ht]
  rw [List.getElem?_take_of_lt hj] at h1
  simp only [World.cell?, hb, Nat.zero_add]
  simp only [Option.isSome_none, Bool.false_eq_true, if_false]
  rw [← Array.getElem?_toList, h1]
  simp [hj]
theorem heap_put {w : World} {g n : Nat} {os : Array Obj} {cur : Array Value} {e : TypeId} {fr : Nat × Nat} (d : Array Value) (hb : w.heap[g]? = some (.cells cur e fr)) :
    (grow (putRow id (Sort.ahead w n) g 0 d) os).heap[g]? = some (.cells (putCells id 0 d cur) e fr) := by
  have hg : g < w.heap.size := (Array.getElem?_eq_some_iff.1 hb).1
  rw [heap_grow_old _ _ (by simpa using hg)]
  simp [putRow, mapBlock, Sort.ahead, Array.getElem?_modify, hb, onCells]
theorem upd_put {w : World} {g n : Nat} {os : Array Obj} (d : Array Value) : Upd g (g + 1) w (grow (putRow id (Sort.ahead w n) g 0 d) os) := by
  refine ⟨rfl, rfl, rfl, by simp, fun k hk hne => ?_, Nat.le_add_right _ _⟩
  rw [heap_grow_old _ _ (by simpa using hk)]
  have : g ≠ k := by omega
  simp [putRow, mapBlock, Sort.ahead, Array.getElem?_modify, this]
theorem take_put (cur d : Array Value) (h : d.size ≤ cur.size) : (putCells id 0 d cur).toList.take d.size = d.toList := by
  apply List.ext_getElem?
  intro j
  by_cases hj : j < d.size
  · rw [List.getElem?_take_of_lt hj, Array.getElem?_toList]
    simp [putCells, hj, show j < cur.size by omega]
  · rw [List.getElem?_take_eq_none (by omega), List.getElem?_eq_none (by simp; omega)]
theorem swo_of {α : Type} {c : α → α → Int} (h : Cmp c) : SWO (ltOf c) where
  irrefl x := by unfold ltOf; rw [h.self]; rfl
  trans x y z h1 h2 := by unfold ltOf at *; simp only [decide_eq_true_eq] at *; exact (h.tr x y z).lt1 h1 (by omega)
  ntrans x y z h1 h2 := by
    unfold ltOf at *; simp only [decide_eq_false_iff_not] at *
    have a := h.neg x y; have b := h.neg y z; have d := h.neg x z
    have := (h.tr z y x).le (by omega) (by omega)
    omega
theorem cmp_on {α β : Type} {c : α → α → Int} (h : Cmp c) (f : β → α) : Cmp (fun a b => c (f a) (f b)) := ⟨fun a b => h.neg _ _, fun a b d => h.tr _ _ _⟩
theorem grC_tot : Tot grC := ⟨zaa 2, fun a b h => by
  unfold grC or2 at h
  split at h
  · rename_i h1; exact absurd h h1
  · rename_i h1
    have h2 : cmpI b.v a.v = 0 := by omega
    have h3 : a.v = b.v := by unfold cmpI at h2; repeat' split at h2 <;> omega
    have h4 := zcN.1 h
    cases a; cases b; simp only at h3 h4; rw [h3, h4]⟩
theorem sorted_list {α : Type} [Inhabited α] {c : α → α → Int} (h : Cmp c) {d : Array α} (hs : SortedIn (ltOf c) 0 d.size d) : Srt c d.toList := by
  unfold Srt
  rw [List.pairwise_iff_getElem]
  intro i j hi hj hij
  have := hs i j (Nat.zero_le _) hij (by simpa using hj)
  rw [getElem!_pos d i (by simpa using hi), getElem!_pos d j (by simpa using hj)] at this
  unfold ltOf at this
  simp only [decide_eq_false_iff_not] at this
  have hn := h.neg (d[i]'(by simpa using hi)) (d[j]'(by simpa using hj))
  simp only [Array.getElem_toList]
  omega
theorem sortQ_cd {P : Program} {ρ : Ren} (L : SlLaysF0.n6 P ρ) (aE : ∀ w, (isAgg (ρ.t 24)).run P w = .ok true w) (zE : ∀ w, (Go.sizeOf (ρ.t 24)).run P w = .ok 2 w) {c : RowD → RowD → Int} (hT : Tot c) {gid : FuncId}
    (hg : ∀ a b : RowD, CD P gid [] [RowD.d a, RowD.d b] (isR (.v (.int .i64 (c a b))))) (eg : ∀ args w, (callFunc gid args).run P w = .ok (.enter gid args) w) (v : Value) (T : TypeId) (l : List RowD) (h0 : 0 < l.length) (hl : l.length ≤ 1000000) :
    CD P (ρ.f 6) [.sl v 2 T (l.map RowD.d)] [.ov v, .fn gid [] []] (fun r H' => r = .tup [] ∧ H' = [.sl v 2 T ((zt c l).map RowD.d)]) := by
  refine ⟨fun w F vs hr hF hH => ?_⟩
  obtain ⟨u, us', rfl, ⟨rfl, hu1⟩, u2, us2, rfl, ⟨q1, q2, rfl, hq1, hq2⟩, hr'⟩ := hr
  obtain rfl : us2 = [] := hr'
  obtain rfl : q1 = [] := hq1
  obtain rfl : q2 = [] := hq2
  have gd := Good.start hF hH
  obtain ⟨us, hu, ho⟩ := hH.ok _ List.mem_cons_self
  obtain ⟨ps, e1, e2⟩ := rv_of hu
  subst e2
  have hpl : ps.length = l.length := by rw [← e1, List.length_map]
  haveI : Inhabited (RV w F) := ⟨ps[0]'(by omega)⟩
  have ho1 := ho.1
  rw [List.length_map] at ho1
  rcases ho1.2 with ⟨_, hz⟩ | ⟨g, cap, cur, hv, hb, hgb, hnc, hmx, hsz, htake⟩
  · omega
  subst hv
  have hlt : g < w.heap.size := (Array.getElem?_eq_some_iff.1 hgb).1
  have hgF : ¬ F g := (hH.mine g ⟨_, List.mem_cons_self, rfl⟩).2
  have hC := cmp_on hT.cmp (fun p : RV w F => p.1.1)
  have hK : HoldsK encV 2 w g 0 ps.toArray := holds_cells hgb (by rw [flatK_list, size_flatK]; simpa using htake)
  have hcmp : CmpLays P gid #[] encV 2 (fun a b : RV w F => c a.1.1 b.1.1) g 0 ps.toArray.size w := by
    intro m os dk hs x y
    have kp : Keep w F (sortWorldK encV 2 w g 0 m dk os) F := ⟨fun _ h => h, fun b hb' hlt' => (upd_put (flatK encV 2 dk)).block b hlt' (by have : b ≠ g := fun e => hgF (e ▸ hb'); omega)⟩
    have hsz' : w.heap.size ≤ (sortWorldK encV 2 w g 0 m dk os).heap.size := (upd_put (flatK encV 2 dk)).size
    have hout := (hg x.1.1 y.1.1).out (sortWorldK encV 2 w g 0 m dk os) F [x.1.2, y.1.2] ⟨_, _, rfl, D.keep kp _ _ x.2.1, _, _, rfl, D.keep kp _ _ y.2.1, rfl⟩ (fun b hb' => Nat.lt_of_lt_of_le (hF b hb') hsz') HOk.empty
    have ea : (#[Value.agg (encV x).toArray, Value.agg (encV y).toArray] ++ #[] : Array Value) = [x.1.2, y.1.2].toArray := by rw [rv_agg x, rv_agg y]; rfl
    rw [ea]
    refine hout.mono fun e w' he => ?_
    obtain ⟨u, rfl, F', d, H', ⟨rfl, rfl⟩, hrep, gg⟩ := he
    obtain rfl : u = _ := hrep
    exact ⟨rfl, world_eq gg⟩
  have hlist : [Value.slice (some ⟨g, 0, none⟩) ps.length cap, Value.func (.func gid) #[] #[]].toArray = #[Value.slice (some ⟨g, 0, none⟩) ps.toArray.size cap, Value.func (.func gid) #[] #[]] := by simp
  rw [show ([Value.slice (some ⟨g, 0, none⟩) ps.length cap, Value.func (.func gid) ([] : List Value).toArray ([] : List Value).toArray] : List Value).toArray = #[Value.slice (some ⟨g, 0, none⟩) ps.toArray.size cap, Value.func (.func gid) #[] #[]] from hlist]
  refine (AnyQ.slices_SortFunc L 2 aE zE encV zdr enc_one _ (swo_of hC) gid #[] g 0 cap ps.toArray w eg hcmp hK hlt (by simp; omega)).mono fun e w' he => ?_
  obtain ⟨rfl, d', n, os, hperm, hsort, rfl⟩ := he
  have hds : d'.size = ps.length := by have := hperm.1; simpa using this
  have hpp : d'.toList.Perm ps := by
    have := hperm.2.2
    rw [show ps.toArray.size = d'.size by rw [hds]; simp] at this
    rw [Array.extract_size] at this
    rw [show (ps.toArray.extract 0 d'.size) = ps.toArray by rw [hds]; simp] at this
    simpa using this
  have hsrt := sorted_list hC (d := d') (by rw [show ps.toArray.size = d'.size by rw [hds]; simp] at hsort; exact hsort)
  have hres : d'.toList.map (fun p : RV w F => p.1.1) = zt c l := by
    refine srt_uniq hT ?_ (zaj hT.cmp _ l rfl).srt ?_
    · unfold Srt at hsrt ⊢; rw [List.pairwise_map]; exact hsrt
    · refine (hpp.map _).trans ?_
      rw [e1]; exact (zaW l).symm
  have U : Upd g (g + 1) w (sortWorldK encV 2 w g 0 n d' os) := upd_put (flatK encV 2 d')
  have hfl : (flatK encV 2 d').toList = (d'.toList.map (fun p : RV w F => p.1.2)).flatMap vcs := by have := flatK_list d'.toList; simpa using this
  have hfs : (flatK encV 2 d').size = ps.length * 2 := by rw [size_flatK, hds]
  have hhp : (sortWorldK encV 2 w g 0 n d' os).heap[g]? = some (.cells (putCells id 0 (flatK encV 2 d') cur) T (0, 0)) := heap_put (flatK encV 2 d') hgb
  have key := gd.turn (i := 0) (h' := .sl (.slice (some ⟨g, 0, none⟩) ps.length cap) 2 T ((zt c l).map RowD.d)) rfl (fun b hb' hn => U.block b hb' (by have : b ≠ g := fun e => hn (by subst e; rfl); omega)) U.size U.os U.tape U.output U.drawn (fun b e => .inl e) (fun kp => ⟨_, by rw [← hres]; exact rv_mk kp d'.toList, by
    refine ⟨?_, fun x hx => by obtain ⟨p, _, rfl⟩ := List.mem_map.1 hx; exact zdr p⟩
    rw [List.length_map, show d'.toList.length = ps.length by simpa using hds]
    show (sortWorldK encV 2 w g 0 n d' os).ownsRow 0 T 2 (.slice (some ⟨g, 0, none⟩) ps.length cap) ps.length _
    refine ⟨?_, .inr ⟨g, cap, _, rfl, Nat.zero_le _, hhp, hnc, hmx, by simp [putCells]; simpa using hsz, ?_⟩⟩
    · rw [← hfl, Array.length_toList, hfs]
    · rw [← hfl, ← hfs]; exact take_put _ _ (by rw [hfs]; have : ps.length * 2 ≤ cap * 2 := Nat.mul_le_mul_right 2 hnc; omega)⟩)
  exact ⟨_, rfl, F, _, _, ⟨rfl, rfl⟩, ⟨[], rfl, rfl⟩, key.1⟩
end Lp
/-
  DERIVED: THE SHELF's CONTRACTS AT THIS DUMP, IN PLAIN WORDS (tools/lay-plain.mjs out of 'YtfjinapgehafiaaGreatShelfQ.lean', which tools/lay-shelf.mjs wrote): THE SAME DECLARATIONS UNDER THE SAME NAMES: 'import', 'namespace', 'open', 'def', 'theorem' AND NOTHING ELSE: no command of the shelf's: FOR A HAND-IN. Each laying: the table of numbers ('.._ren') and one theorem, a field a fact of the dump's own or the kernel's comparison; each contract: ONE APPLICATION.
-/
namespace Go.Proofs
open Go.Shelf
def Tryz.sortRow_ren : Go.Shelf.Ren := ⟨fun | 6 => 100 | 15 => 145 | 14 => 144 | 28 => 181 | 29 => 182 | 20 => 161 | 21 => 174 | 22 => 175 | 23 => 176 | 24 => 177 | 25 => 178 | 26 => 179 | 27 => 180 | 46 => 197 | 47 => 198 | 48 => 199 | 49 => 200 | 50 => 201 | 57 => 211 | n => n, fun | 22 => 22 | 24 => 53 | 25 => 71 | 3 => 3 | 39 => 165 | 0 => 0 | 53 => 205 | 55 => 207 | 4 => 4 | 46 => 199 | 45 => 198 | 50 => 108 | 5 => 5 | 9 => 9 | 66 => 214 | 70 => 218 | 76 => 226 | 77 => 227 | n => n, fun | n => n⟩
theorem Tryz.sortRow : Go.Proofs.SlLaysF0.n6 Tryz.prog Tryz.sortRow_ren := {
  mixed := by kernel_rfl
  f6 := ⟨Tryz.f100.name, by decide, Tryz.func100.trans (congrArg some (by kernel_rfl))⟩
  f14 := ⟨Tryz.f144.name, by decide, Tryz.func144.trans (congrArg some (by kernel_rfl))⟩
  f15 := Tryz.func145.trans (congrArg some (by kernel_rfl))
  f20 := ⟨Tryz.f161.name, by decide, Tryz.func161.trans (congrArg some (by kernel_rfl))⟩
  f21 := ⟨Tryz.f174.name, by decide, Tryz.func174.trans (congrArg some (by kernel_rfl))⟩
  f22 := ⟨Tryz.f175.name, by decide, Tryz.func175.trans (congrArg some (by kernel_rfl))⟩
  f23 := ⟨Tryz.f176.name, by decide, Tryz.func176.trans (congrArg some (by kernel_rfl))⟩
  f24 := ⟨Tryz.f177.name, by decide, Tryz.func177.trans (congrArg some (by kernel_rfl))⟩
  f25 := ⟨Tryz.f178.name, by decide, Tryz.func178.trans (congrArg some (by kernel_rfl))⟩
  f26 := ⟨Tryz.f179.name, by decide, Tryz.func179.trans (congrArg some (by kernel_rfl))⟩
  f27 := ⟨Tryz.f180.name, by decide, Tryz.func180.trans (congrArg some (by kernel_rfl))⟩
  f28 := Tryz.func181.trans (congrArg some (by kernel_rfl))
  f29 := Tryz.func182.trans (congrArg some (by kernel_rfl))
  f46 := ⟨Tryz.f197.name, by decide, Tryz.func197.trans (congrArg some (by kernel_rfl))⟩
  f47 := Tryz.func198.trans (congrArg some (by kernel_rfl))
  f48 := Tryz.func199.trans (congrArg some (by kernel_rfl))
  f49 := ⟨Tryz.f200.name, by decide, Tryz.func200.trans (congrArg some (by kernel_rfl))⟩
  f50 := ⟨Tryz.f201.name, by decide, Tryz.func201.trans (congrArg some (by kernel_rfl))⟩
  f57 := ⟨Tryz.f211.name, by decide, Tryz.func211.trans (congrArg some (by kernel_rfl))⟩
  t0 := Tryz.underlying0
  a0 := Tryz.isAgg0
  z0 := Tryz.sizeOf0
  v0 := Tryz.zeroValue0
  t3 := Tryz.underlying3
  a3 := Tryz.isAgg3
  z3 := Tryz.sizeOf3
  v3 := Tryz.zeroValue3
  t4 := Tryz.underlying4
  a4 := Tryz.isAgg4
  z4 := Tryz.sizeOf4
  v4 := Tryz.zeroValue4
  t5 := Tryz.underlying5
  a5 := Tryz.isAgg5
  z5 := Tryz.sizeOf5
  v5 := Tryz.zeroValue5
  t9 := Tryz.underlying9
  a9 := Tryz.isAgg9
  z9 := Tryz.sizeOf9
  v9 := Tryz.zeroValue9
  t22 := Tryz.underlying22
  a22 := Tryz.isAgg22
  z22 := Tryz.sizeOf22
  v22 := Tryz.zeroValue22
  t25 := Tryz.underlying71
  a25 := Tryz.isAgg71
  z25 := Tryz.sizeOf71
  v25 := Tryz.zeroValue71
  t39 := Tryz.underlying165
  a39 := Tryz.isAgg165
  z39 := Tryz.sizeOf165
  v39 := Tryz.zeroValue165
  t45 := Tryz.underlying198
  a45 := Tryz.isAgg198
  z45 := Tryz.sizeOf198
  v45 := Tryz.zeroValue198
  t46 := Tryz.underlying199
  a46 := Tryz.isAgg199
  z46 := Tryz.sizeOf199
  v46 := Tryz.zeroValue199
  t50 := Tryz.underlying108
  a50 := Tryz.isAgg108
  z50 := Tryz.sizeOf108
  v50 := Tryz.zeroValue108
  t53 := Tryz.underlying205
  a53 := Tryz.isAgg205
  z53 := Tryz.sizeOf205
  v53 := Tryz.zeroValue205
  t55 := Tryz.underlying207
  a55 := Tryz.isAgg207
  z55 := Tryz.sizeOf207
  v55 := Tryz.zeroValue207
  t66 := Tryz.underlying214
  a66 := Tryz.isAgg214
  z66 := Tryz.sizeOf214
  v66 := Tryz.zeroValue214
  t70 := Tryz.underlying218
  a70 := Tryz.isAgg218
  z70 := Tryz.sizeOf218
  v70 := Tryz.zeroValue218
  t76 := Tryz.underlying226
  a76 := Tryz.isAgg226
  z76 := Tryz.sizeOf226
  v76 := Tryz.zeroValue226
  t77 := Tryz.underlying227
  a77 := Tryz.isAgg227
  z77 := Tryz.sizeOf227
  v77 := Tryz.zeroValue227 }
end Go.Proofs
