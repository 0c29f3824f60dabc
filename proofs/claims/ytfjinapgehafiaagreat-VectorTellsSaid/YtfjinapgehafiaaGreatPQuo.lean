/-
  What is said of vectors (chapter 10): keys, sums, sizes, contraries.
-/
import Derived.Test.YtfjinapgehafiaaGreatV68
set_option linter.unusedVariables false
namespace Lp
open Go
/-! ### sizes -/
theorem nodup_le {α : Type} [DecidableEq α] : ∀ {a b : List α}, a.Nodup → (∀ x ∈ a, x ∈ b) → a.length ≤ b.length
  | [], b, _, _ => Nat.zero_le _
  | x :: a, b, h, hs => by
    rw [List.nodup_cons] at h
    have hx := hs x List.mem_cons_self
    have := nodup_le (a := a) (b := b.erase x) h.2 (fun y hy => by
      have hne : y ≠ x := fun e => h.1 (by rw [← e]; exact hy)
      exact (List.mem_erase_of_ne hne).2 (hs y (List.mem_cons_of_mem _ hy)))
    rw [List.length_erase_of_mem hx] at this
    have hp := List.length_pos_of_mem hx
    simp only [List.length_cons]; omega
theorem hasN_mem {ns : List ByteArray} {n : ByteArray} : hasN ns n = true ↔ n ∈ ns := by
  unfold hasN; rw [List.any_eq_true]
  exact ⟨fun ⟨x, hx, e⟩ => by rw [← of_decide_eq_true e]; exact hx, fun h => ⟨n, h, decide_eq_true rfl⟩⟩
theorem match_len (op : ByteArray) (a b : List RowD) (mode : Int) (ns : List ByteArray) : (zp op a b mode ns).length ≤ a.length ∧ (zp op a b mode ns).length ≤ b.length := by
  unfold zp
  split
  · split
    · rename_i hn
      split
      · have h1 := rt_len (zbM op mode ns b a)
        have h2 : (zbM op mode ns b a).length ≤ b.length := by
          -- those that are matched have different keys, which b has
          have hl : ∀ m : List RowD, (m.filterMap (zbr op mode ns b)).length ≤ (m.filter (fun r => hasN (zaF mode ns b) (keyT mode ns r))).length := by
            intro m
            induction m with
            | nil => exact Nat.le_refl _
            | cons r m ih =>
              by_cases hk : keyT mode ns r ∈ zaF mode ns b
              · rw [List.filter_cons_of_pos (p := fun r => hasN (zaF mode ns b) (keyT mode ns r)) (hasN_mem.2 hk), List.filterMap_cons]
                split
                · simp only [List.length_cons]; omega
                · simp only [List.length_cons]; omega
              · rw [List.filter_cons_of_neg (p := fun r => hasN (zaF mode ns b) (keyT mode ns r)) (fun h => hk (hasN_mem.1 h)), List.filterMap_cons_none (maF_none (op := op) hk).2]; exact ih
          refine Nat.le_trans (hl a) ?_
          have := nodup_le (a := (a.filter (fun r => hasN (zaF mode ns b) (keyT mode ns r))).map (keyT mode ns)) (b := zaF mode ns b) (List.Pairwise.sublist ((List.filter_sublist).map _) hn.1) (fun t ht => by
            obtain ⟨r, hr, e⟩ := List.mem_map.1 ht
            rw [← e]; exact hasN_mem.1 (List.mem_filter.1 hr).2)
          rw [List.length_map] at this
          unfold zaF at this
          rwa [List.length_map] at this
        exact ⟨Nat.le_trans h1 (maOut_len _ _ _ _ _), Nat.le_trans h1 h2⟩
      · exact ⟨Nat.zero_le _, Nat.zero_le _⟩
    · exact ⟨Nat.zero_le _, Nat.zero_le _⟩
  · exact ⟨Nat.zero_le _, Nat.zero_le _⟩
theorem scale_len (op : ByteArray) (a : List RowD) (v : Int) (left : Bool) : (zb op a v left).length ≤ a.length := by
  unfold zb
  split
  · split
    · exact Nat.le_trans (rt_len _) (scOut_len _ _ _ _)
    · exact Nat.zero_le _
  · exact Nat.zero_le _
theorem rt_mem {l : List RowD} {x : RowD} (h : x ∈ rtL l) : x ∈ l := by
  rcases rt_cases l with ⟨_, _, hp⟩ | ⟨_, e⟩
  · exact hp.mem_iff.1 h
  · rw [e] at h; cases h
theorem matchLZ {op : ByteArray} {a b : List RowD} {mode : Int} {ns : List ByteArray} (h : LZ a) : LZ (zp op a b mode ns) := fun x hx => by
  unfold zp at hx
  split at hx
  · split at hx
    · split at hx
      · have hx := rt_mem hx
        unfold zbM at hx
        obtain ⟨r, hr, e⟩ := List.mem_filterMap.1 hx
        unfold zbr at e
        split at e
        · cases e
        · split at e
          · split at e
            · injection e with e; rw [← e]; exact h r hr
            · cases e
          · injection e with e; rw [← e]; exact h.key hr mode ns
      · cases hx
    · cases hx
  · cases hx
end Lp
/-
  The document's own reckoning with rows (chapter 10): it comes to the same as the program's.
-/
set_option linter.unusedVariables false
namespace Lp
open Go
/-! ### keys -/
theorem key2_eq (names : List ByteArray) (l : List Lbl) : zaQ l ([metB] ++ names) false = keyL 2 names l := by
  show _ = zaQ (zaQ l names false) [metB] false
  unfold zaQ
  rw [List.filter_filter]
  congr 1; funext x
  unfold hasN
  rw [List.any_append]
  cases List.any [metB] (fun y => decide (y = x.n)) <;> cases List.any names (fun y => decide (y = x.n)) <;> rfl
/-! ### right -/
theorem rr_bad {l : List RowD} (h : ¬ rtE l = 0) : false = zT l := by
  cases hv : zT l
  · rfl
  · exact absurd (rt_self hv).2 h
theorem rr_ne {l : List RowD} {i : Nat} {x y : RowD} (hx : (rtL l)[i]? = some x) (hy : l[i]? = some y) (h : ¬ z1 x.ls y.ls = 0) : false = zT l := by
  cases hv : zT l
  · rfl
  · rw [(rt_self hv).1, hy] at hx; injection hx with hx; subst hx
    exact absurd (cmpLs_self _) h
theorem rr_len {l : List RowD} (h : rtE l = 0) : (rtL l).length = l.length := (rt_strict h).2.length_eq
theorem rr_ok {l : List RowD} (h : rtE l = 0) {i : Nat} (hi : l.length ≤ i) (hs : ((rtL l).map (·.ls)).take i = (l.map (·.ls)).take i) : true = zT l := by
  have hl := rr_len h
  rw [List.take_of_length_le (by rw [List.length_map]; omega), List.take_of_length_le (by rw [List.length_map]; omega)] at hs
  obtain ⟨h1, h2⟩ := rt_rows h
  refine (zaH.2 ⟨h1, h2, ?_⟩).symm
  have hst := (rt_strict h).1
  have key : ∀ m : List RowD, zaI cL m ↔ (m.map (·.ls)).Pairwise (fun a b => z1 a b < 0) := fun m => by rw [List.pairwise_map]; exact Iff.rfl
  rw [key] at hst ⊢
  rwa [hs] at hst
theorem rr_next {l : List RowD} {i : Nat} {x y : RowD} (hs : ((rtL l).map (·.ls)).take i = (l.map (·.ls)).take i) (hx : (rtL l)[i]? = some x) (hy : l[i]? = some y) (h : z1 x.ls y.ls = 0) : ((rtL l).map (·.ls)).take (i + 1) = (l.map (·.ls)).take (i + 1) := by
  have e1 : ((rtL l).map (·.ls))[i]? = some x.ls := by rw [List.getElem?_map, hx]; rfl
  have e2 : (l.map (·.ls))[i]? = some y.ls := by rw [List.getElem?_map, hy]; rfl
  rw [z0 e1, z0 e2, hs, zdf.1 h]
/-! ### what comes of numbers that may be may be -/
theorem do_right {op : ByteArray} {a b : Int} (h : (doE op a b).2 = 0) : zU (doE op a b).1 = true := by
  by_cases hab : zU a = false ∨ zU b = false
  · rw [do_bad (by rcases hab with h | h; exact .inl h; exact .inr (.inl h))] at h; cases h
  have ha : zU a = true := by cases e : zU a; exact absurd (.inl e) hab; rfl
  have hb : zU b = true := by cases e : zU b; exact absurd (.inr e) hab; rfl
  have hw : ∀ v, (zaO v).2 = 0 → zU (zaO v).1 = true := fun v hv => by
    unfold zaO at hv ⊢
    split at hv
    · rename_i h1; rw [if_pos h1]; exact h1
    · cases hv
  by_cases ho : opB op = true
  · rw [opB_eq] at ho
    simp only [Bool.or_eq_true, decide_eq_true_eq] at ho
    rcases ho with ((((ho | ho) | ho) | ho) | ho) | ho
    · rw [do_cmp ho ha hb]; split <;> decide
    · rw [do_add ha hb ho] at h ⊢; exact hw _ h
    · rw [do_sub ha hb ho] at h ⊢; exact hw _ h
    · rw [do_mul ha hb ho] at h ⊢
      unfold zbV at h
      split at h
      · cases h
      · rename_i h1; rw [(times_ok h1).1]; exact (times_ok h1).2
    · rw [do_quo ha hb ho]; split
      · decide
      · exact rV_quo ha
    · rw [do_rem ha hb ho]; split
      · decide
      · rw [← rem_eq]; exact rV_rem ha
  · rw [do_bad (.inr (.inr (by simpa using ho)))] at h; cases h
theorem rows_out {l out : List RowD} (f : RowD → Option RowD) (ho : out = l.filterMap f) (h : ∀ r ∈ l, ∀ y, f r = some y → za1 y = true) (hl : l.length ≤ 2000) : ordL out = rtL out ∧ ordE out = rtE out := by
  subst ho
  refine zd6 (by have := List.length_filterMap_le f l; omega) (zcX.2 (fun y hy => ?_))
  obtain ⟨r, hr, e⟩ := List.mem_filterMap.1 hy
  exact h r hr y e
theorem scOne_ok {op : ByteArray} {v : Int} {left : Bool} {r y : RowD} (hr : za1 r = true) (h : zbL op v left r = some y) (h0 : (scF op v left r).2 = 0) : za1 y = true := by
  unfold zbL at h
  split at h
  · split at h
    · injection h with h; rw [← h]; exact hr
    · cases h
  · injection h with h
    rw [← h]
    refine zdw (right_key (okRow_r hr).1 0 []) ?_
    unfold scF at h0 ⊢
    split <;> rename_i hl
    · rw [if_pos hl] at h0; exact do_right h0
    · rw [if_neg hl] at h0; exact do_right h0
theorem sc_ord {op : ByteArray} {v : Int} {left : Bool} {l : List RowD} {k : Nat} (hg : zbi op v l = true) (h0 : zaD (scF op v left) (l.take k) = 0) (hk : l.length ≤ k) : ordL (zcd op v left (l.take k)) = zb op l v left ∧ ordE (zcd op v left (l.take k)) = zX op l v left := by
  have h := zeq (left := left) hg h0 hk
  have hv : zT l = true := by unfold zbi at hg; simp only [Bool.and_eq_true] at hg; exact hg.2.1
  rw [List.take_of_length_le hk] at h h0 ⊢
  obtain ⟨e1, e2⟩ := rows_out (out := zcd op v left l) (zbL op v left) rfl (fun r hr y hy => scOne_ok (zcM hv r hr) hy (firstE_0.1 h0 r hr)) (zaH.1 hv).1
  rw [e1, e2]; exact h
theorem maOne_ok {op : ByteArray} {mode : Int} {ns : List ByteArray} {b : List RowD} {r y : RowD} (hr : za1 r = true) (h : zbr op mode ns b r = some y) (h0 : (maF op mode ns b r).2 = 0) : za1 y = true := by
  unfold zbr at h
  split at h
  · cases h
  · rename_i q hq
    split at h
    · split at h
      · injection h with h; rw [← h]; exact hr
      · cases h
    · injection h with h
      rw [← h]
      refine zdw (right_key (okRow_r hr).1 mode ns) ?_
      rw [zaA hq] at h0
      exact do_right h0
theorem ma_ord {op : ByteArray} {a b : List RowD} {mode : Int} {ns : List ByteArray} {k : Nat} (hg : zbl op a b = true) (hn : ndT mode ns a ∧ ndT mode ns b) (h0 : zaD (maF op mode ns b) (a.take k) = 0) (hk : a.length ≤ k) :
    ordL (zbM op mode ns b (a.take k)) = zp op a b mode ns ∧ ordE (zbM op mode ns b (a.take k)) = zac op a b mode ns := by
  have h := zeu hg hn h0 hk
  have hv : zT a = true := by unfold zbl at hg; simp only [Bool.and_eq_true] at hg; exact hg.2.1
  rw [List.take_of_length_le hk] at h h0 ⊢
  obtain ⟨e1, e2⟩ := rows_out (out := zbM op mode ns b a) (zbr op mode ns b) rfl (fun r hr y hy => maOne_ok (zcM hv r hr) hy (firstE_0.1 h0 r hr)) (zaH.1 hv).1
  rw [e1, e2]; exact h
/-! ### keys of rows, as rows -/
def krow (mode : Int) (ns : List ByteArray) (r : RowD) : RowD := ⟨keyL mode ns r.ls, 0⟩
theorem krow_snoc {mode : Int} {ns : List ByteArray} {l o : List RowD} {k : Nat} {x : RowD} (hx : l[k]? = some x) (ho : o = (l.take k).map (krow mode ns)) : o ++ [RowD.mk (keyL mode ns x.ls) 0] = (l.take (k + 1)).map (krow mode ns) := by
  rw [z0 hx, List.map_append, ho]; rfl
theorem krow_get {mode : Int} {ns : List ByteArray} {l : List RowD} {k : Nat} {x y : RowD} (hx : l[k]? = some x) (hy : (l.map (krow mode ns))[k]? = some y) : y = ⟨keyL mode ns x.ls, 0⟩ := by
  rw [List.getElem?_map, hx] at hy; injection hy with hy; exact hy.symm
theorem ordE_nd {l : List RowD} : ordE l = 0 ↔ (l.map (·.ls)).Nodup := by
  have hp := zc6 (c := cL) l
  constructor
  · intro h
    have hb : ordB l = true := by
      cases e : ordB l
      · unfold ordE at h; rw [e] at h; cases h
      · rfl
    have hst : zaI cL (zR cL l) := by unfold zaI; unfold ordB at hb; exact of_decide_eq_true hb
    exact (hp.map (·.ls)).nodup_iff.1 (strict_ls hst)
  · intro h
    have hn : ((zR cL l).map (·.ls)).Nodup := (hp.map (·.ls)).nodup_iff.2 h
    rw [List.Nodup, List.pairwise_map] at hn
    have hs : Srt cL (zR cL l) := (zaB zdE _ l rfl).srt
    have hst : (zR cL l).Pairwise (fun a b => cL a b < 0) := List.Pairwise.imp (fun {x y} ⟨p, q⟩ => by
      have : cL x y ≠ 0 := fun e => q (zdf.1 e)
      have p' : cL x y ≤ 0 := p
      omega) (List.Pairwise.and hs hn)
    unfold ordE; rw [show ordB l = true from decide_eq_true hst]; rfl
theorem krow_nd {mode : Int} {ns : List ByteArray} {a : List RowD} (h : zT a = true) : ordE (a.map (krow mode ns)) = 0 ↔ ndT mode ns a := by
  rw [ordE_nd, nd_of_keys (zcM h), List.map_map]; exact Iff.rfl
/-! ### the one with the same key -/
theorem find_no {mode : Int} {ns : List ByteArray} {b : List RowD} {t : ByteArray} {k : Nat} {y : RowD} (hy : b[k]? = some y) (h : ¬ keyT mode ns y = t) : zbH mode ns t (b.take (k + 1)) = zbH mode ns t (b.take k) := by
  unfold zbH; rw [z0 hy, List.find?_append]; simp [h]
theorem find_yes {mode : Int} {ns : List ByteArray} {b : List RowD} {t : ByteArray} {k : Nat} {y : RowD} (hn : ndT mode ns b) (hy : b[k]? = some y) (h : keyT mode ns y = t) : zbH mode ns t (b.take k) = none ∧ zbH mode ns t (b.take (k + 1)) = some y ∧ zbH mode ns t b = some y := by
  have h1 : zbH mode ns t (b.take k) = none := by
    refine findT_none (fun hm => ?_)
    unfold ndT zaF at hn
    have e : b.map (keyT mode ns) = (b.take k).map (keyT mode ns) ++ keyT mode ns y :: (b.drop (k + 1)).map (keyT mode ns) := by
      rw [← List.map_cons, ← List.map_append, ← zat hy, List.take_append_drop]
    rw [e, List.nodup_append] at hn
    exact hn.2.2 t hm (keyT mode ns y) List.mem_cons_self h.symm
  refine ⟨h1, ?_, ?_⟩
  · unfold zbH at h1 ⊢; rw [z0 hy, List.find?_append, h1]; simp [h]
  · rw [← h]; exact find_self hn (zav hy)
/-- what has come of a row, as far as the other vector has been looked through -/
structure MaK (op : ByteArray) (mode : Int) (ns : List ByteArray) (b : List RowD) (o0 : List RowD) (r : RowD) (k : Nat) (o : List RowD) : Prop where
  o : o = o0 ++ (zbr op mode ns (b.take k) r).toList
  e : (maF op mode ns (b.take k) r).2 = 0
theorem MaK.zero (op : ByteArray) (mode : Int) (ns : List ByteArray) (b o0 : List RowD) (r : RowD) : MaK op mode ns b o0 r 0 o0 := ⟨by unfold zbr zbH; simp, rfl⟩
section
variable {op : ByteArray} {mode : Int} {ns : List ByteArray} {b o0 o : List RowD} {r y : RowD} {k : Nat}
theorem MaK.skip (h : MaK op mode ns b o0 r k o) (hy : b[k]? = some y) (hk : ¬ keyT mode ns y = keyT mode ns r) : MaK op mode ns b o0 r (k + 1) o := by
  obtain ⟨h1, h2⟩ := h
  have e := find_no (mode := mode) (ns := ns) hy hk
  refine ⟨?_, ?_⟩
  · unfold zbr at h1 ⊢; rw [e]; exact h1
  · unfold maF at h2 ⊢; rw [e]; exact h2
theorem MaK.base (h : MaK op mode ns b o0 r k o) (hn : ndT mode ns b) (hy : b[k]? = some y) (hk : keyT mode ns y = keyT mode ns r) : o = o0 ∧ zbH mode ns (keyT mode ns r) (b.take (k + 1)) = some y ∧ zbH mode ns (keyT mode ns r) b = some y := by
  obtain ⟨e1, e2, e3⟩ := find_yes hn hy hk
  have h1 := h.o
  unfold zbr at h1; rw [e1] at h1
  exact ⟨by simpa using h1, e2, e3⟩
theorem MaK.add {z : RowD} (h : MaK op mode ns b o0 r k o) (hn : ndT mode ns b) (hy : b[k]? = some y) (hk : keyT mode ns y = keyT mode ns r) (he : (doE op r.v y.v).2 = 0) (hz : zbr op mode ns (b.take (k + 1)) r = some z) : MaK op mode ns b o0 r (k + 1) (o ++ [z]) := by
  obtain ⟨e0, e1, e2⟩ := h.base hn hy hk
  refine ⟨by rw [hz, e0]; rfl, ?_⟩
  rw [zaA e1]; exact he
theorem MaK.not (h : MaK op mode ns b o0 r k o) (hn : ndT mode ns b) (hy : b[k]? = some y) (hk : keyT mode ns y = keyT mode ns r) (he : (doE op r.v y.v).2 = 0) (hz : zbr op mode ns (b.take (k + 1)) r = none) : MaK op mode ns b o0 r (k + 1) o := by
  obtain ⟨e0, e1, e2⟩ := h.base hn hy hk
  refine ⟨by rw [hz, e0]; simp, ?_⟩
  rw [zaA e1]; exact he
theorem MaK.done {a : List RowD} {i : Nat} (h : MaK op mode ns b o0 r k o) (hk : b.length ≤ k) (hx : a[i]? = some r) (h0 : o0 = zbM op mode ns b (a.take i)) (he : zaD (maF op mode ns b) (a.take i) = 0) : o = zbM op mode ns b (a.take (i + 1)) ∧ zaD (maF op mode ns b) (a.take (i + 1)) = 0 := by
  obtain ⟨h1, h2⟩ := h
  rw [List.take_of_length_le hk] at h1 h2
  refine ⟨?_, zak hx he h2⟩
  cases hm : zbr op mode ns b r with
  | none => rw [maOut_not hx hm, h1, hm, h0]; simp
  | some z => rw [maOut_add hx hm, h1, hm, h0]; rfl
end
theorem key_cmp {mode : Int} {ns : List ByteArray} {q r : RowD} (hq : za1 q = true) (hr : za1 r = true) : z1 (keyL mode ns r.ls) (keyL mode ns q.ls) = 0 ↔ keyT mode ns q = keyT mode ns r := by
  rw [zdf, key_eq hq hr]; exact eq_comm
end Lp
/-
  The document's own quotation marks and texts of labels, as plain data.
-/
set_option linter.unusedVariables false
namespace Lp
open Go
theorem hasN_snoc {ns : List ByteArray} {n y : ByteArray} {k : Nat} (h : ns[k]? = some y) : hasN (ns.take (k + 1)) n = (hasN (ns.take k) n || decide (y = n)) := by
  rw [z0 h]; unfold hasN; rw [List.any_append]; simp
end Lp
