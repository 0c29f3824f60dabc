/-
  What is said of vectors (chapter 10), as plain data.
-/
import Derived.Test.YtfjinapgehafiaaV2
set_option linter.unusedVariables false
namespace Lp
open Go
/-! ### rows that may be -/
theorem rowsB_iff {l : List RowD} : zbu l = true ↔ ∀ r ∈ l, zbi r = true := by rw [rowsB_ok, List.all_eq_true]
theorem right_n {l : List Lbl} (h : zbw l = true) : zR l = l ∧ za3 l = 0 ∧ NSrt l ∧ (∀ x ∈ l, okL x = true) ∧ l.length ≤ 8 := by
  unfold zbw at h
  rw [Bool.and_eq_true, decide_eq_true_eq] at h
  have e := cmpLs_eq.1 h.2
  have e0 : za3 l = 0 := by have := tidyOk_E l; rw [h.1] at this; exact of_decide_eq_true this
  have hn := tidy_n e0
  rw [e] at hn
  exact ⟨e, e0, hn.1, hn.2, tidy_ok_len h.1⟩
theorem right_of {l : List Lbl} (h1 : l.length ≤ 8) (h2 : NSrt l) (h3 : ∀ x ∈ l, okL x = true) : zbw l = true := by
  obtain ⟨e1, e2⟩ := tidyOk_of h1 h2 (List.Perm.refl l) h3
  unfold zbw zR
  rw [e1, e2]
  simp [cmpLs_self]
theorem okRow_r {r : RowD} (h : zbi r = true) : zbw r.ls = true ∧ zax r.v = true := by unfold zbi at h; rwa [Bool.and_eq_true] at h
theorem okRow_of {r : RowD} (h1 : zbw r.ls = true) (h2 : zax r.v = true) : zbi r = true := by unfold zbi; rw [h1, h2]; rfl
theorem rt_rows {l : List RowD} (h : rtE l = 0) : l.length ≤ 2000 ∧ zbu l = true := by
  unfold rtE at h
  cases hb : decide (l.length ≤ 2000) && zbu l
  · rw [hb] at h; cases h
  · rw [Bool.and_eq_true, decide_eq_true_eq] at hb; exact hb
theorem tidyRs_rows (l : List RowD) : ∀ r ∈ zaf l, zbi r = true := by
  have key : ∀ (m out : List RowD), (∀ r ∈ out, zbi r = true) → ∀ r ∈ m.foldl zbm out, zbi r = true := by
    intro m
    induction m with
    | nil => intro out h; exact h
    | cons x m ih =>
      intro out h
      refine ih (zbm out x) ?_
      unfold zbm
      split
      · rename_i hc
        intro r hr
        have h1 := (rt_rows hc.2.2).2
        rw [rowsB_iff] at h1
        exact h1 r ((rt_strict hc.2.2).2.mem_iff.1 hr)
      · exact h
  exact key l [] (fun _ h => by cases h)
theorem vr_rows {a : List RowD} (h : z7 a = true) : ∀ r ∈ a, zbi r = true := rowsB_iff.1 (zbd.1 h).2.1
theorem vr_strict {a : List RowD} (h : z7 a = true) : zaV cL a := (zbd.1 h).2.2
theorem vr_of {a : List RowD} (h1 : a.length ≤ 2000) (h2 : ∀ r ∈ a, zbi r = true) (h3 : zaV cL a) : z7 a = true := zbd.2 ⟨h1, rowsB_iff.2 h2, h3⟩
theorem vr_tidy {l : List RowD} (h : zbx l = true) : z7 (zaf l) = true := by
  have t := tidyRs_trs (fun r hr => lightR_row h hr)
  have := lightR_len h
  exact vr_of (by have := t.len; omega) (tidyRs_rows l) t.st
theorem vr_filter {a : List RowD} (h : z7 a = true) (p : RowD → Bool) : z7 (a.filter p) = true :=
  vr_of (Nat.le_trans (List.length_filter_le _ _) (zbd.1 h).1) (fun r hr => vr_rows h r (List.mem_filter.1 hr).1) (List.Pairwise.filter _ (vr_strict h))
theorem rt_perm {a b : List RowD} (h : z7 a = true) (hp : a.Perm b) : rtL b = a ∧ rtE b = 0 := by
  have e := strict_isort zdw (vr_strict h) hp
  have hb : ordB b = true := by unfold ordB; rw [e]; exact decide_eq_true (vr_strict h)
  have h1 : ¬ (2000 : Int) < ((b.length : Nat) : Int) := by have := (zbd.1 h).1; rw [← hp.length_eq]; omega
  have h2 : zbu b = true := rowsB_iff.2 (fun r hr => vr_rows h r (hp.mem_iff.2 hr))
  obtain ⟨e1, e2⟩ := zdO h1 h2
  rw [← e1, ← e2]
  unfold ordL ordE; rw [hb, e]; exact ⟨rfl, rfl⟩
theorem rt_self {a : List RowD} (h : z7 a = true) : rtL a = a ∧ rtE a = 0 := rt_perm h (List.Perm.refl a)
/-! ### what is kept of each -/
theorem fm_map {α β : Type} {f : α → Option β} {g : α → β} : ∀ {l : List α}, (∀ r ∈ l, f r = some (g r)) → l.filterMap f = l.map g
  | [], _ => rfl
  | r :: l, h => by rw [List.filterMap_cons_some (h r List.mem_cons_self), fm_map (fun x hx => h x (List.mem_cons_of_mem _ hx))]; rfl
theorem nd_inj {α β : Type} {f : α → β} : ∀ {l : List α}, (l.map f).Nodup → ∀ {x y : α}, x ∈ l → y ∈ l → f x = f y → x = y
  | [], _, x, y, hx, _, _ => by cases hx
  | a :: l, h, x, y, hx, hy, e => by
    rw [List.map_cons, List.nodup_cons] at h
    rcases List.mem_cons.1 hx with ex | ex <;> rcases List.mem_cons.1 hy with ey | ey
    · rw [ex, ey]
    · exact absurd (List.mem_map.2 ⟨y, ey, by rw [← e, ex]⟩) h.1
    · exact absurd (List.mem_map.2 ⟨x, ex, by rw [e, ey]⟩) h.1
    · exact nd_inj h.2 ex ey e
theorem find_self {mode : Int} {ns : List ByteArray} {a : List RowD} (h : ndT mode ns a) {r : RowD} (hr : r ∈ a) : zc6 mode ns (keyT mode ns r) a = some r := by
  obtain ⟨j, q, h1, h2, h3, h4⟩ := findT_some (mode := mode) (ns := ns) (t := keyT mode ns r) (b := a) (List.mem_map.2 ⟨r, hr, rfl⟩)
  rw [h3, nd_inj (f := keyT mode ns) h (List.mem_of_getElem? h2) hr h4]
end Lp
/-
  What is said of vectors (chapter 10): the first call, twice the same, splits.
-/
set_option linter.unusedVariables false
namespace Lp
open Go
/-! ### the first call -/
def al10 : List RowD := [⟨[⟨⟨#[97]⟩, ⟨#[49]⟩⟩], 5⟩]
theorem al10_ls : zbw [⟨⟨#[97]⟩, ⟨#[49]⟩⟩] = true :=
  right_of (by decide) (List.pairwise_singleton _ _) (fun x hx => by rw [List.mem_singleton.1 hx]; unfold okL; rw [name_a]; decide)
theorem one_vr {r : RowD} (h : zbi r = true) : z7 [r] = true :=
  vr_of (by simp) (fun x hx => by rw [List.mem_singleton.1 hx]; exact h) (List.pairwise_singleton _ _)
theorem al10_vr : z7 al10 = true := one_vr (okRow_of al10_ls (by decide))
theorem key10 : keyL 0 [] [⟨⟨#[97]⟩, ⟨#[49]⟩⟩] = [⟨⟨#[97]⟩, ⟨#[49]⟩⟩] := by decide
theorem op_plus : opB ⟨#[43]⟩ = true := by decide
theorem op_minus : opB ⟨#[45]⟩ = true := by decide
theorem nd_one (mode : Int) (ns : List ByteArray) (r : RowD) : ndT mode ns [r] := by unfold ndT zac; simp
theorem al10_m : zad ⟨#[43]⟩ al10 al10 0 [] = [⟨[⟨⟨#[97]⟩, ⟨#[49]⟩⟩], 10⟩] ∧ zaN ⟨#[43]⟩ al10 al10 0 [] = 0 := by
  have hg : zbZ ⟨#[43]⟩ al10 al10 = true := by unfold zbZ; rw [op_plus, al10_vr]; rfl
  have hn : ndT 0 [] al10 ∧ ndT 0 [] al10 := ⟨nd_one _ _ _, nd_one _ _ _⟩
  have hf := find_self hn.1 (r := ⟨[⟨⟨#[97]⟩, ⟨#[49]⟩⟩], 5⟩) List.mem_cons_self
  have d : doE ⟨#[43]⟩ 5 5 = (10, 0) := by decide
  have h0 : zaI (maF ⟨#[43]⟩ 0 [] al10) al10 = 0 := firstE_0.2 (fun r hr => by rw [List.mem_singleton.1 hr]; unfold maF; rw [hf]; exact congrArg Prod.snd d)
  have ho : zcD ⟨#[43]⟩ 0 [] al10 al10 = [⟨[⟨⟨#[97]⟩, ⟨#[49]⟩⟩], 10⟩] := by
    have : zcR ⟨#[43]⟩ 0 [] al10 ⟨[⟨⟨#[97]⟩, ⟨#[49]⟩⟩], 5⟩ = some ⟨[⟨⟨#[97]⟩, ⟨#[49]⟩⟩], 10⟩ := by
      rw [maOne_op hf (by decide), d, key10]
    show List.filterMap (zcR ⟨#[43]⟩ 0 [] al10) [⟨[⟨⟨#[97]⟩, ⟨#[49]⟩⟩], 5⟩] = _
    rw [List.filterMap_cons_some this]; rfl
  obtain ⟨e1, e2⟩ := rt_self (one_vr (r := ⟨[⟨⟨#[97]⟩, ⟨#[49]⟩⟩], 10⟩) (okRow_of al10_ls (by decide)))
  unfold zad zaN
  rw [if_pos hg, if_pos hg, if_pos hn, if_pos hn, if_pos h0, if_pos h0, ho, e1, e2]; exact ⟨rfl, rfl⟩
theorem al10_s : zr ⟨#[45]⟩ al10 1 true = [⟨[⟨⟨#[97]⟩, ⟨#[49]⟩⟩], -4⟩] ∧ zL ⟨#[45]⟩ al10 1 true = 0 := by
  have hg : zbM ⟨#[45]⟩ 1 al10 = true := by unfold zbM; rw [op_minus, al10_vr]; rfl
  have d : doE ⟨#[45]⟩ 1 5 = (-4, 0) := by decide
  have h0 : zaI (scF ⟨#[45]⟩ 1 true) al10 = 0 := firstE_0.2 (fun r hr => by rw [List.mem_singleton.1 hr]; unfold scF; rw [if_pos rfl, d])
  have ho : zco ⟨#[45]⟩ 1 true al10 = [⟨[⟨⟨#[97]⟩, ⟨#[49]⟩⟩], -4⟩] := by
    have : zcI ⟨#[45]⟩ 1 true ⟨[⟨⟨#[97]⟩, ⟨#[49]⟩⟩], 5⟩ = some ⟨[⟨⟨#[97]⟩, ⟨#[49]⟩⟩], -4⟩ := by
      unfold zcI; rw [if_neg (by decide)]; unfold scF; rw [if_pos rfl, d, key10]
    show List.filterMap (zcI ⟨#[45]⟩ 1 true) [⟨[⟨⟨#[97]⟩, ⟨#[49]⟩⟩], 5⟩] = _
    rw [List.filterMap_cons_some this]; rfl
  obtain ⟨e1, e2⟩ := rt_self (one_vr (r := ⟨[⟨⟨#[97]⟩, ⟨#[49]⟩⟩], -4⟩) (okRow_of al10_ls (by decide)))
  unfold zr zL
  rw [if_pos hg, if_pos hg, if_pos h0, if_pos h0, ho, e1, e2]; exact ⟨rfl, rfl⟩
theorem al10_LZ : LZ al10 := fun r hr => by
  rw [List.mem_singleton.1 hr]
  exact ⟨by decide, fun x hx => by rw [List.mem_singleton.1 hx]; decide⟩
/-! ### rows without a metric -/
def noMet (r : RowD) : Bool := decide (getL r.ls metB = ByteArray.empty)
def mfree (l : List RowD) : List RowD := l.filter noMet
theorem met_none {l : List Lbl} (h : zbw l = true) (hg : getL l metB = ByteArray.empty) : zay l [metB] true = [] ∧ zay l [metB] false = l := by
  obtain ⟨_, _, h3, h4, _⟩ := right_n h
  have e : zay l [metB] true = [] := by
    rcases pick_get (n := metB) h3 with ⟨e, _⟩ | e
    · exact e
    · exfalso
      have hm : (⟨metB, getL l metB⟩ : Lbl) ∈ l := zcO (ns := [metB]) (w := true) (by rw [e]; exact List.mem_cons_self)
      have := h4 _ hm
      rw [hg] at this
      rw [zc3 rfl] at this
      cases this
  refine ⟨e, ?_⟩
  unfold zay at e ⊢
  rw [List.filter_eq_nil_iff] at e
  rw [List.filter_eq_self]
  intro x hx
  have := e x hx
  cases hh : hasN [metB] x.n
  · rfl
  · rw [hh] at this; exact absurd rfl this
theorem mfree_key {l : List RowD} (h : z7 l = true) {r : RowD} (hr : r ∈ mfree l) (ns : List ByteArray) : keyL 0 ns r.ls = r.ls := by
  obtain ⟨h1, h2⟩ := List.mem_filter.1 hr
  exact (met_none (okRow_r (vr_rows h r h1)).1 (of_decide_eq_true h2)).2
/-- rows with other numbers -/
theorem vr_map {a : List RowD} (h : z7 a = true) (g : RowD → Int) (hg : ∀ r ∈ a, zax (g r) = true) : z7 (a.map (fun r => ⟨r.ls, g r⟩)) = true := by
  refine vr_of (by rw [List.length_map]; exact (zbd.1 h).1) (fun r hr => ?_) ?_
  · obtain ⟨q, hq, rfl⟩ := List.mem_map.1 hr
    exact okRow_of (okRow_r (vr_rows h q hq)).1 (hg q hq)
  · unfold zaV; rw [List.pairwise_map]; exact vr_strict h
theorem do_minus {a b : Int} (ha : zax a = true) (hb : zax b = true) : doE ⟨#[45]⟩ a b = zbg (a - b) := by
  unfold doE; rw [if_neg (by rw [ha, hb]; decide), if_neg (by decide), if_neg (by decide), if_pos rfl]
theorem do_plus {a b : Int} (ha : zax a = true) (hb : zax b = true) : doE ⟨#[43]⟩ a b = zbg (a + b) := by
  unfold doE; rw [if_neg (by rw [ha, hb]; decide), if_neg (by decide), if_pos rfl]
end Lp
/- Walks, printed by a program of mine. -/
set_option linter.unusedSimpArgs false
set_option linter.unusedVariables false
namespace Lp
open Go Go.RowKit Go.Proofs

namespace HdYtfjinapgehafiaaV65
theorem zdt : ∀ w, ((#[⟨"Labels", 27, 0, false, "", "", 0⟩, ⟨"V", 3, 1, false, "", "", 24⟩] : Array Field).mapM fun f => do pure (f.offset, ← Go.sizeOf f.type) : Sem (Array (Nat × Nat))).run Try.prog w = .ok ([(0, 1), (1, 1)] : List (Nat × Nat)).toArray w := fun _ => by kernel_rfl
theorem bd_33 : ∀ w, ((#[⟨"Name", 9, 0, false, "", "", 0⟩, ⟨"Value", 9, 1, false, "", "", 16⟩] : Array Field).mapM fun f => do pure (f.offset, ← Go.sizeOf f.type) : Sem (Array (Nat × Nat))).run Try.prog w = .ok ([(0, 1), (1, 1)] : List (Nat × Nat)).toArray w := fun _ => by kernel_rfl
theorem zaw (b o : Nat) : ∀ w, (Instr.fieldAt 30 (.pointer (some ⟨b, o, none⟩)) 1).run Try.prog w = .ok (.pointer (some ⟨b, o + 1, none⟩)) w := fun _ => by kernel_rfl
theorem zat (b o : Nat) : ∀ w, (Instr.fieldAt 33 (.pointer (some ⟨b, o, none⟩)) 0).run Try.prog w = .ok (.pointer (some ⟨b, o + 0, none⟩)) w := fun _ => by kernel_rfl
theorem zaW (b o : Nat) : ∀ w, (Instr.fieldAt 33 (.pointer (some ⟨b, o, none⟩)) 1).run Try.prog w = .ok (.pointer (some ⟨b, o + 1, none⟩)) w := fun _ => by kernel_rfl
end HdYtfjinapgehafiaaV65
open HdYtfjinapgehafiaaV65

set_option maxHeartbeats 4000000 in
set_option maxRecDepth 100000 in
theorem refGet_c (l : List Lbl) (name : ByteArray)  :
    CD Try.prog 11 [] [.sh 2 (l.map Lbl.d), .s name] (isR (D.s (getL l name))) := by
  refine zK Try.func11 rfl (N := 24) rfl rfl (fun C => ?_)
  refine JD.keep [0, 1] [(0, .sh 2 (l.map Lbl.d)), (1, .s name)] rfl ?_
  refine JD.bd 0 rfl (fun bd0 => ?_)
  have nl0 := zae bd0
  refine JD.bd 1 rfl (fun bd1 => ?_)
  have sz1 : name.size ≤ 9223372036854775807 := bd1
  refine zh _ _ rfl rfl rfl (zc rfl (za rfl rfl (ze rfl) (zg rfl (zf (zh _ _ rfl rfl rfl (zh _ _ rfl rfl rfl (zc rfl (za rfl rfl (ze rfl) (zg rfl (zf (zx _ rfl rfl (z4 (fun (g : Nat) => [(0, .sh 2 (l.map Lbl.d)), (1, .s name), (5, dN g)]) (fun (g : Nat) => []) (fun (g : Nat) => (getL l name = getL (l.drop g) name)) (fun (g : Nat) => l.length - g) _ 0 rfl rfl ⟨sk rfl, sk rfl, sk rfl, trivial⟩ HSub.rfl' rfl ?_))))))))))))
  rintro k hf
  refine JD.keep [0, 1, 5] [(0, .sh 2 (l.map Lbl.d)), (1, .s name), (5, dN k)] rfl (JD.norm [] rfl (zh _ _ rfl rfl rfl (zh _ _ rfl rfl rfl (zc rfl (za rfl rfl (zb rfl) (za rfl rfl (zb rfl) (za rfl rfl (zav (n := l.length) rfl Try.runUnderlying27 (by simp only [lm, lc, ln])) (za rfl rfl (z5 rfl rfl rfl) (zg rfl (zf ?_))))))))))
  refine zt _ _ rfl rfl rfl rfl (fun hc1 => ?_) (fun hc1 => ?_)
  · replace hc1 := of_decide_eq_true hc1
    refine zy rfl (zf (zh _ _ rfl rfl rfl (zx _ rfl rfl (zh _ _ rfl rfl rfl (zc rfl (za rfl rfl (zb rfl) (za rfl rfl (zb rfl) ?_)))))))
    obtain ⟨x1, hx1⟩ := zU l k (by omega)
    refine za rfl rfl (zF (k := k) rfl rfl Try.runUnderlying27 Try.sizeOf33 (by first | rfl | omega) (zu hx1)) (za rfl rfl (zN rfl zat rfl) (za rfl rfl (zX rfl Try.isAgg9 rfl) (za rfl rfl (zb rfl) (za rfl rfl (zbv rfl rfl rfl) (zg rfl (zf ?_))))))
    refine zt _ _ rfl rfl rfl rfl (fun hc2 => ?_) (fun hc2 => ?_)
    · replace hc2 := of_decide_eq_true hc2
      refine zh _ _ rfl rfl rfl (zc rfl (za rfl rfl (zb rfl) (za rfl rfl (zb rfl) (za rfl rfl (zF (k := k) rfl rfl Try.runUnderlying27 Try.sizeOf33 (by first | rfl | omega) (zu hx1)) (za rfl rfl (zN rfl zaW rfl) (za rfl rfl (zX rfl Try.isAgg9 rfl) (za rfl rfl (ze rfl) (zg rfl (zf (zz rfl (zm (zo (zY (zm (zo ?_)))))))))))))))
      exact zw Try.results11 (.cons (zM (zq rfl) (Cv.eq (congrArg D.s (by exact getL_at hx1 hf hc2)))) .nil) rfl HSub.none ⟨rfl, rfl⟩
    · replace hc2 := of_decide_eq_false hc2
      refine zy rfl (zB (zf (zc rfl (za rfl rfl (zb rfl) (za rfl rfl (z6 (c := ((k + 1 : Nat) : Int)) rfl rfl (zT (by omega) (by omega))) (za rfl rfl (ze rfl) (zg rfl ?_)))))))
      exact zS (k + 1) ⟨sk rfl, sk rfl, sk rfl, trivial⟩ HSub.rfl' (getL_next hx1 hf hc2) (by omega)
  · replace hc1 := of_decide_eq_false hc1
    refine z1 rfl (zJ (zI (zC (zf (zh _ _ rfl rfl rfl (zc rfl (za rfl rfl (ze rfl) (zg rfl (zf (zz rfl ?_))))))))))
    exact zw Try.results11 (.cons (zM (zq rfl) (((Cv.str (by first | decide | (unfold maxLen; omega)))).trans (Cv.eq (congrArg D.s (by exact getL_end (by omega) hf))))) .nil) rfl HSub.none ⟨rfl, rfl⟩

set_option maxHeartbeats 4000000 in
set_option maxRecDepth 100000 in
theorem alive10_c   :
    CD Try.prog 8 [] [] (isR (dB true)) := by
  refine zK Try.func8 rfl (N := 55) rfl rfl (fun C => ?_)
  refine JD.keep [] [] rfl ?_
  have am1 : zad (⟨#[43]⟩ : ByteArray) [(RowD.mk [(Lbl.mk (⟨#[97]⟩ : ByteArray) (⟨#[49]⟩ : ByteArray))] 5)] [(RowD.mk [(Lbl.mk (⟨#[97]⟩ : ByteArray) (⟨#[49]⟩ : ByteArray))] 5)] 0 [] = [(RowD.mk [(Lbl.mk (⟨#[97]⟩ : ByteArray) (⟨#[49]⟩ : ByteArray))] 10)] := al10_m.1
  have am2 : zaN (⟨#[43]⟩ : ByteArray) [(RowD.mk [(Lbl.mk (⟨#[97]⟩ : ByteArray) (⟨#[49]⟩ : ByteArray))] 5)] [(RowD.mk [(Lbl.mk (⟨#[97]⟩ : ByteArray) (⟨#[49]⟩ : ByteArray))] 5)] 0 [] = 0 := al10_m.2
  have as1 : zr (⟨#[45]⟩ : ByteArray) [(RowD.mk [(Lbl.mk (⟨#[97]⟩ : ByteArray) (⟨#[49]⟩ : ByteArray))] 5)] 1 true = [(RowD.mk [(Lbl.mk (⟨#[97]⟩ : ByteArray) (⟨#[49]⟩ : ByteArray))] (-4))] := al10_s.1
  have as2 : zL (⟨#[45]⟩ : ByteArray) [(RowD.mk [(Lbl.mk (⟨#[97]⟩ : ByteArray) (⟨#[49]⟩ : ByteArray))] 5)] 1 true = 0 := al10_s.2
  have av : z7 [(RowD.mk [(Lbl.mk (⟨#[97]⟩ : ByteArray) (⟨#[49]⟩ : ByteArray))] 5)] = true := al10_vr
  refine zh _ _ rfl rfl rfl (zc rfl (za rfl rfl (ze rfl) (zg rfl (zf (zh _ _ rfl rfl rfl (zc rfl (za rfl rfl (zc2 [0, 1] [.const (.string (⟨#[97]⟩ : ByteArray)), .const (.string (⟨#[49]⟩ : ByteArray))] (zv := (.agg #[(.string ByteArray.empty), (.string ByteArray.empty)])) rfl rfl (.cons (CellD.v rfl) (.cons (CellD.v rfl) .nil)) (Try.runUnderlying33) Try.zeroValue33 bd_33 ⟨rfl, rfl, trivial⟩ rfl) (zk rfl rfl (Qu.ef (d := .sh 2 ([(Lbl.mk (⟨#[97]⟩ : ByteArray) (⟨#[49]⟩ : ByteArray))].map Lbl.d)) ((zaZ [.tmp 6] rfl rfl (.cons CellD.agg .nil) rfl Try.runUnderlying27 Try.sizeOf33 Try.zeroValue33 rfl rfl rfl rfl).cv (Cv.shs (.cons (Cv.agg (.cons ((Cv.str (by first | decide | (unfold maxLen; omega)))) (.cons ((Cv.str (by first | decide | (unfold maxLen; omega)))) .nil))) .nil)))) ?_))))))))
  rintro _ _ ⟨rfl, rfl⟩
  refine za rfl rfl (zc2 [0, 1] [.tmp 7, .const (.int .i64 5)] (zv := (.agg #[(.slice none 0 0), (.int .i64 0)])) rfl rfl (.cons CellD.sh (.cons (CellD.v rfl) .nil)) (Try.runUnderlying30) Try.zeroValue30 zdt ⟨rfl, rfl, trivial⟩ rfl) (zk rfl rfl (Qu.ef (d := .sh 2 ([(RowD.mk [(Lbl.mk (⟨#[97]⟩ : ByteArray) (⟨#[49]⟩ : ByteArray))] 5)].map RowD.d)) (zaZ [.tmp 8] rfl rfl (.cons CellD.agg .nil) rfl Try.runUnderlying22 Try.sizeOf30 Try.zeroValue30 rfl rfl rfl rfl)) ?_)
  rintro _ _ ⟨rfl, rfl⟩
  refine za rfl rfl (ze rfl) (zg rfl (zf (zh _ _ rfl rfl rfl (zc rfl (za rfl rfl (zb rfl) (za rfl rfl (zb rfl) (zk rfl rfl (zs [] _ [] rfl rfl (.cons (ArgC.cv (Cv.str (by first | decide | (unfold maxLen; omega)))) (.cons ArgC.id (.cons ArgC.id (.cons ArgC.id (.cons (ArgC.cv Cv.nil) .nil))))) zn Try.call12 (Match_c (⟨#[43]⟩ : ByteArray) [(RowD.mk [(Lbl.mk (⟨#[97]⟩ : ByteArray) (⟨#[49]⟩ : ByteArray))] 5)] [(RowD.mk [(Lbl.mk (⟨#[97]⟩ : ByteArray) (⟨#[49]⟩ : ByteArray))] 5)] 0 [] al10_LZ al10_LZ) (.inl rfl)) ?_)))))))
  rintro _ _ ⟨_, ⟨v1, rfl, rfl⟩, rfl⟩
  refine OpsD.norm [.sl v1 2 30 ((zad (⟨#[43]⟩ : ByteArray) [(RowD.mk [(Lbl.mk (⟨#[97]⟩ : ByteArray) (⟨#[49]⟩ : ByteArray))] 5)] [(RowD.mk [(Lbl.mk (⟨#[97]⟩ : ByteArray) (⟨#[49]⟩ : ByteArray))] 5)] 0 []).map RowD.d)] rfl (za rfl rfl (zb rfl) (za rfl rfl (zD rfl rfl) (za rfl rfl (zD rfl rfl) (za rfl rfl (ze rfl) (za rfl rfl (ze rfl) (zg rfl (zf (JD.keep [0, 1, 2, 3] [(0, dB false), (1, .sh 2 ([(RowD.mk [(Lbl.mk (⟨#[97]⟩ : ByteArray) (⟨#[49]⟩ : ByteArray))] 5)].map RowD.d)), (2, .ov v1), (3, dI (zaN (⟨#[43]⟩ : ByteArray) [(RowD.mk [(Lbl.mk (⟨#[97]⟩ : ByteArray) (⟨#[49]⟩ : ByteArray))] 5)] [(RowD.mk [(Lbl.mk (⟨#[97]⟩ : ByteArray) (⟨#[49]⟩ : ByteArray))] 5)] 0 []))] rfl (zh _ _ rfl rfl rfl (zc rfl (za rfl rfl (zb rfl) (zk rfl rfl (zs [] _ [] rfl rfl (.cons (ArgC.cv (Cv.str (by first | decide | (unfold maxLen; omega)))) (.cons ArgC.id (.cons ArgC.id (.cons ArgC.id .nil)))) zn Try.call16 (Scale_c (⟨#[45]⟩ : ByteArray) [(RowD.mk [(Lbl.mk (⟨#[97]⟩ : ByteArray) (⟨#[49]⟩ : ByteArray))] 5)] 1 true) (.inl rfl)) ?_))))))))))))
  rintro _ _ ⟨_, ⟨v2, rfl, rfl⟩, rfl⟩
  refine OpsD.norm [.sl v2 2 30 ((zr (⟨#[45]⟩ : ByteArray) [(RowD.mk [(Lbl.mk (⟨#[97]⟩ : ByteArray) (⟨#[49]⟩ : ByteArray))] 5)] 1 true).map RowD.d), .sl v1 2 30 ((zad (⟨#[43]⟩ : ByteArray) [(RowD.mk [(Lbl.mk (⟨#[97]⟩ : ByteArray) (⟨#[49]⟩ : ByteArray))] 5)] [(RowD.mk [(Lbl.mk (⟨#[97]⟩ : ByteArray) (⟨#[49]⟩ : ByteArray))] 5)] 0 []).map RowD.d)] rfl (za rfl rfl (zb rfl) (za rfl rfl (zD rfl rfl) (za rfl rfl (zD rfl rfl) (za rfl rfl (ze rfl) (za rfl rfl (ze rfl) (zg rfl (zf (zh _ _ rfl rfl rfl ?_))))))))
  obtain ⟨y2, hy2, ey2⟩ : ∃ x, (zr (⟨#[45]⟩ : ByteArray) [(RowD.mk [(Lbl.mk (⟨#[97]⟩ : ByteArray) (⟨#[49]⟩ : ByteArray))] 5)] 1 true)[0]? = some x ∧ x = RowD.mk [(Lbl.mk (⟨#[97]⟩ : ByteArray) (⟨#[49]⟩ : ByteArray))] (-4) := ⟨_, by rw [as1]; rfl, rfl⟩
  have eny2 : (zr (⟨#[45]⟩ : ByteArray) [(RowD.mk [(Lbl.mk (⟨#[97]⟩ : ByteArray) (⟨#[49]⟩ : ByteArray))] 5)] 1 true).length = 1 := by rw [as1]; rfl
  obtain ⟨y1, hy1, ey1⟩ : ∃ x, (zad (⟨#[43]⟩ : ByteArray) [(RowD.mk [(Lbl.mk (⟨#[97]⟩ : ByteArray) (⟨#[49]⟩ : ByteArray))] 5)] [(RowD.mk [(Lbl.mk (⟨#[97]⟩ : ByteArray) (⟨#[49]⟩ : ByteArray))] 5)] 0 [])[0]? = some x ∧ x = RowD.mk [(Lbl.mk (⟨#[97]⟩ : ByteArray) (⟨#[49]⟩ : ByteArray))] 10 := ⟨_, by rw [am1]; rfl, rfl⟩
  have eny1 : (zad (⟨#[43]⟩ : ByteArray) [(RowD.mk [(Lbl.mk (⟨#[97]⟩ : ByteArray) (⟨#[49]⟩ : ByteArray))] 5)] [(RowD.mk [(Lbl.mk (⟨#[97]⟩ : ByteArray) (⟨#[49]⟩ : ByteArray))] 5)] 0 []).length = 1 := by rw [am1]; rfl
  refine JD.keep [1, 2, 3, 4, 5] [(1, .sh 2 ([(RowD.mk [(Lbl.mk (⟨#[97]⟩ : ByteArray) (⟨#[49]⟩ : ByteArray))] 5)].map RowD.d)), (2, .ov v1), (3, dI (zaN (⟨#[43]⟩ : ByteArray) [(RowD.mk [(Lbl.mk (⟨#[97]⟩ : ByteArray) (⟨#[49]⟩ : ByteArray))] 5)] [(RowD.mk [(Lbl.mk (⟨#[97]⟩ : ByteArray) (⟨#[49]⟩ : ByteArray))] 5)] 0 [])), (4, .ov v2), (5, dI (zL (⟨#[45]⟩ : ByteArray) [(RowD.mk [(Lbl.mk (⟨#[97]⟩ : ByteArray) (⟨#[49]⟩ : ByteArray))] 5)] 1 true))] rfl ?_
  refine zao 0 (((((((decide (zaN (⟨#[43]⟩ : ByteArray) [(RowD.mk [(Lbl.mk (⟨#[97]⟩ : ByteArray) (⟨#[49]⟩ : ByteArray))] 5)] [(RowD.mk [(Lbl.mk (⟨#[97]⟩ : ByteArray) (⟨#[49]⟩ : ByteArray))] 5)] 0 [] = (0 : Int)) && decide ((((zad (⟨#[43]⟩ : ByteArray) [(RowD.mk [(Lbl.mk (⟨#[97]⟩ : ByteArray) (⟨#[49]⟩ : ByteArray))] 5)] [(RowD.mk [(Lbl.mk (⟨#[97]⟩ : ByteArray) (⟨#[49]⟩ : ByteArray))] 5)] 0 []).length : Nat) : Int) = (1 : Int))) && decide (y1.v = (10 : Int))) && decide (zL (⟨#[45]⟩ : ByteArray) [(RowD.mk [(Lbl.mk (⟨#[97]⟩ : ByteArray) (⟨#[49]⟩ : ByteArray))] 5)] 1 true = (0 : Int))) && decide ((((zr (⟨#[45]⟩ : ByteArray) [(RowD.mk [(Lbl.mk (⟨#[97]⟩ : ByteArray) (⟨#[49]⟩ : ByteArray))] 5)] 1 true).length : Nat) : Int) = (1 : Int))) && decide (y2.v = ((-4) : Int))) && z7 [(RowD.mk [(Lbl.mk (⟨#[97]⟩ : ByteArray) (⟨#[49]⟩ : ByteArray))] 5)])) [.sl v2 2 30 ((zr (⟨#[45]⟩ : ByteArray) [(RowD.mk [(Lbl.mk (⟨#[97]⟩ : ByteArray) (⟨#[49]⟩ : ByteArray))] 5)] 1 true).map RowD.d), .sl v1 2 30 ((zad (⟨#[43]⟩ : ByteArray) [(RowD.mk [(Lbl.mk (⟨#[97]⟩ : ByteArray) (⟨#[49]⟩ : ByteArray))] 5)] [(RowD.mk [(Lbl.mk (⟨#[97]⟩ : ByteArray) (⟨#[49]⟩ : ByteArray))] 5)] 0 []).map RowD.d)] (fun _ hQ3 => ?_) ?_
  · skip
    by_cases hg4 : zaN (⟨#[43]⟩ : ByteArray) [(RowD.mk [(Lbl.mk (⟨#[97]⟩ : ByteArray) (⟨#[49]⟩ : ByteArray))] 5)] [(RowD.mk [(Lbl.mk (⟨#[97]⟩ : ByteArray) (⟨#[49]⟩ : ByteArray))] 5)] 0 [] = (0 : Int)
    · skip
      by_cases hg5 : (((zad (⟨#[43]⟩ : ByteArray) [(RowD.mk [(Lbl.mk (⟨#[97]⟩ : ByteArray) (⟨#[49]⟩ : ByteArray))] 5)] [(RowD.mk [(Lbl.mk (⟨#[97]⟩ : ByteArray) (⟨#[49]⟩ : ByteArray))] 5)] 0 []).length : Nat) : Int) = (1 : Int)
      · skip
        by_cases hg6 : y1.v = (10 : Int)
        · skip
          by_cases hg7 : zL (⟨#[45]⟩ : ByteArray) [(RowD.mk [(Lbl.mk (⟨#[97]⟩ : ByteArray) (⟨#[49]⟩ : ByteArray))] 5)] 1 true = (0 : Int)
          · skip
            by_cases hg8 : (((zr (⟨#[45]⟩ : ByteArray) [(RowD.mk [(Lbl.mk (⟨#[97]⟩ : ByteArray) (⟨#[49]⟩ : ByteArray))] 5)] 1 true).length : Nat) : Int) = (1 : Int)
            · skip
              by_cases hg9 : y2.v = ((-4) : Int)
              · skip
                refine zc rfl (za rfl rfl (zb rfl) (za rfl rfl (zZ rfl rfl (decide_eq_true hg4)) (za rfl rfl (zb rfl) (zi rfl rfl rfl rfl rfl (zb rfl) (zi rfl rfl rfl rfl rfl (zab (n := (zad (⟨#[43]⟩ : ByteArray) [(RowD.mk [(Lbl.mk (⟨#[97]⟩ : ByteArray) (⟨#[49]⟩ : ByteArray))] 5)] [(RowD.mk [(Lbl.mk (⟨#[97]⟩ : ByteArray) (⟨#[49]⟩ : ByteArray))] 5)] 0 []).length) (j := 1) rfl rfl Try.runUnderlying22 (List.length_map _)) (zi rfl rfl rfl rfl rfl (zZ rfl rfl (decide_eq_true hg5)) (za rfl rfl (zp rfl rfl) (za rfl rfl (zb rfl) (zi rfl rfl rfl rfl rfl (zb rfl) (zi rfl rfl rfl rfl rfl (zE (k := 0) (j := 1) rfl rfl rfl Try.runUnderlying22 Try.sizeOf30 (by first | rfl | omega) (zu hy1)) (zi rfl rfl rfl rfl rfl (zA rfl zaw rfl) (zi rfl rfl rfl rfl rfl (zaD rfl (i := 1) rfl (zu hy1) Try.isAgg3 rfl) (zi rfl rfl rfl rfl rfl (zZ rfl rfl (decide_eq_true hg6)) (za rfl rfl (zp rfl rfl) (za rfl rfl (zb rfl) (zi rfl rfl rfl rfl rfl (zb rfl) (zi rfl rfl rfl rfl rfl (zZ rfl rfl (decide_eq_true hg7)) (za rfl rfl (zp rfl rfl) (za rfl rfl (zb rfl) (zi rfl rfl rfl rfl rfl (zb rfl) ?_))))))))))))))))))))
                refine zi rfl rfl rfl rfl rfl (zab (n := (zr (⟨#[45]⟩ : ByteArray) [(RowD.mk [(Lbl.mk (⟨#[97]⟩ : ByteArray) (⟨#[49]⟩ : ByteArray))] 5)] 1 true).length) (j := 0) rfl rfl Try.runUnderlying22 (List.length_map _)) (zi rfl rfl rfl rfl rfl (zZ rfl rfl (decide_eq_true hg8)) (za rfl rfl (zp rfl rfl) (za rfl rfl (zb rfl) (zi rfl rfl rfl rfl rfl (zb rfl) (zi rfl rfl rfl rfl rfl (zE (k := 0) (j := 0) rfl rfl rfl Try.runUnderlying22 Try.sizeOf30 (by first | rfl | omega) (zu hy2)) (zi rfl rfl rfl rfl rfl (zA rfl zaw rfl) (zi rfl rfl rfl rfl rfl (zaD rfl (i := 0) rfl (zu hy2) Try.isAgg3 rfl) (zi rfl rfl rfl rfl rfl (zZ rfl rfl (decide_eq_true hg9)) (za rfl rfl (zp rfl rfl) (za rfl rfl (zb rfl) (zi rfl rfl rfl rfl rfl (zb rfl) (zaS rfl rfl rfl rfl rfl (zs [] _ [] rfl rfl (.cons ArgC.id .nil) zn Try.call15 (zcG [(RowD.mk [(Lbl.mk (⟨#[97]⟩ : ByteArray) (⟨#[49]⟩ : ByteArray))] 5)]) (.inl rfl)) ?_))))))))))))
                rintro _ _ ⟨_, ⟨rfl, rfl⟩, rfl⟩
                refine OpsD.norm [.sl v2 2 30 ((zr (⟨#[45]⟩ : ByteArray) [(RowD.mk [(Lbl.mk (⟨#[97]⟩ : ByteArray) (⟨#[49]⟩ : ByteArray))] 5)] 1 true).map RowD.d), .sl v1 2 30 ((zad (⟨#[43]⟩ : ByteArray) [(RowD.mk [(Lbl.mk (⟨#[97]⟩ : ByteArray) (⟨#[49]⟩ : ByteArray))] 5)] [(RowD.mk [(Lbl.mk (⟨#[97]⟩ : ByteArray) (⟨#[49]⟩ : ByteArray))] 5)] 0 []).map RowD.d)] rfl (za rfl rfl (zp rfl rfl) (za rfl rfl (ze rfl) (zg rfl ?_)))
                exact PD.sub ((0, dB ((((((decide (zaN (⟨#[43]⟩ : ByteArray) [(RowD.mk [(Lbl.mk (⟨#[97]⟩ : ByteArray) (⟨#[49]⟩ : ByteArray))] 5)] [(RowD.mk [(Lbl.mk (⟨#[97]⟩ : ByteArray) (⟨#[49]⟩ : ByteArray))] 5)] 0 [] = (0 : Int)) && decide ((((zad (⟨#[43]⟩ : ByteArray) [(RowD.mk [(Lbl.mk (⟨#[97]⟩ : ByteArray) (⟨#[49]⟩ : ByteArray))] 5)] [(RowD.mk [(Lbl.mk (⟨#[97]⟩ : ByteArray) (⟨#[49]⟩ : ByteArray))] 5)] 0 []).length : Nat) : Int) = (1 : Int))) && decide (y1.v = (10 : Int))) && decide (zL (⟨#[45]⟩ : ByteArray) [(RowD.mk [(Lbl.mk (⟨#[97]⟩ : ByteArray) (⟨#[49]⟩ : ByteArray))] 5)] 1 true = (0 : Int))) && decide ((((zr (⟨#[45]⟩ : ByteArray) [(RowD.mk [(Lbl.mk (⟨#[97]⟩ : ByteArray) (⟨#[49]⟩ : ByteArray))] 5)] 1 true).length : Nat) : Int) = (1 : Int))) && decide (y2.v = ((-4) : Int))) && z7 [(RowD.mk [(Lbl.mk (⟨#[97]⟩ : ByteArray) (⟨#[49]⟩ : ByteArray))] 5)])) :: [(1, .sh 2 ([(RowD.mk [(Lbl.mk (⟨#[97]⟩ : ByteArray) (⟨#[49]⟩ : ByteArray))] 5)].map RowD.d)), (2, .ov v1), (3, dI (zaN (⟨#[43]⟩ : ByteArray) [(RowD.mk [(Lbl.mk (⟨#[97]⟩ : ByteArray) (⟨#[49]⟩ : ByteArray))] 5)] [(RowD.mk [(Lbl.mk (⟨#[97]⟩ : ByteArray) (⟨#[49]⟩ : ByteArray))] 5)] 0 [])), (4, .ov v2), (5, dI (zL (⟨#[45]⟩ : ByteArray) [(RowD.mk [(Lbl.mk (⟨#[97]⟩ : ByteArray) (⟨#[49]⟩ : ByteArray))] 5)] 1 true))]) ⟨sc rfl (Cv.eq (congrArg (fun b => D.v (.bool b)) (by first | (simp [hg4, hg5, hg6, hg7, hg8, hg9]; done) | (simp_all; done)))), sk rfl, sk rfl, sk rfl, sk rfl, sk rfl, trivial⟩ hQ3
              · skip
                refine zc rfl (za rfl rfl (zb rfl) (za rfl rfl (zZ rfl rfl (decide_eq_true hg4)) (za rfl rfl (zb rfl) (zi rfl rfl rfl rfl rfl (zb rfl) (zi rfl rfl rfl rfl rfl (zab (n := (zad (⟨#[43]⟩ : ByteArray) [(RowD.mk [(Lbl.mk (⟨#[97]⟩ : ByteArray) (⟨#[49]⟩ : ByteArray))] 5)] [(RowD.mk [(Lbl.mk (⟨#[97]⟩ : ByteArray) (⟨#[49]⟩ : ByteArray))] 5)] 0 []).length) (j := 1) rfl rfl Try.runUnderlying22 (List.length_map _)) (zi rfl rfl rfl rfl rfl (zZ rfl rfl (decide_eq_true hg5)) (za rfl rfl (zp rfl rfl) (za rfl rfl (zb rfl) (zi rfl rfl rfl rfl rfl (zb rfl) (zi rfl rfl rfl rfl rfl (zE (k := 0) (j := 1) rfl rfl rfl Try.runUnderlying22 Try.sizeOf30 (by first | rfl | omega) (zu hy1)) (zi rfl rfl rfl rfl rfl (zA rfl zaw rfl) (zi rfl rfl rfl rfl rfl (zaD rfl (i := 1) rfl (zu hy1) Try.isAgg3 rfl) (zi rfl rfl rfl rfl rfl (zZ rfl rfl (decide_eq_true hg6)) (za rfl rfl (zp rfl rfl) (za rfl rfl (zb rfl) (zi rfl rfl rfl rfl rfl (zb rfl) (zi rfl rfl rfl rfl rfl (zZ rfl rfl (decide_eq_true hg7)) (za rfl rfl (zp rfl rfl) (za rfl rfl (zb rfl) (zi rfl rfl rfl rfl rfl (zb rfl) ?_))))))))))))))))))))
                refine zi rfl rfl rfl rfl rfl (zab (n := (zr (⟨#[45]⟩ : ByteArray) [(RowD.mk [(Lbl.mk (⟨#[97]⟩ : ByteArray) (⟨#[49]⟩ : ByteArray))] 5)] 1 true).length) (j := 0) rfl rfl Try.runUnderlying22 (List.length_map _)) (zi rfl rfl rfl rfl rfl (zZ rfl rfl (decide_eq_true hg8)) (za rfl rfl (zp rfl rfl) (za rfl rfl (zb rfl) (zi rfl rfl rfl rfl rfl (zb rfl) (zi rfl rfl rfl rfl rfl (zE (k := 0) (j := 0) rfl rfl rfl Try.runUnderlying22 Try.sizeOf30 (by first | rfl | omega) (zu hy2)) (zi rfl rfl rfl rfl rfl (zA rfl zaw rfl) (zi rfl rfl rfl rfl rfl (zaD rfl (i := 0) rfl (zu hy2) Try.isAgg3 rfl) (zi rfl rfl rfl rfl rfl (zZ rfl rfl (decide_eq_false hg9)) (za rfl rfl (zp rfl rfl) (za rfl rfl (zb rfl) (zj rfl rfl rfl rfl rfl (by decide) (zj rfl rfl rfl rfl rfl (by decide) (za rfl rfl (zl rfl rfl) (za rfl rfl (ze rfl) (zg rfl ?_)))))))))))))))
                exact PD.sub ((0, dB ((((((decide (zaN (⟨#[43]⟩ : ByteArray) [(RowD.mk [(Lbl.mk (⟨#[97]⟩ : ByteArray) (⟨#[49]⟩ : ByteArray))] 5)] [(RowD.mk [(Lbl.mk (⟨#[97]⟩ : ByteArray) (⟨#[49]⟩ : ByteArray))] 5)] 0 [] = (0 : Int)) && decide ((((zad (⟨#[43]⟩ : ByteArray) [(RowD.mk [(Lbl.mk (⟨#[97]⟩ : ByteArray) (⟨#[49]⟩ : ByteArray))] 5)] [(RowD.mk [(Lbl.mk (⟨#[97]⟩ : ByteArray) (⟨#[49]⟩ : ByteArray))] 5)] 0 []).length : Nat) : Int) = (1 : Int))) && decide (y1.v = (10 : Int))) && decide (zL (⟨#[45]⟩ : ByteArray) [(RowD.mk [(Lbl.mk (⟨#[97]⟩ : ByteArray) (⟨#[49]⟩ : ByteArray))] 5)] 1 true = (0 : Int))) && decide ((((zr (⟨#[45]⟩ : ByteArray) [(RowD.mk [(Lbl.mk (⟨#[97]⟩ : ByteArray) (⟨#[49]⟩ : ByteArray))] 5)] 1 true).length : Nat) : Int) = (1 : Int))) && decide (y2.v = ((-4) : Int))) && z7 [(RowD.mk [(Lbl.mk (⟨#[97]⟩ : ByteArray) (⟨#[49]⟩ : ByteArray))] 5)])) :: [(1, .sh 2 ([(RowD.mk [(Lbl.mk (⟨#[97]⟩ : ByteArray) (⟨#[49]⟩ : ByteArray))] 5)].map RowD.d)), (2, .ov v1), (3, dI (zaN (⟨#[43]⟩ : ByteArray) [(RowD.mk [(Lbl.mk (⟨#[97]⟩ : ByteArray) (⟨#[49]⟩ : ByteArray))] 5)] [(RowD.mk [(Lbl.mk (⟨#[97]⟩ : ByteArray) (⟨#[49]⟩ : ByteArray))] 5)] 0 [])), (4, .ov v2), (5, dI (zL (⟨#[45]⟩ : ByteArray) [(RowD.mk [(Lbl.mk (⟨#[97]⟩ : ByteArray) (⟨#[49]⟩ : ByteArray))] 5)] 1 true))]) ⟨sc rfl (Cv.eq (congrArg (fun b => D.v (.bool b)) (by first | (simp [hg4, hg5, hg6, hg7, hg8, hg9]; done) | (simp_all; done)))), sk rfl, sk rfl, sk rfl, sk rfl, sk rfl, trivial⟩ hQ3
            · skip
              refine zc rfl (za rfl rfl (zb rfl) (za rfl rfl (zZ rfl rfl (decide_eq_true hg4)) (za rfl rfl (zb rfl) (zi rfl rfl rfl rfl rfl (zb rfl) (zi rfl rfl rfl rfl rfl (zab (n := (zad (⟨#[43]⟩ : ByteArray) [(RowD.mk [(Lbl.mk (⟨#[97]⟩ : ByteArray) (⟨#[49]⟩ : ByteArray))] 5)] [(RowD.mk [(Lbl.mk (⟨#[97]⟩ : ByteArray) (⟨#[49]⟩ : ByteArray))] 5)] 0 []).length) (j := 1) rfl rfl Try.runUnderlying22 (List.length_map _)) (zi rfl rfl rfl rfl rfl (zZ rfl rfl (decide_eq_true hg5)) (za rfl rfl (zp rfl rfl) (za rfl rfl (zb rfl) (zi rfl rfl rfl rfl rfl (zb rfl) (zi rfl rfl rfl rfl rfl (zE (k := 0) (j := 1) rfl rfl rfl Try.runUnderlying22 Try.sizeOf30 (by first | rfl | omega) (zu hy1)) (zi rfl rfl rfl rfl rfl (zA rfl zaw rfl) (zi rfl rfl rfl rfl rfl (zaD rfl (i := 1) rfl (zu hy1) Try.isAgg3 rfl) (zi rfl rfl rfl rfl rfl (zZ rfl rfl (decide_eq_true hg6)) (za rfl rfl (zp rfl rfl) (za rfl rfl (zb rfl) (zi rfl rfl rfl rfl rfl (zb rfl) (zi rfl rfl rfl rfl rfl (zZ rfl rfl (decide_eq_true hg7)) (za rfl rfl (zp rfl rfl) (za rfl rfl (zb rfl) (zi rfl rfl rfl rfl rfl (zb rfl) ?_))))))))))))))))))))
              refine zi rfl rfl rfl rfl rfl (zab (n := (zr (⟨#[45]⟩ : ByteArray) [(RowD.mk [(Lbl.mk (⟨#[97]⟩ : ByteArray) (⟨#[49]⟩ : ByteArray))] 5)] 1 true).length) (j := 0) rfl rfl Try.runUnderlying22 (List.length_map _)) (zi rfl rfl rfl rfl rfl (zZ rfl rfl (decide_eq_false hg8)) (za rfl rfl (zp rfl rfl) (za rfl rfl (zb rfl) (zj rfl rfl rfl rfl rfl (by decide) (zj rfl rfl rfl rfl rfl (by decide) (zj rfl rfl rfl rfl rfl (by decide) (zj rfl rfl rfl rfl rfl (by decide) (zj rfl rfl rfl rfl rfl (by decide) (za rfl rfl (zl rfl rfl) (za rfl rfl (zb rfl) (zj rfl rfl rfl rfl rfl (by decide) (zj rfl rfl rfl rfl rfl (by decide) (za rfl rfl (zl rfl rfl) (za rfl rfl (ze rfl) (zg rfl ?_)))))))))))))))
              exact PD.sub ((0, dB ((((((decide (zaN (⟨#[43]⟩ : ByteArray) [(RowD.mk [(Lbl.mk (⟨#[97]⟩ : ByteArray) (⟨#[49]⟩ : ByteArray))] 5)] [(RowD.mk [(Lbl.mk (⟨#[97]⟩ : ByteArray) (⟨#[49]⟩ : ByteArray))] 5)] 0 [] = (0 : Int)) && decide ((((zad (⟨#[43]⟩ : ByteArray) [(RowD.mk [(Lbl.mk (⟨#[97]⟩ : ByteArray) (⟨#[49]⟩ : ByteArray))] 5)] [(RowD.mk [(Lbl.mk (⟨#[97]⟩ : ByteArray) (⟨#[49]⟩ : ByteArray))] 5)] 0 []).length : Nat) : Int) = (1 : Int))) && decide (y1.v = (10 : Int))) && decide (zL (⟨#[45]⟩ : ByteArray) [(RowD.mk [(Lbl.mk (⟨#[97]⟩ : ByteArray) (⟨#[49]⟩ : ByteArray))] 5)] 1 true = (0 : Int))) && decide ((((zr (⟨#[45]⟩ : ByteArray) [(RowD.mk [(Lbl.mk (⟨#[97]⟩ : ByteArray) (⟨#[49]⟩ : ByteArray))] 5)] 1 true).length : Nat) : Int) = (1 : Int))) && decide (y2.v = ((-4) : Int))) && z7 [(RowD.mk [(Lbl.mk (⟨#[97]⟩ : ByteArray) (⟨#[49]⟩ : ByteArray))] 5)])) :: [(1, .sh 2 ([(RowD.mk [(Lbl.mk (⟨#[97]⟩ : ByteArray) (⟨#[49]⟩ : ByteArray))] 5)].map RowD.d)), (2, .ov v1), (3, dI (zaN (⟨#[43]⟩ : ByteArray) [(RowD.mk [(Lbl.mk (⟨#[97]⟩ : ByteArray) (⟨#[49]⟩ : ByteArray))] 5)] [(RowD.mk [(Lbl.mk (⟨#[97]⟩ : ByteArray) (⟨#[49]⟩ : ByteArray))] 5)] 0 [])), (4, .ov v2), (5, dI (zL (⟨#[45]⟩ : ByteArray) [(RowD.mk [(Lbl.mk (⟨#[97]⟩ : ByteArray) (⟨#[49]⟩ : ByteArray))] 5)] 1 true))]) ⟨sc rfl (Cv.eq (congrArg (fun b => D.v (.bool b)) (by first | (simp [hg4, hg5, hg6, hg7, hg8]; done) | (simp_all; done)))), sk rfl, sk rfl, sk rfl, sk rfl, sk rfl, trivial⟩ hQ3
          · skip
            refine zc rfl (za rfl rfl (zb rfl) (za rfl rfl (zZ rfl rfl (decide_eq_true hg4)) (za rfl rfl (zb rfl) (zi rfl rfl rfl rfl rfl (zb rfl) (zi rfl rfl rfl rfl rfl (zab (n := (zad (⟨#[43]⟩ : ByteArray) [(RowD.mk [(Lbl.mk (⟨#[97]⟩ : ByteArray) (⟨#[49]⟩ : ByteArray))] 5)] [(RowD.mk [(Lbl.mk (⟨#[97]⟩ : ByteArray) (⟨#[49]⟩ : ByteArray))] 5)] 0 []).length) (j := 1) rfl rfl Try.runUnderlying22 (List.length_map _)) (zi rfl rfl rfl rfl rfl (zZ rfl rfl (decide_eq_true hg5)) (za rfl rfl (zp rfl rfl) (za rfl rfl (zb rfl) (zi rfl rfl rfl rfl rfl (zb rfl) (zi rfl rfl rfl rfl rfl (zE (k := 0) (j := 1) rfl rfl rfl Try.runUnderlying22 Try.sizeOf30 (by first | rfl | omega) (zu hy1)) (zi rfl rfl rfl rfl rfl (zA rfl zaw rfl) (zi rfl rfl rfl rfl rfl (zaD rfl (i := 1) rfl (zu hy1) Try.isAgg3 rfl) (zi rfl rfl rfl rfl rfl (zZ rfl rfl (decide_eq_true hg6)) (za rfl rfl (zp rfl rfl) (za rfl rfl (zb rfl) (zi rfl rfl rfl rfl rfl (zb rfl) (zi rfl rfl rfl rfl rfl (zZ rfl rfl (decide_eq_false hg7)) (za rfl rfl (zp rfl rfl) (za rfl rfl (zb rfl) (zj rfl rfl rfl rfl rfl (by decide) (zj rfl rfl rfl rfl rfl (by decide) (zj rfl rfl rfl rfl rfl (by decide) (za rfl rfl (zl rfl rfl) (za rfl rfl (zb rfl) (zj rfl rfl rfl rfl rfl (by decide) ?_)))))))))))))))))))))))))
            refine zj rfl rfl rfl rfl rfl (by decide) (zj rfl rfl rfl rfl rfl (by decide) (zj rfl rfl rfl rfl rfl (by decide) (zj rfl rfl rfl rfl rfl (by decide) (za rfl rfl (zl rfl rfl) (za rfl rfl (zb rfl) (zj rfl rfl rfl rfl rfl (by decide) (zj rfl rfl rfl rfl rfl (by decide) (za rfl rfl (zl rfl rfl) (za rfl rfl (ze rfl) (zg rfl ?_))))))))))
            exact PD.sub ((0, dB ((((((decide (zaN (⟨#[43]⟩ : ByteArray) [(RowD.mk [(Lbl.mk (⟨#[97]⟩ : ByteArray) (⟨#[49]⟩ : ByteArray))] 5)] [(RowD.mk [(Lbl.mk (⟨#[97]⟩ : ByteArray) (⟨#[49]⟩ : ByteArray))] 5)] 0 [] = (0 : Int)) && decide ((((zad (⟨#[43]⟩ : ByteArray) [(RowD.mk [(Lbl.mk (⟨#[97]⟩ : ByteArray) (⟨#[49]⟩ : ByteArray))] 5)] [(RowD.mk [(Lbl.mk (⟨#[97]⟩ : ByteArray) (⟨#[49]⟩ : ByteArray))] 5)] 0 []).length : Nat) : Int) = (1 : Int))) && decide (y1.v = (10 : Int))) && decide (zL (⟨#[45]⟩ : ByteArray) [(RowD.mk [(Lbl.mk (⟨#[97]⟩ : ByteArray) (⟨#[49]⟩ : ByteArray))] 5)] 1 true = (0 : Int))) && decide ((((zr (⟨#[45]⟩ : ByteArray) [(RowD.mk [(Lbl.mk (⟨#[97]⟩ : ByteArray) (⟨#[49]⟩ : ByteArray))] 5)] 1 true).length : Nat) : Int) = (1 : Int))) && decide (y2.v = ((-4) : Int))) && z7 [(RowD.mk [(Lbl.mk (⟨#[97]⟩ : ByteArray) (⟨#[49]⟩ : ByteArray))] 5)])) :: [(1, .sh 2 ([(RowD.mk [(Lbl.mk (⟨#[97]⟩ : ByteArray) (⟨#[49]⟩ : ByteArray))] 5)].map RowD.d)), (2, .ov v1), (3, dI (zaN (⟨#[43]⟩ : ByteArray) [(RowD.mk [(Lbl.mk (⟨#[97]⟩ : ByteArray) (⟨#[49]⟩ : ByteArray))] 5)] [(RowD.mk [(Lbl.mk (⟨#[97]⟩ : ByteArray) (⟨#[49]⟩ : ByteArray))] 5)] 0 [])), (4, .ov v2), (5, dI (zL (⟨#[45]⟩ : ByteArray) [(RowD.mk [(Lbl.mk (⟨#[97]⟩ : ByteArray) (⟨#[49]⟩ : ByteArray))] 5)] 1 true))]) ⟨sc rfl (Cv.eq (congrArg (fun b => D.v (.bool b)) (by first | (simp [hg4, hg5, hg6, hg7]; done) | (simp_all; done)))), sk rfl, sk rfl, sk rfl, sk rfl, sk rfl, trivial⟩ hQ3
        · skip
          refine zc rfl (za rfl rfl (zb rfl) (za rfl rfl (zZ rfl rfl (decide_eq_true hg4)) (za rfl rfl (zb rfl) (zi rfl rfl rfl rfl rfl (zb rfl) (zi rfl rfl rfl rfl rfl (zab (n := (zad (⟨#[43]⟩ : ByteArray) [(RowD.mk [(Lbl.mk (⟨#[97]⟩ : ByteArray) (⟨#[49]⟩ : ByteArray))] 5)] [(RowD.mk [(Lbl.mk (⟨#[97]⟩ : ByteArray) (⟨#[49]⟩ : ByteArray))] 5)] 0 []).length) (j := 1) rfl rfl Try.runUnderlying22 (List.length_map _)) (zi rfl rfl rfl rfl rfl (zZ rfl rfl (decide_eq_true hg5)) (za rfl rfl (zp rfl rfl) (za rfl rfl (zb rfl) (zi rfl rfl rfl rfl rfl (zb rfl) (zi rfl rfl rfl rfl rfl (zE (k := 0) (j := 1) rfl rfl rfl Try.runUnderlying22 Try.sizeOf30 (by first | rfl | omega) (zu hy1)) (zi rfl rfl rfl rfl rfl (zA rfl zaw rfl) (zi rfl rfl rfl rfl rfl (zaD rfl (i := 1) rfl (zu hy1) Try.isAgg3 rfl) (zi rfl rfl rfl rfl rfl (zZ rfl rfl (decide_eq_false hg6)) (za rfl rfl (zp rfl rfl) (za rfl rfl (zb rfl) (zj rfl rfl rfl rfl rfl (by decide) (zj rfl rfl rfl rfl rfl (by decide) (za rfl rfl (zl rfl rfl) (za rfl rfl (zb rfl) (zj rfl rfl rfl rfl rfl (by decide) (zj rfl rfl rfl rfl rfl (by decide) (zj rfl rfl rfl rfl rfl (by decide) (za rfl rfl (zl rfl rfl) (za rfl rfl (zb rfl) (zj rfl rfl rfl rfl rfl (by decide) ?_)))))))))))))))))))))))))
          refine zj rfl rfl rfl rfl rfl (by decide) (zj rfl rfl rfl rfl rfl (by decide) (zj rfl rfl rfl rfl rfl (by decide) (zj rfl rfl rfl rfl rfl (by decide) (za rfl rfl (zl rfl rfl) (za rfl rfl (zb rfl) (zj rfl rfl rfl rfl rfl (by decide) (zj rfl rfl rfl rfl rfl (by decide) (za rfl rfl (zl rfl rfl) (za rfl rfl (ze rfl) (zg rfl ?_))))))))))
          exact PD.sub ((0, dB ((((((decide (zaN (⟨#[43]⟩ : ByteArray) [(RowD.mk [(Lbl.mk (⟨#[97]⟩ : ByteArray) (⟨#[49]⟩ : ByteArray))] 5)] [(RowD.mk [(Lbl.mk (⟨#[97]⟩ : ByteArray) (⟨#[49]⟩ : ByteArray))] 5)] 0 [] = (0 : Int)) && decide ((((zad (⟨#[43]⟩ : ByteArray) [(RowD.mk [(Lbl.mk (⟨#[97]⟩ : ByteArray) (⟨#[49]⟩ : ByteArray))] 5)] [(RowD.mk [(Lbl.mk (⟨#[97]⟩ : ByteArray) (⟨#[49]⟩ : ByteArray))] 5)] 0 []).length : Nat) : Int) = (1 : Int))) && decide (y1.v = (10 : Int))) && decide (zL (⟨#[45]⟩ : ByteArray) [(RowD.mk [(Lbl.mk (⟨#[97]⟩ : ByteArray) (⟨#[49]⟩ : ByteArray))] 5)] 1 true = (0 : Int))) && decide ((((zr (⟨#[45]⟩ : ByteArray) [(RowD.mk [(Lbl.mk (⟨#[97]⟩ : ByteArray) (⟨#[49]⟩ : ByteArray))] 5)] 1 true).length : Nat) : Int) = (1 : Int))) && decide (y2.v = ((-4) : Int))) && z7 [(RowD.mk [(Lbl.mk (⟨#[97]⟩ : ByteArray) (⟨#[49]⟩ : ByteArray))] 5)])) :: [(1, .sh 2 ([(RowD.mk [(Lbl.mk (⟨#[97]⟩ : ByteArray) (⟨#[49]⟩ : ByteArray))] 5)].map RowD.d)), (2, .ov v1), (3, dI (zaN (⟨#[43]⟩ : ByteArray) [(RowD.mk [(Lbl.mk (⟨#[97]⟩ : ByteArray) (⟨#[49]⟩ : ByteArray))] 5)] [(RowD.mk [(Lbl.mk (⟨#[97]⟩ : ByteArray) (⟨#[49]⟩ : ByteArray))] 5)] 0 [])), (4, .ov v2), (5, dI (zL (⟨#[45]⟩ : ByteArray) [(RowD.mk [(Lbl.mk (⟨#[97]⟩ : ByteArray) (⟨#[49]⟩ : ByteArray))] 5)] 1 true))]) ⟨sc rfl (Cv.eq (congrArg (fun b => D.v (.bool b)) (by first | (simp [hg4, hg5, hg6]; done) | (simp_all; done)))), sk rfl, sk rfl, sk rfl, sk rfl, sk rfl, trivial⟩ hQ3
      · skip
        refine zc rfl (za rfl rfl (zb rfl) (za rfl rfl (zZ rfl rfl (decide_eq_true hg4)) (za rfl rfl (zb rfl) (zi rfl rfl rfl rfl rfl (zb rfl) (zi rfl rfl rfl rfl rfl (zab (n := (zad (⟨#[43]⟩ : ByteArray) [(RowD.mk [(Lbl.mk (⟨#[97]⟩ : ByteArray) (⟨#[49]⟩ : ByteArray))] 5)] [(RowD.mk [(Lbl.mk (⟨#[97]⟩ : ByteArray) (⟨#[49]⟩ : ByteArray))] 5)] 0 []).length) (j := 1) rfl rfl Try.runUnderlying22 (List.length_map _)) (zi rfl rfl rfl rfl rfl (zZ rfl rfl (decide_eq_false hg5)) (za rfl rfl (zp rfl rfl) (za rfl rfl (zb rfl) (zj rfl rfl rfl rfl rfl (by decide) (zj rfl rfl rfl rfl rfl (by decide) (zj rfl rfl rfl rfl rfl (by decide) (zj rfl rfl rfl rfl rfl (by decide) (zj rfl rfl rfl rfl rfl (by decide) (za rfl rfl (zl rfl rfl) (za rfl rfl (zb rfl) (zj rfl rfl rfl rfl rfl (by decide) (zj rfl rfl rfl rfl rfl (by decide) (za rfl rfl (zl rfl rfl) (za rfl rfl (zb rfl) (zj rfl rfl rfl rfl rfl (by decide) (zj rfl rfl rfl rfl rfl (by decide) (zj rfl rfl rfl rfl rfl (by decide) (za rfl rfl (zl rfl rfl) (za rfl rfl (zb rfl) (zj rfl rfl rfl rfl rfl (by decide) (zj rfl rfl rfl rfl rfl (by decide) (zj rfl rfl rfl rfl rfl (by decide) (zj rfl rfl rfl rfl rfl (by decide) (zj rfl rfl rfl rfl rfl (by decide) (za rfl rfl (zl rfl rfl) (za rfl rfl (zb rfl) ?_)))))))))))))))))))))))))))))))
        refine zj rfl rfl rfl rfl rfl (by decide) (zj rfl rfl rfl rfl rfl (by decide) (za rfl rfl (zl rfl rfl) (za rfl rfl (ze rfl) (zg rfl ?_))))
        exact PD.sub ((0, dB ((((((decide (zaN (⟨#[43]⟩ : ByteArray) [(RowD.mk [(Lbl.mk (⟨#[97]⟩ : ByteArray) (⟨#[49]⟩ : ByteArray))] 5)] [(RowD.mk [(Lbl.mk (⟨#[97]⟩ : ByteArray) (⟨#[49]⟩ : ByteArray))] 5)] 0 [] = (0 : Int)) && decide ((((zad (⟨#[43]⟩ : ByteArray) [(RowD.mk [(Lbl.mk (⟨#[97]⟩ : ByteArray) (⟨#[49]⟩ : ByteArray))] 5)] [(RowD.mk [(Lbl.mk (⟨#[97]⟩ : ByteArray) (⟨#[49]⟩ : ByteArray))] 5)] 0 []).length : Nat) : Int) = (1 : Int))) && decide (y1.v = (10 : Int))) && decide (zL (⟨#[45]⟩ : ByteArray) [(RowD.mk [(Lbl.mk (⟨#[97]⟩ : ByteArray) (⟨#[49]⟩ : ByteArray))] 5)] 1 true = (0 : Int))) && decide ((((zr (⟨#[45]⟩ : ByteArray) [(RowD.mk [(Lbl.mk (⟨#[97]⟩ : ByteArray) (⟨#[49]⟩ : ByteArray))] 5)] 1 true).length : Nat) : Int) = (1 : Int))) && decide (y2.v = ((-4) : Int))) && z7 [(RowD.mk [(Lbl.mk (⟨#[97]⟩ : ByteArray) (⟨#[49]⟩ : ByteArray))] 5)])) :: [(1, .sh 2 ([(RowD.mk [(Lbl.mk (⟨#[97]⟩ : ByteArray) (⟨#[49]⟩ : ByteArray))] 5)].map RowD.d)), (2, .ov v1), (3, dI (zaN (⟨#[43]⟩ : ByteArray) [(RowD.mk [(Lbl.mk (⟨#[97]⟩ : ByteArray) (⟨#[49]⟩ : ByteArray))] 5)] [(RowD.mk [(Lbl.mk (⟨#[97]⟩ : ByteArray) (⟨#[49]⟩ : ByteArray))] 5)] 0 [])), (4, .ov v2), (5, dI (zL (⟨#[45]⟩ : ByteArray) [(RowD.mk [(Lbl.mk (⟨#[97]⟩ : ByteArray) (⟨#[49]⟩ : ByteArray))] 5)] 1 true))]) ⟨sc rfl (Cv.eq (congrArg (fun b => D.v (.bool b)) (by first | (simp [hg4, hg5]; done) | (simp_all; done)))), sk rfl, sk rfl, sk rfl, sk rfl, sk rfl, trivial⟩ hQ3
    · skip
      refine zc rfl (za rfl rfl (zb rfl) (za rfl rfl (zZ rfl rfl (decide_eq_false hg4)) (za rfl rfl (zb rfl) (zj rfl rfl rfl rfl rfl (by decide) (zj rfl rfl rfl rfl rfl (by decide) (zj rfl rfl rfl rfl rfl (by decide) (za rfl rfl (zl rfl rfl) (za rfl rfl (zb rfl) (zj rfl rfl rfl rfl rfl (by decide) (zj rfl rfl rfl rfl rfl (by decide) (zj rfl rfl rfl rfl rfl (by decide) (zj rfl rfl rfl rfl rfl (by decide) (zj rfl rfl rfl rfl rfl (by decide) (za rfl rfl (zl rfl rfl) (za rfl rfl (zb rfl) (zj rfl rfl rfl rfl rfl (by decide) (zj rfl rfl rfl rfl rfl (by decide) (za rfl rfl (zl rfl rfl) (za rfl rfl (zb rfl) (zj rfl rfl rfl rfl rfl (by decide) (zj rfl rfl rfl rfl rfl (by decide) (zj rfl rfl rfl rfl rfl (by decide) (za rfl rfl (zl rfl rfl) (za rfl rfl (zb rfl) (zj rfl rfl rfl rfl rfl (by decide) (zj rfl rfl rfl rfl rfl (by decide) (zj rfl rfl rfl rfl rfl (by decide) (zj rfl rfl rfl rfl rfl (by decide) (zj rfl rfl rfl rfl rfl (by decide) (za rfl rfl (zl rfl rfl) (za rfl rfl (zb rfl) (zj rfl rfl rfl rfl rfl (by decide) (zj rfl rfl rfl rfl rfl (by decide) (za rfl rfl (zl rfl rfl) (za rfl rfl (ze rfl) (zg rfl ?_))))))))))))))))))))))))))))))))))))
      exact PD.sub ((0, dB ((((((decide (zaN (⟨#[43]⟩ : ByteArray) [(RowD.mk [(Lbl.mk (⟨#[97]⟩ : ByteArray) (⟨#[49]⟩ : ByteArray))] 5)] [(RowD.mk [(Lbl.mk (⟨#[97]⟩ : ByteArray) (⟨#[49]⟩ : ByteArray))] 5)] 0 [] = (0 : Int)) && decide ((((zad (⟨#[43]⟩ : ByteArray) [(RowD.mk [(Lbl.mk (⟨#[97]⟩ : ByteArray) (⟨#[49]⟩ : ByteArray))] 5)] [(RowD.mk [(Lbl.mk (⟨#[97]⟩ : ByteArray) (⟨#[49]⟩ : ByteArray))] 5)] 0 []).length : Nat) : Int) = (1 : Int))) && decide (y1.v = (10 : Int))) && decide (zL (⟨#[45]⟩ : ByteArray) [(RowD.mk [(Lbl.mk (⟨#[97]⟩ : ByteArray) (⟨#[49]⟩ : ByteArray))] 5)] 1 true = (0 : Int))) && decide ((((zr (⟨#[45]⟩ : ByteArray) [(RowD.mk [(Lbl.mk (⟨#[97]⟩ : ByteArray) (⟨#[49]⟩ : ByteArray))] 5)] 1 true).length : Nat) : Int) = (1 : Int))) && decide (y2.v = ((-4) : Int))) && z7 [(RowD.mk [(Lbl.mk (⟨#[97]⟩ : ByteArray) (⟨#[49]⟩ : ByteArray))] 5)])) :: [(1, .sh 2 ([(RowD.mk [(Lbl.mk (⟨#[97]⟩ : ByteArray) (⟨#[49]⟩ : ByteArray))] 5)].map RowD.d)), (2, .ov v1), (3, dI (zaN (⟨#[43]⟩ : ByteArray) [(RowD.mk [(Lbl.mk (⟨#[97]⟩ : ByteArray) (⟨#[49]⟩ : ByteArray))] 5)] [(RowD.mk [(Lbl.mk (⟨#[97]⟩ : ByteArray) (⟨#[49]⟩ : ByteArray))] 5)] 0 [])), (4, .ov v2), (5, dI (zL (⟨#[45]⟩ : ByteArray) [(RowD.mk [(Lbl.mk (⟨#[97]⟩ : ByteArray) (⟨#[49]⟩ : ByteArray))] 5)] 1 true))]) ⟨sc rfl (Cv.eq (congrArg (fun b => D.v (.bool b)) (by first | (simp [hg4]; done) | (simp_all; done)))), sk rfl, sk rfl, sk rfl, sk rfl, sk rfl, trivial⟩ hQ3
  · skip
    refine zf (zz rfl ?_)
    exact zw Try.results8 (.cons (zM (zq rfl) (Cv.eq (congrArg (fun b => D.v (.bool b)) (by simp [am1, am2, as1, as2, av, ey1, ey2])))) .nil) rfl HSub.none ⟨rfl, rfl⟩
end Lp
/-
  What is said of vectors (chapter 10): keys, sums, sizes, contraries.
-/
set_option linter.unusedVariables false
namespace Lp
open Go
/-! ### rows by an op that does not compare -/
theorem sc_op {op : ByteArray} (h : cmpB op = false) (ho : opB op = true) {a : List RowD} (ha : z7 a = true) {v : Int} (hv : zax v = true) {left : Bool} (hk : ∀ r ∈ a, keyL 0 [] r.ls = r.ls) (g : RowD → Int) (hF : ∀ r ∈ a, scF op v left r = (g r, 0)) (hg : ∀ r ∈ a, zax (g r) = true) :
    zr op a v left = a.map (fun r => ⟨r.ls, g r⟩) ∧ zL op a v left = 0 := by
  have hgd : zbM op v a = true := by unfold zbM; rw [ho, ha, hv]; rfl
  have h0 : zaI (scF op v left) a = 0 := firstE_0.2 (fun r hr => by rw [hF r hr])
  have ho : zco op v left a = a.map (fun r => ⟨r.ls, g r⟩) := fm_map (fun r hr => by unfold zcI; rw [h, if_neg (by decide), hF r hr, hk r hr])
  obtain ⟨e1, e2⟩ := rt_self (vr_map ha g hg)
  unfold zr zL
  rw [if_pos hgd, if_pos hgd, if_pos h0, if_pos h0, ho, e1, e2]; exact ⟨rfl, rfl⟩
def zdK (r : RowD) : Bool := noMet r && (decide (r.v < 500000000000) && decide (-500000000000 < r.v))
def zbO (l : List RowD) : List RowD := l.filter zdK
theorem sfree_snoc {l : List RowD} {k : Nat} {x : RowD} (hx : l[k]? = some x) (h : zdK x = true) : zbO (l.take (k + 1)) = zbO (l.take k) ++ [x] := by
  rw [zai hx]; unfold zbO; rw [List.filter_append]; simp [h]
theorem sfree_skip {l : List RowD} {k : Nat} {x : RowD} (hx : l[k]? = some x) (h : zdK x = false) : zbO (l.take (k + 1)) = zbO (l.take k) := by
  rw [zai hx]; unfold zbO; rw [List.filter_append]; simp [h]
structure Negs (a : List RowD) (v : Int) : Prop where
  e1 : zL ⟨#[45]⟩ a 0 true = 0
  e2 : zL ⟨#[45]⟩ (zr ⟨#[45]⟩ a 0 true) 0 true = 0
  e3 : zL ⟨#[45]⟩ a v true = 0
  e4 : zL ⟨#[43]⟩ (zr ⟨#[45]⟩ a 0 true) v false = 0
  l2 : zr ⟨#[45]⟩ (zr ⟨#[45]⟩ a 0 true) 0 true = a
  l3 : zr ⟨#[45]⟩ a v true = zr ⟨#[43]⟩ (zr ⟨#[45]⟩ a 0 true) v false
theorem within_ok {v : Int} (h : zax v = true) : zbg v = (v, 0) := by unfold zbg; rw [if_pos h]
theorem rV {v : Int} (h1 : -1000000000000 ≤ v) (h2 : v ≤ 1000000000000) : zax v = true := by unfold zax; simp [h1, h2]
theorem negs {l : List RowD} (h : z7 l = true) {v : Int} (h1 : v ≤ 1000000) (h2 : -1000000 ≤ v) : Negs (zbO l) v := by
  have ha : z7 (zbO l) = true := vr_filter h _
  have hm : ∀ r ∈ zbO l, r ∈ mfree l ∧ r.v < 500000000000 ∧ -500000000000 < r.v := fun r hr => by
    obtain ⟨q1, q2⟩ := List.mem_filter.1 hr
    unfold zdK at q2
    simp only [Bool.and_eq_true, decide_eq_true_eq] at q2
    exact ⟨List.mem_filter.2 ⟨q1, q2.1⟩, q2.2⟩
  have hk : ∀ r ∈ zbO l, keyL 0 [] r.ls = r.ls := fun r hr => mfree_key h (hm r hr).1 []
  have hv : zax v = true := rV (by omega) (by omega)
  have hneg : ∀ (w : Int) (r : RowD), -1000000 ≤ w → w ≤ 1000000 → r.v < 500000000000 → -500000000000 < r.v → scF ⟨#[45]⟩ w true r = (w - r.v, 0) := fun w r a1 a2 a3 a4 => by
    unfold scF; rw [if_pos rfl, do_minus (rV (by omega) (by omega)) (rV (by omega) (by omega)), within_ok (rV (by omega) (by omega))]
  obtain ⟨n1, n2⟩ := sc_op (op := ⟨#[45]⟩) (left := true) (v := 0) (by decide) op_minus ha (by decide) hk (fun r => 0 - r.v) (fun r hr => hneg 0 r (by omega) (by omega) (hm r hr).2.1 (hm r hr).2.2) (fun r hr => rV (by have := (hm r hr).2; omega) (by have := (hm r hr).2; omega))
  obtain ⟨x1, x2⟩ := sc_op (op := ⟨#[45]⟩) (left := true) (v := v) (by decide) op_minus ha hv hk (fun r => v - r.v) (fun r hr => hneg v r h2 h1 (hm r hr).2.1 (hm r hr).2.2) (fun r hr => rV (by have := (hm r hr).2; omega) (by have := (hm r hr).2; omega))
  have hn : z7 (zr ⟨#[45]⟩ (zbO l) 0 true) = true := by rw [n1]; exact vr_map ha _ (fun r hr => rV (by have := (hm r hr).2; omega) (by have := (hm r hr).2; omega))
  have hnm : ∀ q ∈ zr ⟨#[45]⟩ (zbO l) 0 true, ∃ r ∈ zbO l, q = ⟨r.ls, 0 - r.v⟩ := fun q hq => by
    rw [n1] at hq
    obtain ⟨r, hr, e⟩ := List.mem_map.1 hq
    exact ⟨r, hr, e.symm⟩
  have hnk : ∀ q ∈ zr ⟨#[45]⟩ (zbO l) 0 true, keyL 0 [] q.ls = q.ls := fun q hq => by obtain ⟨r, hr, rfl⟩ := hnm q hq; exact hk r hr
  have hnb : ∀ q ∈ zr ⟨#[45]⟩ (zbO l) 0 true, q.v < 500000000000 ∧ -500000000000 < q.v := fun q hq => by
    obtain ⟨r, hr, rfl⟩ := hnm q hq
    have := (hm r hr).2
    show 0 - r.v < _ ∧ _ < 0 - r.v; omega
  obtain ⟨m1, m2⟩ := sc_op (op := ⟨#[45]⟩) (left := true) (v := 0) (by decide) op_minus hn (by decide) hnk (fun r => 0 - r.v) (fun r hr => hneg 0 r (by omega) (by omega) (hnb r hr).1 (hnb r hr).2) (fun r hr => rV (by have := hnb r hr; omega) (by have := hnb r hr; omega))
  have hplus : ∀ r ∈ zr ⟨#[45]⟩ (zbO l) 0 true, scF ⟨#[43]⟩ v false r = (r.v + v, 0) := fun r hr => by
    have := hnb r hr
    unfold scF; rw [if_neg (by decide), do_plus (rV (by omega) (by omega)) hv, within_ok (rV (by omega) (by omega))]
  obtain ⟨y1, y2⟩ := sc_op (op := ⟨#[43]⟩) (left := false) (v := v) (by decide) op_plus hn hv hnk (fun r => r.v + v) hplus (fun r hr => rV (by have := hnb r hr; omega) (by have := hnb r hr; omega))
  refine ⟨n2, m2, x2, y2, ?_, ?_⟩
  · rw [m1, n1, List.map_map]
    have : ∀ r ∈ zbO l, ((fun r : RowD => (⟨r.ls, 0 - r.v⟩ : RowD)) ∘ fun r : RowD => (⟨r.ls, 0 - r.v⟩ : RowD)) r = r := fun r _ => by
      show (⟨r.ls, 0 - (0 - r.v)⟩ : RowD) = r
      rw [show (0 : Int) - (0 - r.v) = r.v by omega]
    rw [List.map_congr_left this, List.map_id']
  · rw [x1, y1, n1, List.map_map]
    refine List.map_congr_left (fun r _ => ?_)
    show (⟨r.ls, v - r.v⟩ : RowD) = ⟨r.ls, 0 - r.v + v⟩
    rw [show v - r.v = 0 - r.v + v by omega]
end Lp
