/-
  What is said of vectors (chapter 10), as plain data.
-/
import Derived.Test.YtfjinapgehafiaaV2
set_option linter.unusedVariables false
namespace Lp
open Go
/-! ### rows that may be -/
theorem zcy {l : List RowD} : zbu l = true ↔ ∀ r ∈ l, zba r = true := by rw [rowsB_ok, List.all_eq_true]
theorem right_n {l : List Lbl} (h : zbe l = true) : zQ l = l ∧ za0 l = 0 ∧ NSrt l ∧ (∀ x ∈ l, okL x = true) ∧ l.length ≤ 8 := by
  unfold zbe at h
  rw [Bool.and_eq_true, decide_eq_true_eq] at h
  have e := cmpLs_eq.1 h.2
  have e0 : za0 l = 0 := by have := tidyOk_E l; rw [h.1] at this; exact of_decide_eq_true this
  have hn := zd2 e0
  rw [e] at hn
  exact ⟨e, e0, hn.1, hn.2, tidy_ok_len h.1⟩
theorem right_of {l : List Lbl} (h1 : l.length ≤ 8) (h2 : NSrt l) (h3 : ∀ x ∈ l, okL x = true) : zbe l = true := by
  obtain ⟨e1, e2⟩ := tidyOk_of h1 h2 (List.Perm.refl l) h3
  unfold zbe zQ
  rw [e1, e2]
  simp [cmpLs_self]
theorem right_pick {l : List Lbl} (h : zbe l = true) (ns : List ByteArray) (w : Bool) : zbe (zaQ l ns w) = true := by
  obtain ⟨_, _, h3, h4, h5⟩ := right_n h
  exact right_of (Nat.le_trans (zbV _ _ _) h5) (List.Pairwise.filter _ h3) (fun x hx => h4 x (zcX hx))
theorem right_key {l : List Lbl} (h : zbe l = true) (mode : Int) (ns : List ByteArray) : zbe (keyL mode ns l) = true := by
  unfold keyL
  split
  · exact right_pick h _ _
  · split
    · exact right_pick (right_pick h _ _) _ _
    · exact right_pick h _ _
theorem zcf {r : RowD} (h : zba r = true) : zbe r.ls = true ∧ zax r.v = true := by unfold zba at h; rwa [Bool.and_eq_true] at h
theorem zdo {r : RowD} (h1 : zbe r.ls = true) (h2 : zax r.v = true) : zba r = true := by unfold zba; rw [h1, h2]; rfl
theorem rt_rows {l : List RowD} (h : rtE l = 0) : l.length ≤ 2000 ∧ zbu l = true := by
  unfold rtE at h
  cases hb : decide (l.length ≤ 2000) && zbu l
  · rw [hb] at h; cases h
  · rw [Bool.and_eq_true, decide_eq_true_eq] at hb; exact hb
theorem tidyRs_rows (l : List RowD) : ∀ r ∈ zk l, zba r = true := by
  have key : ∀ (m out : List RowD), (∀ r ∈ out, zba r = true) → ∀ r ∈ m.foldl zbq out, zba r = true := by
    intro m
    induction m with
    | nil => intro out h; exact h
    | cons x m ih =>
      intro out h
      refine ih (zbq out x) ?_
      unfold zbq
      split
      · rename_i hc
        intro r hr
        have h1 := (rt_rows hc.2.2).2
        rw [zcy] at h1
        exact h1 r ((rt_strict hc.2.2).2.mem_iff.1 hr)
      · exact h
  exact key l [] (fun _ h => by cases h)
theorem zbD {a : List RowD} (h : z1 a = true) : ∀ r ∈ a, zba r = true := zcy.1 (zbk.1 h).2.1
theorem zcx {a : List RowD} (h : z1 a = true) : zaI cL a := (zbk.1 h).2.2
theorem vr_of {a : List RowD} (h1 : a.length ≤ 2000) (h2 : ∀ r ∈ a, zba r = true) (h3 : zaI cL a) : z1 a = true := zbk.2 ⟨h1, zcy.2 h2, h3⟩
theorem vr_tidy {l : List RowD} (h : za7 l = true) : z1 (zk l) = true := by
  have t := tidyRs_trs (fun r hr => lightR_row h hr)
  have := lightR_len h
  exact vr_of (by have := t.len; omega) (tidyRs_rows l) t.st
theorem rt_perm {a b : List RowD} (h : z1 a = true) (hp : a.Perm b) : rtL b = a ∧ rtE b = 0 := by
  have e := strict_isort zcJ (zcx h) hp
  have hb : ordB b = true := by unfold ordB; rw [e]; exact decide_eq_true (zcx h)
  have h1 : ¬ (2000 : Int) < ((b.length : Nat) : Int) := by have := (zbk.1 h).1; rw [← hp.length_eq]; omega
  have h2 : zbu b = true := zcy.2 (fun r hr => zbD h r (hp.mem_iff.2 hr))
  obtain ⟨e1, e2⟩ := zdZ h1 h2
  rw [← e1, ← e2]
  unfold ordL ordE; rw [hb, e]; exact ⟨rfl, rfl⟩
theorem rt_self {a : List RowD} (h : z1 a = true) : rtL a = a ∧ rtE a = 0 := rt_perm h (List.Perm.refl a)
theorem rt_cases (l : List RowD) : (rtE l = 0 ∧ z1 (rtL l) = true ∧ (rtL l).Perm l) ∨ (rtE l ≠ 0 ∧ rtL l = []) := by
  by_cases h : rtE l = 0
  · obtain ⟨s1, s2⟩ := rt_strict h
    obtain ⟨r1, r2⟩ := rt_rows h
    exact .inl ⟨h, vr_of (by rw [s2.length_eq]; exact r1) (fun r hr => zcy.1 r2 r (s2.mem_iff.1 hr)) s1, s2⟩
  · refine .inr ⟨h, ?_⟩
    unfold rtE at h
    unfold rtL
    cases hb : decide (l.length ≤ 2000) && zbu l
    · rfl
    · rw [hb] at h
      simp only [cond_true] at h ⊢
      unfold ordE at h; unfold ordL
      cases ho : ordB l
      · rfl
      · rw [ho] at h; exact absurd rfl h
theorem vr_rt (l : List RowD) : z1 (rtL l) = true := by
  rcases rt_cases l with ⟨_, h, _⟩ | ⟨_, h⟩
  · exact h
  · rw [h]; rfl
theorem rt_len (l : List RowD) : (rtL l).length ≤ l.length := by
  rcases rt_cases l with ⟨_, _, h⟩ | ⟨_, h⟩
  · rw [h.length_eq]; exact Nat.le_refl _
  · rw [h]; exact Nat.zero_le _
/-! ### what is kept of each -/
theorem fm_map {α β : Type} {f : α → Option β} {g : α → β} : ∀ {l : List α}, (∀ r ∈ l, f r = some (g r)) → l.filterMap f = l.map g
  | [], _ => rfl
  | r :: l, h => by rw [List.filterMap_cons_some (h r List.mem_cons_self), fm_map (fun x hx => h x (List.mem_cons_of_mem _ hx))]; rfl
theorem nd_inj {α β : Type} {f : α → β} : ∀ {l : List α}, (l.map f).Nodup → ∀ {x y : α}, x ∈ l → y ∈ l → f x = f y → x = y
  | [], _, x, y, hx, _, _ => by cases hx
  | a :: l, h, x, y, hx, hy, e => by
    rw [List.map_cons, List.nodup_cons] at h
    rcases List.mem_cons.1 hx with ex | ex <;> rcases List.mem_cons.1 hy with ey | ey
    · rw [ex, ey]
    · exact absurd (List.mem_map.2 ⟨y, ey, by rw [← e, ex]⟩) h.1
    · exact absurd (List.mem_map.2 ⟨x, ex, by rw [e, ey]⟩) h.1
    · exact nd_inj h.2 ex ey e
theorem find_self {mode : Int} {ns : List ByteArray} {a : List RowD} (h : ndT mode ns a) {r : RowD} (hr : r ∈ a) : zcu mode ns (keyT mode ns r) a = some r := by
  obtain ⟨j, q, h1, h2, h3, h4⟩ := findT_some (mode := mode) (ns := ns) (t := keyT mode ns r) (b := a) (List.mem_map.2 ⟨r, hr, rfl⟩)
  rw [h3, nd_inj (f := keyT mode ns) h (List.mem_of_getElem? h2) hr h4]
theorem text_inj {a b : List Lbl} (ha : zbe a = true) (hb : zbe b = true) (h : zbS a = zbS b) : a = b := by
  obtain ⟨a1, a2, _⟩ := right_n ha
  obtain ⟨b1, b2, _⟩ := right_n hb
  have := textB_inj a2 b2 (by rw [a1, b1]; exact h)
  rwa [a1, b1] at this
theorem key_eq {mode : Int} {ns : List ByteArray} {q r : RowD} (hq : zba q = true) (hr : zba r = true) : keyT mode ns q = keyT mode ns r ↔ keyL mode ns q.ls = keyL mode ns r.ls :=
  ⟨fun h => text_inj (right_key (zcf hq).1 _ _) (right_key (zcf hr).1 _ _) h, fun h => by unfold keyT; rw [h]⟩
theorem find_q {mode : Int} {ns : List ByteArray} {b : List RowD} {t : ByteArray} {q : RowD} (h : zcu mode ns t b = some q) : q ∈ b ∧ keyT mode ns q = t :=
  ⟨List.mem_of_find?_eq_some h, by have := List.find?_some h; exact of_decide_eq_true this⟩
theorem nd_of_keys {mode : Int} {ns : List ByteArray} {a : List RowD} (h : ∀ r ∈ a, zba r = true) : ndT mode ns a ↔ (a.map (fun r => keyL mode ns r.ls)).Nodup := by
  unfold ndT z9
  induction a with
  | nil => simp
  | cons x a ih =>
    have ih := ih (fun r hr => h r (List.mem_cons_of_mem _ hr))
    rw [List.map_cons, List.map_cons, List.nodup_cons, List.nodup_cons, ih]
    refine and_congr (not_congr ⟨fun hm => ?_, fun hm => ?_⟩) Iff.rfl
    · obtain ⟨y, hy, e⟩ := List.mem_map.1 hm
      exact List.mem_map.2 ⟨y, hy, (key_eq (h y (List.mem_cons_of_mem _ hy)) (h x List.mem_cons_self)).1 e⟩
    · obtain ⟨y, hy, e⟩ := List.mem_map.1 hm
      exact List.mem_map.2 ⟨y, hy, (key_eq (h y (List.mem_cons_of_mem _ hy)) (h x List.mem_cons_self)).2 e⟩
theorem strict_ls {a : List RowD} (h : zaI cL a) : (a.map (·.ls)).Nodup := by
  rw [List.Nodup, List.pairwise_map]
  exact List.Pairwise.imp (fun {x y} hxy e => by unfold cL at hxy; rw [e, cmpLs_self] at hxy; omega) h
end Lp
/-
  What is said of vectors (chapter 10): the first call, twice the same, splits.
-/
set_option linter.unusedVariables false
namespace Lp
open Go
/-! ### the first call -/
def al10 : List RowD := [⟨[⟨⟨#[97]⟩, ⟨#[49]⟩⟩], 5⟩]
theorem al10_ls : zbe [⟨⟨#[97]⟩, ⟨#[49]⟩⟩] = true :=
  right_of (by decide) (List.pairwise_singleton _ _) (fun x hx => by rw [List.mem_singleton.1 hx]; unfold okL; rw [name_a]; decide)
theorem one_vr {r : RowD} (h : zba r = true) : z1 [r] = true :=
  vr_of (by simp) (fun x hx => by rw [List.mem_singleton.1 hx]; exact h) (List.pairwise_singleton _ _)
theorem al10_vr : z1 al10 = true := one_vr (zdo al10_ls (by decide))
theorem key10 : keyL 0 [] [⟨⟨#[97]⟩, ⟨#[49]⟩⟩] = [⟨⟨#[97]⟩, ⟨#[49]⟩⟩] := by decide
theorem op_plus : opB ⟨#[43]⟩ = true := by decide
theorem op_minus : opB ⟨#[45]⟩ = true := by decide
theorem nd_one (mode : Int) (ns : List ByteArray) (r : RowD) : ndT mode ns [r] := by unfold ndT z9; simp
theorem al10_m : zq ⟨#[43]⟩ al10 al10 0 [] = [⟨[⟨⟨#[97]⟩, ⟨#[49]⟩⟩], 10⟩] ∧ zP ⟨#[43]⟩ al10 al10 0 [] = 0 := by
  have hg : zbB ⟨#[43]⟩ al10 al10 = true := by unfold zbB; rw [op_plus, al10_vr]; rfl
  have hn : ndT 0 [] al10 ∧ ndT 0 [] al10 := ⟨nd_one _ _ _, nd_one _ _ _⟩
  have hf := find_self hn.1 (r := ⟨[⟨⟨#[97]⟩, ⟨#[49]⟩⟩], 5⟩) List.mem_cons_self
  have d : doE ⟨#[43]⟩ 5 5 = (10, 0) := by decide
  have h0 : zaG (maF ⟨#[43]⟩ 0 [] al10) al10 = 0 := zdu.2 (fun r hr => by rw [List.mem_singleton.1 hr]; unfold maF; rw [hf]; exact congrArg Prod.snd d)
  have ho : zbA ⟨#[43]⟩ 0 [] al10 al10 = [⟨[⟨⟨#[97]⟩, ⟨#[49]⟩⟩], 10⟩] := by
    have : zbI ⟨#[43]⟩ 0 [] al10 ⟨[⟨⟨#[97]⟩, ⟨#[49]⟩⟩], 5⟩ = some ⟨[⟨⟨#[97]⟩, ⟨#[49]⟩⟩], 10⟩ := by
      rw [zds hf (by decide), d, key10]
    show List.filterMap (zbI ⟨#[43]⟩ 0 [] al10) [⟨[⟨⟨#[97]⟩, ⟨#[49]⟩⟩], 5⟩] = _
    rw [List.filterMap_cons_some this]; rfl
  obtain ⟨e1, e2⟩ := rt_self (one_vr (r := ⟨[⟨⟨#[97]⟩, ⟨#[49]⟩⟩], 10⟩) (zdo al10_ls (by decide)))
  unfold zq zP
  rw [if_pos hg, if_pos hg, if_pos hn, if_pos hn, if_pos h0, if_pos h0, ho, e1, e2]; exact ⟨rfl, rfl⟩
theorem al10_s : zaq ⟨#[45]⟩ al10 1 true = [⟨[⟨⟨#[97]⟩, ⟨#[49]⟩⟩], -4⟩] ∧ zaV ⟨#[45]⟩ al10 1 true = 0 := by
  have hg : zb8 ⟨#[45]⟩ 1 al10 = true := by unfold zb8; rw [op_minus, al10_vr]; rfl
  have d : doE ⟨#[45]⟩ 1 5 = (-4, 0) := by decide
  have h0 : zaG (scF ⟨#[45]⟩ 1 true) al10 = 0 := zdu.2 (fun r hr => by rw [List.mem_singleton.1 hr]; unfold scF; rw [if_pos rfl, d])
  have ho : zcM ⟨#[45]⟩ 1 true al10 = [⟨[⟨⟨#[97]⟩, ⟨#[49]⟩⟩], -4⟩] := by
    have : zdf ⟨#[45]⟩ 1 true ⟨[⟨⟨#[97]⟩, ⟨#[49]⟩⟩], 5⟩ = some ⟨[⟨⟨#[97]⟩, ⟨#[49]⟩⟩], -4⟩ := by
      unfold zdf; rw [if_neg (by decide)]; unfold scF; rw [if_pos rfl, d, key10]
    show List.filterMap (zdf ⟨#[45]⟩ 1 true) [⟨[⟨⟨#[97]⟩, ⟨#[49]⟩⟩], 5⟩] = _
    rw [List.filterMap_cons_some this]; rfl
  obtain ⟨e1, e2⟩ := rt_self (one_vr (r := ⟨[⟨⟨#[97]⟩, ⟨#[49]⟩⟩], -4⟩) (zdo al10_ls (by decide)))
  unfold zaq zaV
  rw [if_pos hg, if_pos hg, if_pos h0, if_pos h0, ho, e1, e2]; exact ⟨rfl, rfl⟩
theorem al10_LZ : LZ al10 := fun r hr => by
  rw [List.mem_singleton.1 hr]
  exact ⟨by decide, fun x hx => by rw [List.mem_singleton.1 hx]; decide⟩
/-- rows with other numbers -/
theorem vr_map {a : List RowD} (h : z1 a = true) (g : RowD → Int) (hg : ∀ r ∈ a, zax (g r) = true) : z1 (a.map (fun r => ⟨r.ls, g r⟩)) = true := by
  refine vr_of (by rw [List.length_map]; exact (zbk.1 h).1) (fun r hr => ?_) ?_
  · obtain ⟨q, hq, rfl⟩ := List.mem_map.1 hr
    exact zdo (zcf (zbD h q hq)).1 (hg q hq)
  · unfold zaI; rw [List.pairwise_map]; exact zcx h
theorem do_minus {a b : Int} (ha : zax a = true) (hb : zax b = true) : doE ⟨#[45]⟩ a b = za5 (a - b) := by
  unfold doE; rw [if_neg (by rw [ha, hb]; decide), if_neg (by decide), if_neg (by decide), if_pos rfl]
theorem do_plus {a b : Int} (ha : zax a = true) (hb : zax b = true) : doE ⟨#[43]⟩ a b = za5 (a + b) := by
  unfold doE; rw [if_neg (by rw [ha, hb]; decide), if_neg (by decide), if_pos rfl]
end Lp
/- Walks, printed by a program of mine. -/
set_option linter.unusedSimpArgs false
set_option linter.unusedVariables false
namespace Lp
open Go Go.RowKit Go.Proofs

namespace HdYtfjinapgehafiaaV65
theorem zdI : ∀ w, ((#[⟨"Labels", 27, 0, false, "", "", 0⟩, ⟨"V", 3, 1, false, "", "", 24⟩] : Array Field).mapM fun f => do pure (f.offset, ← Go.sizeOf f.type) : Sem (Array (Nat × Nat))).run Try.prog w = .ok ([(0, 1), (1, 1)] : List (Nat × Nat)).toArray w := fun _ => by kernel_rfl
theorem bd_33 : ∀ w, ((#[⟨"Name", 9, 0, false, "", "", 0⟩, ⟨"Value", 9, 1, false, "", "", 16⟩] : Array Field).mapM fun f => do pure (f.offset, ← Go.sizeOf f.type) : Sem (Array (Nat × Nat))).run Try.prog w = .ok ([(0, 1), (1, 1)] : List (Nat × Nat)).toArray w := fun _ => by kernel_rfl
theorem zaE (b o : Nat) : ∀ w, (Instr.fieldAt 30 (.pointer (some ⟨b, o, none⟩)) 1).run Try.prog w = .ok (.pointer (some ⟨b, o + 1, none⟩)) w := fun _ => by kernel_rfl
theorem zav (b o : Nat) : ∀ w, (Instr.fieldAt 33 (.pointer (some ⟨b, o, none⟩)) 0).run Try.prog w = .ok (.pointer (some ⟨b, o + 0, none⟩)) w := fun _ => by kernel_rfl
theorem zaZ (b o : Nat) : ∀ w, (Instr.fieldAt 33 (.pointer (some ⟨b, o, none⟩)) 1).run Try.prog w = .ok (.pointer (some ⟨b, o + 1, none⟩)) w := fun _ => by kernel_rfl
end HdYtfjinapgehafiaaV65
open HdYtfjinapgehafiaaV65

set_option maxHeartbeats 4000000 in
set_option maxRecDepth 100000 in
theorem alive10_c   :
    CD Try.prog 8 [] [] (isR (dB true)) := by
  refine zL Try.func8 rfl (N := 55) rfl rfl (fun C => ?_)
  refine JD.keep [] [] rfl ?_
  have am1 : zq (⟨#[43]⟩ : ByteArray) [(RowD.mk [(Lbl.mk (⟨#[97]⟩ : ByteArray) (⟨#[49]⟩ : ByteArray))] 5)] [(RowD.mk [(Lbl.mk (⟨#[97]⟩ : ByteArray) (⟨#[49]⟩ : ByteArray))] 5)] 0 [] = [(RowD.mk [(Lbl.mk (⟨#[97]⟩ : ByteArray) (⟨#[49]⟩ : ByteArray))] 10)] := al10_m.1
  have am2 : zP (⟨#[43]⟩ : ByteArray) [(RowD.mk [(Lbl.mk (⟨#[97]⟩ : ByteArray) (⟨#[49]⟩ : ByteArray))] 5)] [(RowD.mk [(Lbl.mk (⟨#[97]⟩ : ByteArray) (⟨#[49]⟩ : ByteArray))] 5)] 0 [] = 0 := al10_m.2
  have as1 : zaq (⟨#[45]⟩ : ByteArray) [(RowD.mk [(Lbl.mk (⟨#[97]⟩ : ByteArray) (⟨#[49]⟩ : ByteArray))] 5)] 1 true = [(RowD.mk [(Lbl.mk (⟨#[97]⟩ : ByteArray) (⟨#[49]⟩ : ByteArray))] (-4))] := al10_s.1
  have as2 : zaV (⟨#[45]⟩ : ByteArray) [(RowD.mk [(Lbl.mk (⟨#[97]⟩ : ByteArray) (⟨#[49]⟩ : ByteArray))] 5)] 1 true = 0 := al10_s.2
  have av : z1 [(RowD.mk [(Lbl.mk (⟨#[97]⟩ : ByteArray) (⟨#[49]⟩ : ByteArray))] 5)] = true := al10_vr
  refine zh _ _ rfl rfl rfl (zc rfl (za rfl rfl (ze rfl) (zg rfl (zf (zh _ _ rfl rfl rfl (zc rfl (za rfl rfl (zdd [0, 1] [.const (.string (⟨#[97]⟩ : ByteArray)), .const (.string (⟨#[49]⟩ : ByteArray))] (zv := (.agg #[(.string ByteArray.empty), (.string ByteArray.empty)])) rfl rfl (.cons (CellD.v rfl) (.cons (CellD.v rfl) .nil)) (Try.runUnderlying33) Try.zeroValue33 bd_33 ⟨rfl, rfl, trivial⟩ rfl) (zl rfl rfl (Qu.ef (d := .sh 2 ([(Lbl.mk (⟨#[97]⟩ : ByteArray) (⟨#[49]⟩ : ByteArray))].map Lbl.d)) ((zaY [.tmp 6] rfl rfl (.cons CellD.agg .nil) rfl Try.runUnderlying27 Try.sizeOf33 Try.zeroValue33 rfl rfl rfl rfl).cv (Cv.shs (.cons (Cv.agg (.cons ((Cv.str (by first | decide | (unfold maxLen; omega)))) (.cons ((Cv.str (by first | decide | (unfold maxLen; omega)))) .nil))) .nil)))) ?_))))))))
  rintro _ _ ⟨rfl, rfl⟩
  refine za rfl rfl (zdd [0, 1] [.tmp 7, .const (.int .i64 5)] (zv := (.agg #[(.slice none 0 0), (.int .i64 0)])) rfl rfl (.cons CellD.sh (.cons (CellD.v rfl) .nil)) (Try.runUnderlying30) Try.zeroValue30 zdI ⟨rfl, rfl, trivial⟩ rfl) (zl rfl rfl (Qu.ef (d := .sh 2 ([(RowD.mk [(Lbl.mk (⟨#[97]⟩ : ByteArray) (⟨#[49]⟩ : ByteArray))] 5)].map RowD.d)) (zaY [.tmp 8] rfl rfl (.cons CellD.agg .nil) rfl Try.runUnderlying22 Try.sizeOf30 Try.zeroValue30 rfl rfl rfl rfl)) ?_)
  rintro _ _ ⟨rfl, rfl⟩
  refine za rfl rfl (ze rfl) (zg rfl (zf (zh _ _ rfl rfl rfl (zc rfl (za rfl rfl (zb rfl) (za rfl rfl (zb rfl) (zl rfl rfl (zt [] _ [] rfl rfl (.cons (ArgC.cv (Cv.str (by first | decide | (unfold maxLen; omega)))) (.cons ArgC.id (.cons ArgC.id (.cons ArgC.id (.cons (ArgC.cv Cv.nil) .nil))))) zo Try.call12 (Match_c (⟨#[43]⟩ : ByteArray) [(RowD.mk [(Lbl.mk (⟨#[97]⟩ : ByteArray) (⟨#[49]⟩ : ByteArray))] 5)] [(RowD.mk [(Lbl.mk (⟨#[97]⟩ : ByteArray) (⟨#[49]⟩ : ByteArray))] 5)] 0 [] al10_LZ al10_LZ) (.inl rfl)) ?_)))))))
  rintro _ _ ⟨_, ⟨v1, rfl, rfl⟩, rfl⟩
  refine OpsD.norm [.sl v1 2 30 ((zq (⟨#[43]⟩ : ByteArray) [(RowD.mk [(Lbl.mk (⟨#[97]⟩ : ByteArray) (⟨#[49]⟩ : ByteArray))] 5)] [(RowD.mk [(Lbl.mk (⟨#[97]⟩ : ByteArray) (⟨#[49]⟩ : ByteArray))] 5)] 0 []).map RowD.d)] rfl (za rfl rfl (zb rfl) (za rfl rfl (zF rfl rfl) (za rfl rfl (zF rfl rfl) (za rfl rfl (ze rfl) (za rfl rfl (ze rfl) (zg rfl (zf (JD.keep [0, 1, 2, 3] [(0, dB false), (1, .sh 2 ([(RowD.mk [(Lbl.mk (⟨#[97]⟩ : ByteArray) (⟨#[49]⟩ : ByteArray))] 5)].map RowD.d)), (2, .ov v1), (3, dI (zP (⟨#[43]⟩ : ByteArray) [(RowD.mk [(Lbl.mk (⟨#[97]⟩ : ByteArray) (⟨#[49]⟩ : ByteArray))] 5)] [(RowD.mk [(Lbl.mk (⟨#[97]⟩ : ByteArray) (⟨#[49]⟩ : ByteArray))] 5)] 0 []))] rfl (zh _ _ rfl rfl rfl (zc rfl (za rfl rfl (zb rfl) (zl rfl rfl (zt [] _ [] rfl rfl (.cons (ArgC.cv (Cv.str (by first | decide | (unfold maxLen; omega)))) (.cons ArgC.id (.cons ArgC.id (.cons ArgC.id .nil)))) zo Try.call16 (Scale_c (⟨#[45]⟩ : ByteArray) [(RowD.mk [(Lbl.mk (⟨#[97]⟩ : ByteArray) (⟨#[49]⟩ : ByteArray))] 5)] 1 true) (.inl rfl)) ?_))))))))))))
  rintro _ _ ⟨_, ⟨v2, rfl, rfl⟩, rfl⟩
  refine OpsD.norm [.sl v2 2 30 ((zaq (⟨#[45]⟩ : ByteArray) [(RowD.mk [(Lbl.mk (⟨#[97]⟩ : ByteArray) (⟨#[49]⟩ : ByteArray))] 5)] 1 true).map RowD.d), .sl v1 2 30 ((zq (⟨#[43]⟩ : ByteArray) [(RowD.mk [(Lbl.mk (⟨#[97]⟩ : ByteArray) (⟨#[49]⟩ : ByteArray))] 5)] [(RowD.mk [(Lbl.mk (⟨#[97]⟩ : ByteArray) (⟨#[49]⟩ : ByteArray))] 5)] 0 []).map RowD.d)] rfl (za rfl rfl (zb rfl) (za rfl rfl (zF rfl rfl) (za rfl rfl (zF rfl rfl) (za rfl rfl (ze rfl) (za rfl rfl (ze rfl) (zg rfl (zf (zh _ _ rfl rfl rfl ?_))))))))
  obtain ⟨y2, hy2, ey2⟩ : ∃ x, (zaq (⟨#[45]⟩ : ByteArray) [(RowD.mk [(Lbl.mk (⟨#[97]⟩ : ByteArray) (⟨#[49]⟩ : ByteArray))] 5)] 1 true)[0]? = some x ∧ x = RowD.mk [(Lbl.mk (⟨#[97]⟩ : ByteArray) (⟨#[49]⟩ : ByteArray))] (-4) := ⟨_, by rw [as1]; rfl, rfl⟩
  have eny2 : (zaq (⟨#[45]⟩ : ByteArray) [(RowD.mk [(Lbl.mk (⟨#[97]⟩ : ByteArray) (⟨#[49]⟩ : ByteArray))] 5)] 1 true).length = 1 := by rw [as1]; rfl
  obtain ⟨y1, hy1, ey1⟩ : ∃ x, (zq (⟨#[43]⟩ : ByteArray) [(RowD.mk [(Lbl.mk (⟨#[97]⟩ : ByteArray) (⟨#[49]⟩ : ByteArray))] 5)] [(RowD.mk [(Lbl.mk (⟨#[97]⟩ : ByteArray) (⟨#[49]⟩ : ByteArray))] 5)] 0 [])[0]? = some x ∧ x = RowD.mk [(Lbl.mk (⟨#[97]⟩ : ByteArray) (⟨#[49]⟩ : ByteArray))] 10 := ⟨_, by rw [am1]; rfl, rfl⟩
  have eny1 : (zq (⟨#[43]⟩ : ByteArray) [(RowD.mk [(Lbl.mk (⟨#[97]⟩ : ByteArray) (⟨#[49]⟩ : ByteArray))] 5)] [(RowD.mk [(Lbl.mk (⟨#[97]⟩ : ByteArray) (⟨#[49]⟩ : ByteArray))] 5)] 0 []).length = 1 := by rw [am1]; rfl
  refine JD.keep [1, 2, 3, 4, 5] [(1, .sh 2 ([(RowD.mk [(Lbl.mk (⟨#[97]⟩ : ByteArray) (⟨#[49]⟩ : ByteArray))] 5)].map RowD.d)), (2, .ov v1), (3, dI (zP (⟨#[43]⟩ : ByteArray) [(RowD.mk [(Lbl.mk (⟨#[97]⟩ : ByteArray) (⟨#[49]⟩ : ByteArray))] 5)] [(RowD.mk [(Lbl.mk (⟨#[97]⟩ : ByteArray) (⟨#[49]⟩ : ByteArray))] 5)] 0 [])), (4, .ov v2), (5, dI (zaV (⟨#[45]⟩ : ByteArray) [(RowD.mk [(Lbl.mk (⟨#[97]⟩ : ByteArray) (⟨#[49]⟩ : ByteArray))] 5)] 1 true))] rfl ?_
  refine zaj 0 (((((((decide (zP (⟨#[43]⟩ : ByteArray) [(RowD.mk [(Lbl.mk (⟨#[97]⟩ : ByteArray) (⟨#[49]⟩ : ByteArray))] 5)] [(RowD.mk [(Lbl.mk (⟨#[97]⟩ : ByteArray) (⟨#[49]⟩ : ByteArray))] 5)] 0 [] = (0 : Int)) && decide ((((zq (⟨#[43]⟩ : ByteArray) [(RowD.mk [(Lbl.mk (⟨#[97]⟩ : ByteArray) (⟨#[49]⟩ : ByteArray))] 5)] [(RowD.mk [(Lbl.mk (⟨#[97]⟩ : ByteArray) (⟨#[49]⟩ : ByteArray))] 5)] 0 []).length : Nat) : Int) = (1 : Int))) && decide (y1.v = (10 : Int))) && decide (zaV (⟨#[45]⟩ : ByteArray) [(RowD.mk [(Lbl.mk (⟨#[97]⟩ : ByteArray) (⟨#[49]⟩ : ByteArray))] 5)] 1 true = (0 : Int))) && decide ((((zaq (⟨#[45]⟩ : ByteArray) [(RowD.mk [(Lbl.mk (⟨#[97]⟩ : ByteArray) (⟨#[49]⟩ : ByteArray))] 5)] 1 true).length : Nat) : Int) = (1 : Int))) && decide (y2.v = ((-4) : Int))) && z1 [(RowD.mk [(Lbl.mk (⟨#[97]⟩ : ByteArray) (⟨#[49]⟩ : ByteArray))] 5)])) [.sl v2 2 30 ((zaq (⟨#[45]⟩ : ByteArray) [(RowD.mk [(Lbl.mk (⟨#[97]⟩ : ByteArray) (⟨#[49]⟩ : ByteArray))] 5)] 1 true).map RowD.d), .sl v1 2 30 ((zq (⟨#[43]⟩ : ByteArray) [(RowD.mk [(Lbl.mk (⟨#[97]⟩ : ByteArray) (⟨#[49]⟩ : ByteArray))] 5)] [(RowD.mk [(Lbl.mk (⟨#[97]⟩ : ByteArray) (⟨#[49]⟩ : ByteArray))] 5)] 0 []).map RowD.d)] (fun _ hQ3 => ?_) ?_
  · skip
    by_cases hg4 : zP (⟨#[43]⟩ : ByteArray) [(RowD.mk [(Lbl.mk (⟨#[97]⟩ : ByteArray) (⟨#[49]⟩ : ByteArray))] 5)] [(RowD.mk [(Lbl.mk (⟨#[97]⟩ : ByteArray) (⟨#[49]⟩ : ByteArray))] 5)] 0 [] = (0 : Int)
    · skip
      by_cases hg5 : (((zq (⟨#[43]⟩ : ByteArray) [(RowD.mk [(Lbl.mk (⟨#[97]⟩ : ByteArray) (⟨#[49]⟩ : ByteArray))] 5)] [(RowD.mk [(Lbl.mk (⟨#[97]⟩ : ByteArray) (⟨#[49]⟩ : ByteArray))] 5)] 0 []).length : Nat) : Int) = (1 : Int)
      · skip
        by_cases hg6 : y1.v = (10 : Int)
        · skip
          by_cases hg7 : zaV (⟨#[45]⟩ : ByteArray) [(RowD.mk [(Lbl.mk (⟨#[97]⟩ : ByteArray) (⟨#[49]⟩ : ByteArray))] 5)] 1 true = (0 : Int)
          · skip
            by_cases hg8 : (((zaq (⟨#[45]⟩ : ByteArray) [(RowD.mk [(Lbl.mk (⟨#[97]⟩ : ByteArray) (⟨#[49]⟩ : ByteArray))] 5)] 1 true).length : Nat) : Int) = (1 : Int)
            · skip
              by_cases hg9 : y2.v = ((-4) : Int)
              · skip
                refine zc rfl (za rfl rfl (zb rfl) (za rfl rfl (zY rfl rfl (decide_eq_true hg4)) (za rfl rfl (zb rfl) (zi rfl rfl rfl rfl rfl (zb rfl) (zi rfl rfl rfl rfl rfl (z6 (n := (zq (⟨#[43]⟩ : ByteArray) [(RowD.mk [(Lbl.mk (⟨#[97]⟩ : ByteArray) (⟨#[49]⟩ : ByteArray))] 5)] [(RowD.mk [(Lbl.mk (⟨#[97]⟩ : ByteArray) (⟨#[49]⟩ : ByteArray))] 5)] 0 []).length) (j := 1) rfl rfl Try.runUnderlying22 (List.length_map _)) (zi rfl rfl rfl rfl rfl (zY rfl rfl (decide_eq_true hg5)) (za rfl rfl (zr rfl rfl) (za rfl rfl (zb rfl) (zi rfl rfl rfl rfl rfl (zb rfl) (zi rfl rfl rfl rfl rfl (zC (k := 0) (j := 1) rfl rfl rfl Try.runUnderlying22 Try.sizeOf30 (by first | rfl | omega) (zw hy1)) (zi rfl rfl rfl rfl rfl (zA rfl zaE rfl) (zi rfl rfl rfl rfl rfl (zay rfl (i := 1) rfl (zw hy1) Try.isAgg3 rfl) (zi rfl rfl rfl rfl rfl (zY rfl rfl (decide_eq_true hg6)) (za rfl rfl (zr rfl rfl) (za rfl rfl (zb rfl) (zi rfl rfl rfl rfl rfl (zb rfl) (zi rfl rfl rfl rfl rfl (zY rfl rfl (decide_eq_true hg7)) (za rfl rfl (zr rfl rfl) (za rfl rfl (zb rfl) (zi rfl rfl rfl rfl rfl (zb rfl) ?_))))))))))))))))))))
                refine zi rfl rfl rfl rfl rfl (z6 (n := (zaq (⟨#[45]⟩ : ByteArray) [(RowD.mk [(Lbl.mk (⟨#[97]⟩ : ByteArray) (⟨#[49]⟩ : ByteArray))] 5)] 1 true).length) (j := 0) rfl rfl Try.runUnderlying22 (List.length_map _)) (zi rfl rfl rfl rfl rfl (zY rfl rfl (decide_eq_true hg8)) (za rfl rfl (zr rfl rfl) (za rfl rfl (zb rfl) (zi rfl rfl rfl rfl rfl (zb rfl) (zi rfl rfl rfl rfl rfl (zC (k := 0) (j := 0) rfl rfl rfl Try.runUnderlying22 Try.sizeOf30 (by first | rfl | omega) (zw hy2)) (zi rfl rfl rfl rfl rfl (zA rfl zaE rfl) (zi rfl rfl rfl rfl rfl (zay rfl (i := 0) rfl (zw hy2) Try.isAgg3 rfl) (zi rfl rfl rfl rfl rfl (zY rfl rfl (decide_eq_true hg9)) (za rfl rfl (zr rfl rfl) (za rfl rfl (zb rfl) (zi rfl rfl rfl rfl rfl (zb rfl) (zaT rfl rfl rfl rfl rfl (zt [] _ [] rfl rfl (.cons ArgC.id .nil) zo Try.call15 (zbZ [(RowD.mk [(Lbl.mk (⟨#[97]⟩ : ByteArray) (⟨#[49]⟩ : ByteArray))] 5)]) (.inl rfl)) ?_))))))))))))
                rintro _ _ ⟨_, ⟨rfl, rfl⟩, rfl⟩
                refine OpsD.norm [.sl v2 2 30 ((zaq (⟨#[45]⟩ : ByteArray) [(RowD.mk [(Lbl.mk (⟨#[97]⟩ : ByteArray) (⟨#[49]⟩ : ByteArray))] 5)] 1 true).map RowD.d), .sl v1 2 30 ((zq (⟨#[43]⟩ : ByteArray) [(RowD.mk [(Lbl.mk (⟨#[97]⟩ : ByteArray) (⟨#[49]⟩ : ByteArray))] 5)] [(RowD.mk [(Lbl.mk (⟨#[97]⟩ : ByteArray) (⟨#[49]⟩ : ByteArray))] 5)] 0 []).map RowD.d)] rfl (za rfl rfl (zr rfl rfl) (za rfl rfl (ze rfl) (zg rfl ?_)))
                exact PD.sub ((0, dB ((((((decide (zP (⟨#[43]⟩ : ByteArray) [(RowD.mk [(Lbl.mk (⟨#[97]⟩ : ByteArray) (⟨#[49]⟩ : ByteArray))] 5)] [(RowD.mk [(Lbl.mk (⟨#[97]⟩ : ByteArray) (⟨#[49]⟩ : ByteArray))] 5)] 0 [] = (0 : Int)) && decide ((((zq (⟨#[43]⟩ : ByteArray) [(RowD.mk [(Lbl.mk (⟨#[97]⟩ : ByteArray) (⟨#[49]⟩ : ByteArray))] 5)] [(RowD.mk [(Lbl.mk (⟨#[97]⟩ : ByteArray) (⟨#[49]⟩ : ByteArray))] 5)] 0 []).length : Nat) : Int) = (1 : Int))) && decide (y1.v = (10 : Int))) && decide (zaV (⟨#[45]⟩ : ByteArray) [(RowD.mk [(Lbl.mk (⟨#[97]⟩ : ByteArray) (⟨#[49]⟩ : ByteArray))] 5)] 1 true = (0 : Int))) && decide ((((zaq (⟨#[45]⟩ : ByteArray) [(RowD.mk [(Lbl.mk (⟨#[97]⟩ : ByteArray) (⟨#[49]⟩ : ByteArray))] 5)] 1 true).length : Nat) : Int) = (1 : Int))) && decide (y2.v = ((-4) : Int))) && z1 [(RowD.mk [(Lbl.mk (⟨#[97]⟩ : ByteArray) (⟨#[49]⟩ : ByteArray))] 5)])) :: [(1, .sh 2 ([(RowD.mk [(Lbl.mk (⟨#[97]⟩ : ByteArray) (⟨#[49]⟩ : ByteArray))] 5)].map RowD.d)), (2, .ov v1), (3, dI (zP (⟨#[43]⟩ : ByteArray) [(RowD.mk [(Lbl.mk (⟨#[97]⟩ : ByteArray) (⟨#[49]⟩ : ByteArray))] 5)] [(RowD.mk [(Lbl.mk (⟨#[97]⟩ : ByteArray) (⟨#[49]⟩ : ByteArray))] 5)] 0 [])), (4, .ov v2), (5, dI (zaV (⟨#[45]⟩ : ByteArray) [(RowD.mk [(Lbl.mk (⟨#[97]⟩ : ByteArray) (⟨#[49]⟩ : ByteArray))] 5)] 1 true))]) ⟨sc rfl (Cv.eq (congrArg (fun b => D.v (.bool b)) (by first | (simp [hg4, hg5, hg6, hg7, hg8, hg9]; done) | (simp_all; done)))), sk rfl, sk rfl, sk rfl, sk rfl, sk rfl, trivial⟩ hQ3
              · skip
                refine zc rfl (za rfl rfl (zb rfl) (za rfl rfl (zY rfl rfl (decide_eq_true hg4)) (za rfl rfl (zb rfl) (zi rfl rfl rfl rfl rfl (zb rfl) (zi rfl rfl rfl rfl rfl (z6 (n := (zq (⟨#[43]⟩ : ByteArray) [(RowD.mk [(Lbl.mk (⟨#[97]⟩ : ByteArray) (⟨#[49]⟩ : ByteArray))] 5)] [(RowD.mk [(Lbl.mk (⟨#[97]⟩ : ByteArray) (⟨#[49]⟩ : ByteArray))] 5)] 0 []).length) (j := 1) rfl rfl Try.runUnderlying22 (List.length_map _)) (zi rfl rfl rfl rfl rfl (zY rfl rfl (decide_eq_true hg5)) (za rfl rfl (zr rfl rfl) (za rfl rfl (zb rfl) (zi rfl rfl rfl rfl rfl (zb rfl) (zi rfl rfl rfl rfl rfl (zC (k := 0) (j := 1) rfl rfl rfl Try.runUnderlying22 Try.sizeOf30 (by first | rfl | omega) (zw hy1)) (zi rfl rfl rfl rfl rfl (zA rfl zaE rfl) (zi rfl rfl rfl rfl rfl (zay rfl (i := 1) rfl (zw hy1) Try.isAgg3 rfl) (zi rfl rfl rfl rfl rfl (zY rfl rfl (decide_eq_true hg6)) (za rfl rfl (zr rfl rfl) (za rfl rfl (zb rfl) (zi rfl rfl rfl rfl rfl (zb rfl) (zi rfl rfl rfl rfl rfl (zY rfl rfl (decide_eq_true hg7)) (za rfl rfl (zr rfl rfl) (za rfl rfl (zb rfl) (zi rfl rfl rfl rfl rfl (zb rfl) ?_))))))))))))))))))))
                refine zi rfl rfl rfl rfl rfl (z6 (n := (zaq (⟨#[45]⟩ : ByteArray) [(RowD.mk [(Lbl.mk (⟨#[97]⟩ : ByteArray) (⟨#[49]⟩ : ByteArray))] 5)] 1 true).length) (j := 0) rfl rfl Try.runUnderlying22 (List.length_map _)) (zi rfl rfl rfl rfl rfl (zY rfl rfl (decide_eq_true hg8)) (za rfl rfl (zr rfl rfl) (za rfl rfl (zb rfl) (zi rfl rfl rfl rfl rfl (zb rfl) (zi rfl rfl rfl rfl rfl (zC (k := 0) (j := 0) rfl rfl rfl Try.runUnderlying22 Try.sizeOf30 (by first | rfl | omega) (zw hy2)) (zi rfl rfl rfl rfl rfl (zA rfl zaE rfl) (zi rfl rfl rfl rfl rfl (zay rfl (i := 0) rfl (zw hy2) Try.isAgg3 rfl) (zi rfl rfl rfl rfl rfl (zY rfl rfl (decide_eq_false hg9)) (za rfl rfl (zr rfl rfl) (za rfl rfl (zb rfl) (zj rfl rfl rfl rfl rfl (by decide) (zj rfl rfl rfl rfl rfl (by decide) (za rfl rfl (zm rfl rfl) (za rfl rfl (ze rfl) (zg rfl ?_)))))))))))))))
                exact PD.sub ((0, dB ((((((decide (zP (⟨#[43]⟩ : ByteArray) [(RowD.mk [(Lbl.mk (⟨#[97]⟩ : ByteArray) (⟨#[49]⟩ : ByteArray))] 5)] [(RowD.mk [(Lbl.mk (⟨#[97]⟩ : ByteArray) (⟨#[49]⟩ : ByteArray))] 5)] 0 [] = (0 : Int)) && decide ((((zq (⟨#[43]⟩ : ByteArray) [(RowD.mk [(Lbl.mk (⟨#[97]⟩ : ByteArray) (⟨#[49]⟩ : ByteArray))] 5)] [(RowD.mk [(Lbl.mk (⟨#[97]⟩ : ByteArray) (⟨#[49]⟩ : ByteArray))] 5)] 0 []).length : Nat) : Int) = (1 : Int))) && decide (y1.v = (10 : Int))) && decide (zaV (⟨#[45]⟩ : ByteArray) [(RowD.mk [(Lbl.mk (⟨#[97]⟩ : ByteArray) (⟨#[49]⟩ : ByteArray))] 5)] 1 true = (0 : Int))) && decide ((((zaq (⟨#[45]⟩ : ByteArray) [(RowD.mk [(Lbl.mk (⟨#[97]⟩ : ByteArray) (⟨#[49]⟩ : ByteArray))] 5)] 1 true).length : Nat) : Int) = (1 : Int))) && decide (y2.v = ((-4) : Int))) && z1 [(RowD.mk [(Lbl.mk (⟨#[97]⟩ : ByteArray) (⟨#[49]⟩ : ByteArray))] 5)])) :: [(1, .sh 2 ([(RowD.mk [(Lbl.mk (⟨#[97]⟩ : ByteArray) (⟨#[49]⟩ : ByteArray))] 5)].map RowD.d)), (2, .ov v1), (3, dI (zP (⟨#[43]⟩ : ByteArray) [(RowD.mk [(Lbl.mk (⟨#[97]⟩ : ByteArray) (⟨#[49]⟩ : ByteArray))] 5)] [(RowD.mk [(Lbl.mk (⟨#[97]⟩ : ByteArray) (⟨#[49]⟩ : ByteArray))] 5)] 0 [])), (4, .ov v2), (5, dI (zaV (⟨#[45]⟩ : ByteArray) [(RowD.mk [(Lbl.mk (⟨#[97]⟩ : ByteArray) (⟨#[49]⟩ : ByteArray))] 5)] 1 true))]) ⟨sc rfl (Cv.eq (congrArg (fun b => D.v (.bool b)) (by first | (simp [hg4, hg5, hg6, hg7, hg8, hg9]; done) | (simp_all; done)))), sk rfl, sk rfl, sk rfl, sk rfl, sk rfl, trivial⟩ hQ3
            · skip
              refine zc rfl (za rfl rfl (zb rfl) (za rfl rfl (zY rfl rfl (decide_eq_true hg4)) (za rfl rfl (zb rfl) (zi rfl rfl rfl rfl rfl (zb rfl) (zi rfl rfl rfl rfl rfl (z6 (n := (zq (⟨#[43]⟩ : ByteArray) [(RowD.mk [(Lbl.mk (⟨#[97]⟩ : ByteArray) (⟨#[49]⟩ : ByteArray))] 5)] [(RowD.mk [(Lbl.mk (⟨#[97]⟩ : ByteArray) (⟨#[49]⟩ : ByteArray))] 5)] 0 []).length) (j := 1) rfl rfl Try.runUnderlying22 (List.length_map _)) (zi rfl rfl rfl rfl rfl (zY rfl rfl (decide_eq_true hg5)) (za rfl rfl (zr rfl rfl) (za rfl rfl (zb rfl) (zi rfl rfl rfl rfl rfl (zb rfl) (zi rfl rfl rfl rfl rfl (zC (k := 0) (j := 1) rfl rfl rfl Try.runUnderlying22 Try.sizeOf30 (by first | rfl | omega) (zw hy1)) (zi rfl rfl rfl rfl rfl (zA rfl zaE rfl) (zi rfl rfl rfl rfl rfl (zay rfl (i := 1) rfl (zw hy1) Try.isAgg3 rfl) (zi rfl rfl rfl rfl rfl (zY rfl rfl (decide_eq_true hg6)) (za rfl rfl (zr rfl rfl) (za rfl rfl (zb rfl) (zi rfl rfl rfl rfl rfl (zb rfl) (zi rfl rfl rfl rfl rfl (zY rfl rfl (decide_eq_true hg7)) (za rfl rfl (zr rfl rfl) (za rfl rfl (zb rfl) (zi rfl rfl rfl rfl rfl (zb rfl) ?_))))))))))))))))))))
              refine zi rfl rfl rfl rfl rfl (z6 (n := (zaq (⟨#[45]⟩ : ByteArray) [(RowD.mk [(Lbl.mk (⟨#[97]⟩ : ByteArray) (⟨#[49]⟩ : ByteArray))] 5)] 1 true).length) (j := 0) rfl rfl Try.runUnderlying22 (List.length_map _)) (zi rfl rfl rfl rfl rfl (zY rfl rfl (decide_eq_false hg8)) (za rfl rfl (zr rfl rfl) (za rfl rfl (zb rfl) (zj rfl rfl rfl rfl rfl (by decide) (zj rfl rfl rfl rfl rfl (by decide) (zj rfl rfl rfl rfl rfl (by decide) (zj rfl rfl rfl rfl rfl (by decide) (zj rfl rfl rfl rfl rfl (by decide) (za rfl rfl (zm rfl rfl) (za rfl rfl (zb rfl) (zj rfl rfl rfl rfl rfl (by decide) (zj rfl rfl rfl rfl rfl (by decide) (za rfl rfl (zm rfl rfl) (za rfl rfl (ze rfl) (zg rfl ?_)))))))))))))))
              exact PD.sub ((0, dB ((((((decide (zP (⟨#[43]⟩ : ByteArray) [(RowD.mk [(Lbl.mk (⟨#[97]⟩ : ByteArray) (⟨#[49]⟩ : ByteArray))] 5)] [(RowD.mk [(Lbl.mk (⟨#[97]⟩ : ByteArray) (⟨#[49]⟩ : ByteArray))] 5)] 0 [] = (0 : Int)) && decide ((((zq (⟨#[43]⟩ : ByteArray) [(RowD.mk [(Lbl.mk (⟨#[97]⟩ : ByteArray) (⟨#[49]⟩ : ByteArray))] 5)] [(RowD.mk [(Lbl.mk (⟨#[97]⟩ : ByteArray) (⟨#[49]⟩ : ByteArray))] 5)] 0 []).length : Nat) : Int) = (1 : Int))) && decide (y1.v = (10 : Int))) && decide (zaV (⟨#[45]⟩ : ByteArray) [(RowD.mk [(Lbl.mk (⟨#[97]⟩ : ByteArray) (⟨#[49]⟩ : ByteArray))] 5)] 1 true = (0 : Int))) && decide ((((zaq (⟨#[45]⟩ : ByteArray) [(RowD.mk [(Lbl.mk (⟨#[97]⟩ : ByteArray) (⟨#[49]⟩ : ByteArray))] 5)] 1 true).length : Nat) : Int) = (1 : Int))) && decide (y2.v = ((-4) : Int))) && z1 [(RowD.mk [(Lbl.mk (⟨#[97]⟩ : ByteArray) (⟨#[49]⟩ : ByteArray))] 5)])) :: [(1, .sh 2 ([(RowD.mk [(Lbl.mk (⟨#[97]⟩ : ByteArray) (⟨#[49]⟩ : ByteArray))] 5)].map RowD.d)), (2, .ov v1), (3, dI (zP (⟨#[43]⟩ : ByteArray) [(RowD.mk [(Lbl.mk (⟨#[97]⟩ : ByteArray) (⟨#[49]⟩ : ByteArray))] 5)] [(RowD.mk [(Lbl.mk (⟨#[97]⟩ : ByteArray) (⟨#[49]⟩ : ByteArray))] 5)] 0 [])), (4, .ov v2), (5, dI (zaV (⟨#[45]⟩ : ByteArray) [(RowD.mk [(Lbl.mk (⟨#[97]⟩ : ByteArray) (⟨#[49]⟩ : ByteArray))] 5)] 1 true))]) ⟨sc rfl (Cv.eq (congrArg (fun b => D.v (.bool b)) (by first | (simp [hg4, hg5, hg6, hg7, hg8]; done) | (simp_all; done)))), sk rfl, sk rfl, sk rfl, sk rfl, sk rfl, trivial⟩ hQ3
          · skip
            refine zc rfl (za rfl rfl (zb rfl) (za rfl rfl (zY rfl rfl (decide_eq_true hg4)) (za rfl rfl (zb rfl) (zi rfl rfl rfl rfl rfl (zb rfl) (zi rfl rfl rfl rfl rfl (z6 (n := (zq (⟨#[43]⟩ : ByteArray) [(RowD.mk [(Lbl.mk (⟨#[97]⟩ : ByteArray) (⟨#[49]⟩ : ByteArray))] 5)] [(RowD.mk [(Lbl.mk (⟨#[97]⟩ : ByteArray) (⟨#[49]⟩ : ByteArray))] 5)] 0 []).length) (j := 1) rfl rfl Try.runUnderlying22 (List.length_map _)) (zi rfl rfl rfl rfl rfl (zY rfl rfl (decide_eq_true hg5)) (za rfl rfl (zr rfl rfl) (za rfl rfl (zb rfl) (zi rfl rfl rfl rfl rfl (zb rfl) (zi rfl rfl rfl rfl rfl (zC (k := 0) (j := 1) rfl rfl rfl Try.runUnderlying22 Try.sizeOf30 (by first | rfl | omega) (zw hy1)) (zi rfl rfl rfl rfl rfl (zA rfl zaE rfl) (zi rfl rfl rfl rfl rfl (zay rfl (i := 1) rfl (zw hy1) Try.isAgg3 rfl) (zi rfl rfl rfl rfl rfl (zY rfl rfl (decide_eq_true hg6)) (za rfl rfl (zr rfl rfl) (za rfl rfl (zb rfl) (zi rfl rfl rfl rfl rfl (zb rfl) (zi rfl rfl rfl rfl rfl (zY rfl rfl (decide_eq_false hg7)) (za rfl rfl (zr rfl rfl) (za rfl rfl (zb rfl) (zj rfl rfl rfl rfl rfl (by decide) (zj rfl rfl rfl rfl rfl (by decide) (zj rfl rfl rfl rfl rfl (by decide) (za rfl rfl (zm rfl rfl) (za rfl rfl (zb rfl) (zj rfl rfl rfl rfl rfl (by decide) ?_)))))))))))))))))))))))))
            refine zj rfl rfl rfl rfl rfl (by decide) (zj rfl rfl rfl rfl rfl (by decide) (zj rfl rfl rfl rfl rfl (by decide) (zj rfl rfl rfl rfl rfl (by decide) (za rfl rfl (zm rfl rfl) (za rfl rfl (zb rfl) (zj rfl rfl rfl rfl rfl (by decide) (zj rfl rfl rfl rfl rfl (by decide) (za rfl rfl (zm rfl rfl) (za rfl rfl (ze rfl) (zg rfl ?_))))))))))
            exact PD.sub ((0, dB ((((((decide (zP (⟨#[43]⟩ : ByteArray) [(RowD.mk [(Lbl.mk (⟨#[97]⟩ : ByteArray) (⟨#[49]⟩ : ByteArray))] 5)] [(RowD.mk [(Lbl.mk (⟨#[97]⟩ : ByteArray) (⟨#[49]⟩ : ByteArray))] 5)] 0 [] = (0 : Int)) && decide ((((zq (⟨#[43]⟩ : ByteArray) [(RowD.mk [(Lbl.mk (⟨#[97]⟩ : ByteArray) (⟨#[49]⟩ : ByteArray))] 5)] [(RowD.mk [(Lbl.mk (⟨#[97]⟩ : ByteArray) (⟨#[49]⟩ : ByteArray))] 5)] 0 []).length : Nat) : Int) = (1 : Int))) && decide (y1.v = (10 : Int))) && decide (zaV (⟨#[45]⟩ : ByteArray) [(RowD.mk [(Lbl.mk (⟨#[97]⟩ : ByteArray) (⟨#[49]⟩ : ByteArray))] 5)] 1 true = (0 : Int))) && decide ((((zaq (⟨#[45]⟩ : ByteArray) [(RowD.mk [(Lbl.mk (⟨#[97]⟩ : ByteArray) (⟨#[49]⟩ : ByteArray))] 5)] 1 true).length : Nat) : Int) = (1 : Int))) && decide (y2.v = ((-4) : Int))) && z1 [(RowD.mk [(Lbl.mk (⟨#[97]⟩ : ByteArray) (⟨#[49]⟩ : ByteArray))] 5)])) :: [(1, .sh 2 ([(RowD.mk [(Lbl.mk (⟨#[97]⟩ : ByteArray) (⟨#[49]⟩ : ByteArray))] 5)].map RowD.d)), (2, .ov v1), (3, dI (zP (⟨#[43]⟩ : ByteArray) [(RowD.mk [(Lbl.mk (⟨#[97]⟩ : ByteArray) (⟨#[49]⟩ : ByteArray))] 5)] [(RowD.mk [(Lbl.mk (⟨#[97]⟩ : ByteArray) (⟨#[49]⟩ : ByteArray))] 5)] 0 [])), (4, .ov v2), (5, dI (zaV (⟨#[45]⟩ : ByteArray) [(RowD.mk [(Lbl.mk (⟨#[97]⟩ : ByteArray) (⟨#[49]⟩ : ByteArray))] 5)] 1 true))]) ⟨sc rfl (Cv.eq (congrArg (fun b => D.v (.bool b)) (by first | (simp [hg4, hg5, hg6, hg7]; done) | (simp_all; done)))), sk rfl, sk rfl, sk rfl, sk rfl, sk rfl, trivial⟩ hQ3
        · skip
          refine zc rfl (za rfl rfl (zb rfl) (za rfl rfl (zY rfl rfl (decide_eq_true hg4)) (za rfl rfl (zb rfl) (zi rfl rfl rfl rfl rfl (zb rfl) (zi rfl rfl rfl rfl rfl (z6 (n := (zq (⟨#[43]⟩ : ByteArray) [(RowD.mk [(Lbl.mk (⟨#[97]⟩ : ByteArray) (⟨#[49]⟩ : ByteArray))] 5)] [(RowD.mk [(Lbl.mk (⟨#[97]⟩ : ByteArray) (⟨#[49]⟩ : ByteArray))] 5)] 0 []).length) (j := 1) rfl rfl Try.runUnderlying22 (List.length_map _)) (zi rfl rfl rfl rfl rfl (zY rfl rfl (decide_eq_true hg5)) (za rfl rfl (zr rfl rfl) (za rfl rfl (zb rfl) (zi rfl rfl rfl rfl rfl (zb rfl) (zi rfl rfl rfl rfl rfl (zC (k := 0) (j := 1) rfl rfl rfl Try.runUnderlying22 Try.sizeOf30 (by first | rfl | omega) (zw hy1)) (zi rfl rfl rfl rfl rfl (zA rfl zaE rfl) (zi rfl rfl rfl rfl rfl (zay rfl (i := 1) rfl (zw hy1) Try.isAgg3 rfl) (zi rfl rfl rfl rfl rfl (zY rfl rfl (decide_eq_false hg6)) (za rfl rfl (zr rfl rfl) (za rfl rfl (zb rfl) (zj rfl rfl rfl rfl rfl (by decide) (zj rfl rfl rfl rfl rfl (by decide) (za rfl rfl (zm rfl rfl) (za rfl rfl (zb rfl) (zj rfl rfl rfl rfl rfl (by decide) (zj rfl rfl rfl rfl rfl (by decide) (zj rfl rfl rfl rfl rfl (by decide) (za rfl rfl (zm rfl rfl) (za rfl rfl (zb rfl) (zj rfl rfl rfl rfl rfl (by decide) ?_)))))))))))))))))))))))))
          refine zj rfl rfl rfl rfl rfl (by decide) (zj rfl rfl rfl rfl rfl (by decide) (zj rfl rfl rfl rfl rfl (by decide) (zj rfl rfl rfl rfl rfl (by decide) (za rfl rfl (zm rfl rfl) (za rfl rfl (zb rfl) (zj rfl rfl rfl rfl rfl (by decide) (zj rfl rfl rfl rfl rfl (by decide) (za rfl rfl (zm rfl rfl) (za rfl rfl (ze rfl) (zg rfl ?_))))))))))
          exact PD.sub ((0, dB ((((((decide (zP (⟨#[43]⟩ : ByteArray) [(RowD.mk [(Lbl.mk (⟨#[97]⟩ : ByteArray) (⟨#[49]⟩ : ByteArray))] 5)] [(RowD.mk [(Lbl.mk (⟨#[97]⟩ : ByteArray) (⟨#[49]⟩ : ByteArray))] 5)] 0 [] = (0 : Int)) && decide ((((zq (⟨#[43]⟩ : ByteArray) [(RowD.mk [(Lbl.mk (⟨#[97]⟩ : ByteArray) (⟨#[49]⟩ : ByteArray))] 5)] [(RowD.mk [(Lbl.mk (⟨#[97]⟩ : ByteArray) (⟨#[49]⟩ : ByteArray))] 5)] 0 []).length : Nat) : Int) = (1 : Int))) && decide (y1.v = (10 : Int))) && decide (zaV (⟨#[45]⟩ : ByteArray) [(RowD.mk [(Lbl.mk (⟨#[97]⟩ : ByteArray) (⟨#[49]⟩ : ByteArray))] 5)] 1 true = (0 : Int))) && decide ((((zaq (⟨#[45]⟩ : ByteArray) [(RowD.mk [(Lbl.mk (⟨#[97]⟩ : ByteArray) (⟨#[49]⟩ : ByteArray))] 5)] 1 true).length : Nat) : Int) = (1 : Int))) && decide (y2.v = ((-4) : Int))) && z1 [(RowD.mk [(Lbl.mk (⟨#[97]⟩ : ByteArray) (⟨#[49]⟩ : ByteArray))] 5)])) :: [(1, .sh 2 ([(RowD.mk [(Lbl.mk (⟨#[97]⟩ : ByteArray) (⟨#[49]⟩ : ByteArray))] 5)].map RowD.d)), (2, .ov v1), (3, dI (zP (⟨#[43]⟩ : ByteArray) [(RowD.mk [(Lbl.mk (⟨#[97]⟩ : ByteArray) (⟨#[49]⟩ : ByteArray))] 5)] [(RowD.mk [(Lbl.mk (⟨#[97]⟩ : ByteArray) (⟨#[49]⟩ : ByteArray))] 5)] 0 [])), (4, .ov v2), (5, dI (zaV (⟨#[45]⟩ : ByteArray) [(RowD.mk [(Lbl.mk (⟨#[97]⟩ : ByteArray) (⟨#[49]⟩ : ByteArray))] 5)] 1 true))]) ⟨sc rfl (Cv.eq (congrArg (fun b => D.v (.bool b)) (by first | (simp [hg4, hg5, hg6]; done) | (simp_all; done)))), sk rfl, sk rfl, sk rfl, sk rfl, sk rfl, trivial⟩ hQ3
      · skip
        refine zc rfl (za rfl rfl (zb rfl) (za rfl rfl (zY rfl rfl (decide_eq_true hg4)) (za rfl rfl (zb rfl) (zi rfl rfl rfl rfl rfl (zb rfl) (zi rfl rfl rfl rfl rfl (z6 (n := (zq (⟨#[43]⟩ : ByteArray) [(RowD.mk [(Lbl.mk (⟨#[97]⟩ : ByteArray) (⟨#[49]⟩ : ByteArray))] 5)] [(RowD.mk [(Lbl.mk (⟨#[97]⟩ : ByteArray) (⟨#[49]⟩ : ByteArray))] 5)] 0 []).length) (j := 1) rfl rfl Try.runUnderlying22 (List.length_map _)) (zi rfl rfl rfl rfl rfl (zY rfl rfl (decide_eq_false hg5)) (za rfl rfl (zr rfl rfl) (za rfl rfl (zb rfl) (zj rfl rfl rfl rfl rfl (by decide) (zj rfl rfl rfl rfl rfl (by decide) (zj rfl rfl rfl rfl rfl (by decide) (zj rfl rfl rfl rfl rfl (by decide) (zj rfl rfl rfl rfl rfl (by decide) (za rfl rfl (zm rfl rfl) (za rfl rfl (zb rfl) (zj rfl rfl rfl rfl rfl (by decide) (zj rfl rfl rfl rfl rfl (by decide) (za rfl rfl (zm rfl rfl) (za rfl rfl (zb rfl) (zj rfl rfl rfl rfl rfl (by decide) (zj rfl rfl rfl rfl rfl (by decide) (zj rfl rfl rfl rfl rfl (by decide) (za rfl rfl (zm rfl rfl) (za rfl rfl (zb rfl) (zj rfl rfl rfl rfl rfl (by decide) (zj rfl rfl rfl rfl rfl (by decide) (zj rfl rfl rfl rfl rfl (by decide) (zj rfl rfl rfl rfl rfl (by decide) (zj rfl rfl rfl rfl rfl (by decide) (za rfl rfl (zm rfl rfl) (za rfl rfl (zb rfl) ?_)))))))))))))))))))))))))))))))
        refine zj rfl rfl rfl rfl rfl (by decide) (zj rfl rfl rfl rfl rfl (by decide) (za rfl rfl (zm rfl rfl) (za rfl rfl (ze rfl) (zg rfl ?_))))
        exact PD.sub ((0, dB ((((((decide (zP (⟨#[43]⟩ : ByteArray) [(RowD.mk [(Lbl.mk (⟨#[97]⟩ : ByteArray) (⟨#[49]⟩ : ByteArray))] 5)] [(RowD.mk [(Lbl.mk (⟨#[97]⟩ : ByteArray) (⟨#[49]⟩ : ByteArray))] 5)] 0 [] = (0 : Int)) && decide ((((zq (⟨#[43]⟩ : ByteArray) [(RowD.mk [(Lbl.mk (⟨#[97]⟩ : ByteArray) (⟨#[49]⟩ : ByteArray))] 5)] [(RowD.mk [(Lbl.mk (⟨#[97]⟩ : ByteArray) (⟨#[49]⟩ : ByteArray))] 5)] 0 []).length : Nat) : Int) = (1 : Int))) && decide (y1.v = (10 : Int))) && decide (zaV (⟨#[45]⟩ : ByteArray) [(RowD.mk [(Lbl.mk (⟨#[97]⟩ : ByteArray) (⟨#[49]⟩ : ByteArray))] 5)] 1 true = (0 : Int))) && decide ((((zaq (⟨#[45]⟩ : ByteArray) [(RowD.mk [(Lbl.mk (⟨#[97]⟩ : ByteArray) (⟨#[49]⟩ : ByteArray))] 5)] 1 true).length : Nat) : Int) = (1 : Int))) && decide (y2.v = ((-4) : Int))) && z1 [(RowD.mk [(Lbl.mk (⟨#[97]⟩ : ByteArray) (⟨#[49]⟩ : ByteArray))] 5)])) :: [(1, .sh 2 ([(RowD.mk [(Lbl.mk (⟨#[97]⟩ : ByteArray) (⟨#[49]⟩ : ByteArray))] 5)].map RowD.d)), (2, .ov v1), (3, dI (zP (⟨#[43]⟩ : ByteArray) [(RowD.mk [(Lbl.mk (⟨#[97]⟩ : ByteArray) (⟨#[49]⟩ : ByteArray))] 5)] [(RowD.mk [(Lbl.mk (⟨#[97]⟩ : ByteArray) (⟨#[49]⟩ : ByteArray))] 5)] 0 [])), (4, .ov v2), (5, dI (zaV (⟨#[45]⟩ : ByteArray) [(RowD.mk [(Lbl.mk (⟨#[97]⟩ : ByteArray) (⟨#[49]⟩ : ByteArray))] 5)] 1 true))]) ⟨sc rfl (Cv.eq (congrArg (fun b => D.v (.bool b)) (by first | (simp [hg4, hg5]; done) | (simp_all; done)))), sk rfl, sk rfl, sk rfl, sk rfl, sk rfl, trivial⟩ hQ3
    · skip
      refine zc rfl (za rfl rfl (zb rfl) (za rfl rfl (zY rfl rfl (decide_eq_false hg4)) (za rfl rfl (zb rfl) (zj rfl rfl rfl rfl rfl (by decide) (zj rfl rfl rfl rfl rfl (by decide) (zj rfl rfl rfl rfl rfl (by decide) (za rfl rfl (zm rfl rfl) (za rfl rfl (zb rfl) (zj rfl rfl rfl rfl rfl (by decide) (zj rfl rfl rfl rfl rfl (by decide) (zj rfl rfl rfl rfl rfl (by decide) (zj rfl rfl rfl rfl rfl (by decide) (zj rfl rfl rfl rfl rfl (by decide) (za rfl rfl (zm rfl rfl) (za rfl rfl (zb rfl) (zj rfl rfl rfl rfl rfl (by decide) (zj rfl rfl rfl rfl rfl (by decide) (za rfl rfl (zm rfl rfl) (za rfl rfl (zb rfl) (zj rfl rfl rfl rfl rfl (by decide) (zj rfl rfl rfl rfl rfl (by decide) (zj rfl rfl rfl rfl rfl (by decide) (za rfl rfl (zm rfl rfl) (za rfl rfl (zb rfl) (zj rfl rfl rfl rfl rfl (by decide) (zj rfl rfl rfl rfl rfl (by decide) (zj rfl rfl rfl rfl rfl (by decide) (zj rfl rfl rfl rfl rfl (by decide) (zj rfl rfl rfl rfl rfl (by decide) (za rfl rfl (zm rfl rfl) (za rfl rfl (zb rfl) (zj rfl rfl rfl rfl rfl (by decide) (zj rfl rfl rfl rfl rfl (by decide) (za rfl rfl (zm rfl rfl) (za rfl rfl (ze rfl) (zg rfl ?_))))))))))))))))))))))))))))))))))))
      exact PD.sub ((0, dB ((((((decide (zP (⟨#[43]⟩ : ByteArray) [(RowD.mk [(Lbl.mk (⟨#[97]⟩ : ByteArray) (⟨#[49]⟩ : ByteArray))] 5)] [(RowD.mk [(Lbl.mk (⟨#[97]⟩ : ByteArray) (⟨#[49]⟩ : ByteArray))] 5)] 0 [] = (0 : Int)) && decide ((((zq (⟨#[43]⟩ : ByteArray) [(RowD.mk [(Lbl.mk (⟨#[97]⟩ : ByteArray) (⟨#[49]⟩ : ByteArray))] 5)] [(RowD.mk [(Lbl.mk (⟨#[97]⟩ : ByteArray) (⟨#[49]⟩ : ByteArray))] 5)] 0 []).length : Nat) : Int) = (1 : Int))) && decide (y1.v = (10 : Int))) && decide (zaV (⟨#[45]⟩ : ByteArray) [(RowD.mk [(Lbl.mk (⟨#[97]⟩ : ByteArray) (⟨#[49]⟩ : ByteArray))] 5)] 1 true = (0 : Int))) && decide ((((zaq (⟨#[45]⟩ : ByteArray) [(RowD.mk [(Lbl.mk (⟨#[97]⟩ : ByteArray) (⟨#[49]⟩ : ByteArray))] 5)] 1 true).length : Nat) : Int) = (1 : Int))) && decide (y2.v = ((-4) : Int))) && z1 [(RowD.mk [(Lbl.mk (⟨#[97]⟩ : ByteArray) (⟨#[49]⟩ : ByteArray))] 5)])) :: [(1, .sh 2 ([(RowD.mk [(Lbl.mk (⟨#[97]⟩ : ByteArray) (⟨#[49]⟩ : ByteArray))] 5)].map RowD.d)), (2, .ov v1), (3, dI (zP (⟨#[43]⟩ : ByteArray) [(RowD.mk [(Lbl.mk (⟨#[97]⟩ : ByteArray) (⟨#[49]⟩ : ByteArray))] 5)] [(RowD.mk [(Lbl.mk (⟨#[97]⟩ : ByteArray) (⟨#[49]⟩ : ByteArray))] 5)] 0 [])), (4, .ov v2), (5, dI (zaV (⟨#[45]⟩ : ByteArray) [(RowD.mk [(Lbl.mk (⟨#[97]⟩ : ByteArray) (⟨#[49]⟩ : ByteArray))] 5)] 1 true))]) ⟨sc rfl (Cv.eq (congrArg (fun b => D.v (.bool b)) (by first | (simp [hg4]; done) | (simp_all; done)))), sk rfl, sk rfl, sk rfl, sk rfl, sk rfl, trivial⟩ hQ3
  · skip
    refine zf (zB rfl ?_)
    exact zx Try.results8 (.cons (zM (zs rfl) (Cv.eq (congrArg (fun b => D.v (.bool b)) (by simp [am1, am2, as1, as2, av, ey1, ey2])))) .nil) rfl HSub.none ⟨rfl, rfl⟩
end Lp
