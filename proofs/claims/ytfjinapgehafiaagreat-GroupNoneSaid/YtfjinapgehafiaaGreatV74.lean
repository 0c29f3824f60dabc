/- Walks, printed by a program of mine. -/
import Derived.Test.YtfjinapgehafiaaGreatPGroup
set_option linter.unusedSimpArgs false
set_option linter.unusedVariables false
set_option maxHeartbeats 4000000
set_option maxRecDepth 100000
namespace Lp
open Go Go.RowKit Go.Proofs

namespace HdYtfjinapgehafiaaGreatV73
theorem zcl {a : Int} (h : -9223372036854775808 ≤ a ∧ a ≤ 9223372036854775807) : ∀ w, (convert 165 3 (.int .u64 a)).run Tryz.prog w = .ok (.int .i64 a) w := fun w => by
  have e : IntKind.i64.wrap a = a := by exact w64 (by omega)
  simp [convert, run_underlying (show Tryz.prog.underlying 165 = some _ by kernel_rfl), run_underlying (show Tryz.prog.underlying 3 = some _ by kernel_rfl), Conv.intToInt, e]
theorem zbk {a : Int} (h : 0 ≤ a ∧ a ≤ 18446744073709551615) : ∀ w, (convert 3 165 (.int .i64 a)).run Tryz.prog w = .ok (.int .u64 a) w := fun w => by
  have e : IntKind.u64.wrap a = a := by simp [IntKind.wrap, IntKind.bits, IntKind.signed]; omega
  simp [convert, run_underlying (show Tryz.prog.underlying 3 = some _ by kernel_rfl), run_underlying (show Tryz.prog.underlying 165 = some _ by kernel_rfl), Conv.intToInt, e]
theorem z2 (b o : Nat) : ∀ w, (Instr.fieldAt 53 (.pointer (some ⟨b, o, none⟩)) 0).run Tryz.prog w = .ok (.pointer (some ⟨b, o + 0, none⟩)) w := fun _ => by kernel_rfl
end HdYtfjinapgehafiaaGreatV73
open HdYtfjinapgehafiaaGreatV73

theorem er_perm {α : Type} {G : List α} {k : Nat} {x : α} (hx : G[k]? = some x) : G.Perm (x :: G.eraseIdx k) := by
  obtain ⟨hk, e⟩ := List.getElem?_eq_some_iff.1 hx
  have h : G = G.take k ++ x :: G.drop (k + 1) := by rw [← e, List.getElem_cons_drop, List.take_append_drop]
  rw [List.eraseIdx_eq_take_drop_succ]
  exact (List.Perm.of_eq h).trans List.perm_middle
theorem tl_out {α : Type} {h : α → Hp} {A : List Hp} {G : List α} {k : Nat} {x : α} (hx : G[k]? = some x) : HSub (A ++ G.map h) (h x :: A ++ (G.eraseIdx k).map h) := by
  have hp := (er_perm hx).map h
  rw [List.map_cons] at hp
  exact HSub.perm ((hp.append_left A).trans List.perm_middle)
theorem tl_in {α : Type} {h : α → Hp} {A : List Hp} {G : List α} {k : Nat} {x y : α} (hx : G[k]? = some x) : HSub (h y :: A ++ (G.eraseIdx k).map h) (A ++ (G.set k y).map h) := by
  obtain ⟨hk, e⟩ := List.getElem?_eq_some_iff.1 hx
  have hp := (er_perm (show (G.set k y)[k]? = some y from by rw [List.getElem?_set_self hk])).map h
  rw [List.eraseIdx_set_eq, List.map_cons] at hp
  exact HSub.perm (List.perm_middle.symm.trans (hp.symm.append_left A))
theorem tl_same {α : Type} {G : List α} {k : Nat} {x : α} (hx : G[k]? = some x) : G.set k x = G := by
  obtain ⟨hk, e⟩ := List.getElem?_eq_some_iff.1 hx
  rw [← e]; exact List.set_getElem_self hk
abbrev RH : Kp RowD → Hp := Kp.h 2 53 RowD.d

theorem by_c (mode : Int) (names : List ByteArray) (l : List Lbl) (hl : l.length ≤ 1000000) :
    CD Tryz.prog 34 [] [dI mode, .sh 1 (names.map D.s), .sh 2 (l.map Lbl.d)] (zcv 2 62 ((byL mode names l).map Lbl.d)) := by
  refine zn Tryz.func34 rfl (N := 15) rfl rfl (fun C => ?_)
  refine jk [0, 1, 2] rfl ?_
  refine JD.bd 1 rfl (fun bd1 => ?_)
  have nl1 := zQ bd1
  refine JD.bd 2 rfl (fun bd2 => ?_)
  have nl2 := zQ bd2
  refine jT rfl (oR 1 rfl (oZ rfl (jS rfl (jT rfl (oR 1 rfl (oZ rfl (jB rfl (jS rfl (jT rfl (oP rfl (zJ rfl rfl rfl) (oR 1 rfl (oZ rfl ?_))))))))))))
  refine jD rfl (fun hc1 => ?_) (fun hc1 => ?_)
  · skip
    refine zk rfl (zc ?_)
    refine jD rfl (fun hc2 => ?_) (fun hc2 => ?_)
    · skip
      refine jT rfl (oR 3 rfl (oE rfl (zH [] _ [] rfl rfl (.cons ArgC.id (.cons ArgC.id (.cons ArgC.id .nil))) zt Tryz.call24 (key_c mode names l (by omega)) (.inl rfl)) ?_))
      rintro _ _ ⟨_, ⟨v3, rfl, rfl⟩, rfl⟩
      refine on rfl (oR 1 rfl (oZ rfl (jk [6] rfl (zl rfl (zf (zb (PD.subH (HSub.less (zbh (i := 0) rfl)) (PD.subH (HSub.turn (h' := .sl v3 2 62 ((byL mode names l).map Lbl.d)) rfl (Hp.eq_sl (show List.map Lbl.d (keyL mode names l) = List.map Lbl.d (byL mode names l) from congrArg _ (by first | (unfold byL; simp [*]; done) | (exfalso; omega))))) ?_))))))))
      exact zbf Tryz.results34 (.cons (zh rfl) .nil) rfl ⟨_, rfl, rfl⟩
    · skip
      refine zk rfl (zy (zc (jT rfl (oR 1 rfl (oZ rfl (zl rfl ?_))))))
      refine PD.drop (PD.subH (HSub.nil 2 62) ?_)
      refine PD.subH (HSub.turn (h' := .sl (.slice none 0 0) 2 62 ((byL mode names l).map Lbl.d)) rfl (Hp.eq_sl (show List.map Lbl.d [] = List.map Lbl.d (byL mode names l) from congrArg _ (by first | (unfold byL; simp [*]; done) | (exfalso; omega))))) ?_
      exact zbf Tryz.results34 (.cons (zr (zh rfl) (Cv.ov rfl)) .nil) rfl ⟨_, rfl, rfl⟩
  · skip
    refine za rfl (oP rfl (zJ rfl rfl rfl) (oR 1 rfl (oZ rfl ?_)))
    refine jD rfl (fun hc4 => ?_) (fun hc4 => ?_)
    · skip
      refine jT rfl (oR 3 rfl (oE rfl (zH [] _ [] rfl rfl (.cons ArgC.id (.cons ArgC.id (.cons ArgC.id .nil))) zt Tryz.call24 (key_c mode names l (by omega)) (.inl rfl)) ?_))
      rintro _ _ ⟨_, ⟨v5, rfl, rfl⟩, rfl⟩
      refine on rfl (oR 1 rfl (oZ rfl (jk [6] rfl (zl rfl (zf (zb (PD.subH (HSub.less (zbh (i := 0) rfl)) (PD.subH (HSub.turn (h' := .sl v5 2 62 ((byL mode names l).map Lbl.d)) rfl (Hp.eq_sl (show List.map Lbl.d (keyL mode names l) = List.map Lbl.d (byL mode names l) from congrArg _ (by first | (unfold byL; simp [*]; done) | (exfalso; omega))))) ?_))))))))
      exact zbf Tryz.results34 (.cons (zh rfl) .nil) rfl ⟨_, rfl, rfl⟩
    · skip
      refine zk rfl (zy (zc (jT rfl (oR 1 rfl (oZ rfl (zl rfl ?_))))))
      refine PD.drop (PD.subH (HSub.nil 2 62) ?_)
      refine PD.subH (HSub.turn (h' := .sl (.slice none 0 0) 2 62 ((byL mode names l).map Lbl.d)) rfl (Hp.eq_sl (show List.map Lbl.d [] = List.map Lbl.d (byL mode names l) from congrArg _ (by first | (unfold byL; simp [*]; done) | (exfalso; omega))))) ?_
      exact zbf Tryz.results34 (.cons (zr (zh rfl) (Cv.ov rfl)) .nil) rfl ⟨_, rfl, rfl⟩

theorem split1_c (l : List RowD) (key : List Lbl) (mode : Int) (names : List ByteArray) (x : RowD) (hx : l[0]? = some x) (hz : x.ls.length ≤ 1000000) :
    CD Tryz.prog 105 [] [.sh 2 (l.map RowD.d), .sh 2 (key.map Lbl.d), .el (dI mode) 0, .el (.sh 1 (names.map D.s)) 0] (isR (dI (zK (byL mode names x.ls) key))) := by
  refine zn Tryz.func105 rfl (N := 16) rfl rfl (fun C => ?_)
  refine jk [0, 1, 2, 3] rfl ?_
  refine JD.bd 0 rfl (fun bd0 => ?_)
  have nl0 := zQ bd0
  refine JD.bd 1 rfl (fun bd1 => ?_)
  have nl1 := zQ bd1
  refine JD.bd 2 rfl (fun bd2 => ?_)
  refine JD.bd 3 rfl (fun bd3 => ?_)
  have hl0 := (List.getElem?_eq_some_iff.1 hx).1
  have hlx := hz
  refine jT rfl (oR 1 rfl (oZ rfl (jS rfl (jk [0, 1, 2, 3, 6] rfl (jn rfl (zX 8 [(7, dI mode, none), (8, .sh 1 (names.map D.s), none), (9, .sh 2 (l.map RowD.d), none), (10, .el (RowD.d x) 0, none), (11, .el (RowD.d x) 0, none), (12, .sh 2 (x.ls.map Lbl.d), none), (13, .sh 2 ((byL mode names x.ls).map Lbl.d), none), (14, .sh 2 (key.map Lbl.d), none)] [] (Hn := []) mixed rfl rfl rfl rfl HSub.rfl' rfl ⟨sa_p rfl rfl rfl (zG rfl Tryz.isAgg3 rfl), sa_p rfl rfl rfl (zG rfl Tryz.isAgg23 rfl), sa_p rfl rfl rfl (zd rfl), sa_p rfl rfl rfl (zu (k := 0) rfl rfl Tryz.runUnderlying22 Tryz.sizeOf53 (by first | rfl | omega) (ze hx)), sa_p rfl rfl rfl (zF rfl z2 rfl), sa_p rfl rfl rfl (zG rfl Tryz.isAgg50 rfl), sa_q rfl rfl rfl (zaK rfl (.cons Cv.rfl' (.cons Cv.rfl' (.cons Cv.rfl' .nil))) Tryz.call34 (by_c mode names x.ls (by omega)) zbg), sa_p rfl rfl rfl (zd rfl), trivial⟩ (ok [0, 1, 2, 3, 6, 7, 8, 9, 10, 11, 12, 13, 14] rfl (oW rfl rfl acs Tryz.call106 (zb4 (byL mode names x.ls) key) (oR 1 rfl (oZ rfl (jk [6] rfl (zl rfl ?_))))))))))))
  exact zj Tryz.results105 (.cons (zh rfl) .nil) rfl HSub.none ⟨rfl, rfl⟩

theorem hd_some {κ : RowD → List Lbl} {G : List (Kp RowD)} {k : Nat} {x : Kp RowD} (hG : GOk κ (G.map (·.l))) (hx : G[k]? = some x) : ∃ y, x.l[0]? = some y := by
  have := hG.ne x.l (List.mem_map.2 ⟨x, zay hx, rfl⟩)
  cases h : x.l with
  | nil => exact absurd h this
  | cons y r => exact ⟨y, rfl⟩
theorem head_of {κ : RowD → List Lbl} {l : List RowD} {y : RowD} (h : l[0]? = some y) : zaJ κ l = κ y := by
  cases l with
  | nil => cases h
  | cons z r => simp at h; rw [← h]; rfl
theorem zcG {G : List (Kp RowD)} {k : Nat} {x : Kp RowD} (h : G[k]? = some x) : (G.map (·.l))[k]? = some x.l := by rw [List.getElem?_map, h]; rfl

theorem bs_end {κ : RowD → List Lbl} {G : List (Kp RowD)} {key : List Lbl} {i : Nat} {x : Kp RowD} {y : RowD} (h1 : ∀ t g, t < i → (G.map (·.l))[t]? = some g → zK (zaJ κ g) key < 0) (h2 : ∀ t g, i ≤ t → (G.map (·.l))[t]? = some g → ¬ zK (zaJ κ g) key < 0) (hx : G[i]? = some x) (hy : zaJ κ x.l = κ y) (hi : i ≤ G.length) : BsOk κ (G.map (·.l)) key i (decide (zK (κ y) key = (0 : Int))) :=
  ⟨by rw [List.length_map]; exact hi, h1, h2, by
    rw [decide_eq_true_eq, zcL]
    constructor
    · intro e; exact ⟨x.l, zcG hx, by rw [hy, e]⟩
    · rintro ⟨g, hg, e⟩; rw [zcG hx] at hg; injection hg with hg; rw [← hg, hy] at e; exact e⟩
theorem bs_none {κ : RowD → List Lbl} {G : List (Kp RowD)} {key : List Lbl} {i : Nat} (h1 : ∀ t g, t < i → (G.map (·.l))[t]? = some g → zK (zaJ κ g) key < 0) (h2 : ∀ t g, i ≤ t → (G.map (·.l))[t]? = some g → ¬ zK (zaJ κ g) key < 0) (hi : i = G.length) : BsOk κ (G.map (·.l)) key i false :=
  ⟨by rw [List.length_map]; omega, h1, h2, ⟨fun h => (by cases h), fun ⟨g, hg, _⟩ => by rw [List.getElem?_eq_none (by rw [List.length_map]; omega)] at hg; cases hg⟩⟩

theorem bsf_c (mode : Int) (names : List ByteArray) (v : Value) (G : List (Kp RowD)) (key : List Lbl) (hG : GOk (fun r => byL mode names r.ls) (G.map (·.l))) (hn : G.length ≤ 1000000) (hz : ∀ g ∈ G, ∀ x ∈ g.l, x.ls.length ≤ 1000000) :
    CD Tryz.prog 104 ([.sl v 1 22 (G.map Kp.d)] ++ (G.map RH)) [.ov v, .sh 2 (key.map Lbl.d), .fn 105 [] [.el (dI mode) 0, .el (.sh 1 (names.map D.s)) 0]] (fun r H' => ∃ i f, BsOk (fun r => byL mode names r.ls) (G.map (·.l)) key i f ∧ r = .tup [dN i, dB f] ∧ H' = ([.sl v 1 22 (G.map Kp.d)] ++ G.map RH)) := by
  refine zn Tryz.func104 rfl (N := 49) rfl rfl (fun C => ?_)
  refine jk [0, 1, 2] rfl ?_
  refine JD.bd 1 rfl (fun bd1 => ?_)
  have nl1 := zQ bd1
  refine jT rfl (oR 2 rfl (oZ rfl (jT rfl (oR 1 rfl (oP rfl (zL (n := G.length) (j := 0) rfl rfl Tryz.runUnderlying36 (List.length_map _)) (oR 1 rfl (oZ rfl (jT rfl (oR 3 rfl (oZ rfl (jS rfl (jB rfl ?_))))))))))))
  refine jl2 (fun (a_ : Nat) (b_ : Nat) => [(0, .ov v), (1, .sh 2 (key.map Lbl.d)), (2, .fn 105 [] [.el (dI mode) 0, .el (.sh 1 (names.map D.s)) 0]), (6, dI 0), (7, dB false), (8, dN G.length), (9, dN a_), (10, dN b_)]) (fun a_ b_ => ([.sl v 1 22 (G.map Kp.d)] ++ (G.map RH))) (fun a_ b_ => (a_ ≤ b_) ∧ (b_ ≤ G.length) ∧ (∀ t g, t < a_ → (G.map (·.l))[t]? = some g → zK (zaJ (fun r => byL mode names r.ls) g) key < 0) ∧ (∀ t g, b_ ≤ t → (G.map (·.l))[t]? = some g → ¬ zK (zaJ (fun r => byL mode names r.ls) g) key < 0)) (fun a_ b_ => b_ - a_) 0 G.length rfl (sa rfl) HSub.rfl' ⟨Nat.zero_le _, Nat.le_refl _, (fun t g h => absurd h (by omega)), (fun t g h e => by rw [List.getElem?_eq_none (by rw [List.length_map]; exact h)] at e; cases e)⟩ ?_
  rintro lo hi ⟨hle, hh, h1, h2⟩
  refine ja rfl ?_
  refine JD.norm ([.sl v 1 22 (G.map Kp.d)] ++ (G.map RH)) rfl ?_
  refine jS rfl (jT rfl (oR 2 rfl (oP rfl (zP rfl rfl rfl) (oZ rfl ?_))))
  refine jD rfl (fun hc1 => ?_) (fun hc1 => ?_)
  · skip
    refine zk rfl (zc (jB rfl (jT rfl (oR 2 rfl (oP rfl (zS (c := ((lo + hi : Nat) : Int)) rfl rfl (zB (by omega) (by omega))) (oP rfl (zbt rfl (c := ((lo + hi : Nat) : Int)) (zbk (by omega))) (oP rfl (zdn (a := lo + hi) (n := 1) (m := 2) rfl rfl (by decide) (by decide)) (oP rfl (zbt rfl (c := (((lo + hi) / 2 : Nat) : Int)) (zcl (by omega))) (oR 1 rfl (oZ rfl (jT rfl (oR 3 rfl ?_))))))))))))
    obtain ⟨x1, hx1⟩ := zx G ((lo + hi) / 2) (by omega)
    refine oP rfl (zg (k := (lo + hi) / 2) (j := 0) rfl rfl rfl Tryz.runUnderlying36 Tryz.sizeOf22 (by first | rfl | omega) (ze hx1)) (oP rfl (zR rfl (i := 0) rfl (ze hx1) Tryz.isAgg22 rfl) (oR 1 rfl (OpsD.subH (tl_out (A := [.sl v 1 22 (G.map Kp.d)]) (h := RH) (G := G) hx1) ?_)))
    refine OpsD.norm ([.sl x1.v 2 53 (x1.l.map RowD.d), .sl v 1 22 (G.map Kp.d)] ++ ((G.eraseIdx ((lo + hi) / 2)).map RH)) rfl ?_
    obtain ⟨yx1, hyx1⟩ := hd_some hG hx1
    have hykx1 := head_of (κ := (fun r => byL mode names r.ls)) hyx1
    refine oE rfl (za8 [] _ [.sl x1.v 2 53 (x1.l.map RowD.d)] rfl rfl rfl (.cons (ArgC.own (j := 0) rfl rfl) acs) (zaN (j := 0) rfl zt) Tryz.call105 (split1_c x1.l key mode names yx1 hyx1 (hz _ (zay hx1) _ (zay hyx1))) (.inr (zbu rfl))) ?_
    rintro _ _ ⟨_, ⟨rfl, rfl⟩, rfl⟩
    refine OpsD.norm ([.sl x1.v 2 53 (x1.l.map RowD.d), .sl v 1 22 (G.map Kp.d)] ++ ((G.eraseIdx ((lo + hi) / 2)).map RH)) rfl ?_
    refine OpsD.subH (tl_in (A := [.sl v 1 22 (G.map Kp.d)]) (h := RH) (G := G) (y := x1) hx1) ?_
    refine OpsD.norm ([.sl v 1 22 (G.map Kp.d)] ++ (G.map RH)) (by rw [tl_same hx1]) ?_
    refine oP rfl (zP rfl rfl rfl) (oZ rfl ?_)
    refine jD rfl (fun hc2 => ?_) (fun hc2 => ?_)
    · skip
      refine za rfl (oR 1 rfl (oP rfl (zS (c := ((((lo + hi) / 2) + 1 : Nat) : Int)) rfl rfl (zB (by omega) (by omega))) (oR 1 rfl (zi rfl (zy ?_)))))
      exact pl2 ((lo + hi) / 2 + 1) hi (sa rfl) HSub.rfl' ⟨by omega, hh, fun t g ht hg => hG.below hg (zcG hx1) (by omega) (by rw [hykx1]; exact hc2), h2⟩ (by omega)
    · skip
      refine za rfl (oR 2 rfl (zi rfl (zy ?_)))
      exact pl2 lo ((lo + hi) / 2) (sa rfl) HSub.rfl' ⟨by omega, by omega, h1, fun t g ht hg hc => hc2 (by rw [← hykx1]; exact hG.below (zcG hx1) hg ht hc)⟩ (by omega)
  · skip
    refine zO rfl (zq (zp (zm (zc (jS rfl ?_)))))
    by_cases hg3 : ((lo : Nat) : Int) < ((G.length : Nat) : Int)
    · skip
      refine za rfl (oR 3 rfl (oP rfl (zP rfl rfl (decide_eq_true hg3)) (oR 4 rfl ?_)))
      obtain ⟨x2, hx2⟩ := zx G lo (by omega)
      refine oG rfl (zg (k := lo) (j := 0) rfl rfl rfl Tryz.runUnderlying36 Tryz.sizeOf22 (by first | rfl | omega) (ze hx2)) (oG rfl (zR rfl (i := 0) rfl (ze hx2) Tryz.isAgg22 rfl) (oR 1 rfl (OpsD.subH (tl_out (A := [.sl v 1 22 (G.map Kp.d)]) (h := RH) (G := G) hx2) ?_)))
      refine OpsD.norm ([.sl x2.v 2 53 (x2.l.map RowD.d), .sl v 1 22 (G.map Kp.d)] ++ ((G.eraseIdx lo).map RH)) rfl ?_
      obtain ⟨yx2, hyx2⟩ := hd_some hG hx2
      have hykx2 := head_of (κ := (fun r => byL mode names r.ls)) hyx2
      refine oF rfl (za8 [] _ [.sl x2.v 2 53 (x2.l.map RowD.d)] rfl rfl rfl (.cons (ArgC.own (j := 0) rfl rfl) acs) (zaN (j := 0) rfl zt) Tryz.call105 (split1_c x2.l key mode names yx2 hyx2 (hz _ (zay hx2) _ (zay hyx2))) (.inr (zbu rfl))) ?_
      rintro _ _ ⟨_, ⟨rfl, rfl⟩, rfl⟩
      refine OpsD.norm ([.sl x2.v 2 53 (x2.l.map RowD.d), .sl v 1 22 (G.map Kp.d)] ++ ((G.eraseIdx lo).map RH)) rfl ?_
      refine OpsD.subH (tl_in (A := [.sl v 1 22 (G.map Kp.d)]) (h := RH) (G := G) (y := x2) hx2) ?_
      refine OpsD.norm ([.sl v 1 22 (G.map Kp.d)] ++ (G.map RH)) (by rw [tl_same hx2]) ?_
      refine oG rfl (zJ rfl rfl rfl) (oR 3 rfl (oZ rfl (jk [6, 7] rfl (zl rfl ?_))))
      exact zj Tryz.results104 (.cons (zh rfl) (.cons (zh rfl) .nil)) rfl HSub.rfl' ⟨lo, decide ((zK (byL mode names yx2.ls) key) = (0 : Int)), bs_end (fun t g ht => h1 t g ht) (fun t g ht => h2 t g (by omega)) hx2 hykx2 (by omega), rfl, rfl⟩
    · skip
      refine za rfl (oR 3 rfl (oP rfl (zP rfl rfl (decide_eq_false hg3)) (oR 12 rfl (oZ rfl (jk [6, 7] rfl (zl rfl ?_))))))
      exact zj Tryz.results104 (.cons (zh rfl) (.cons (zh rfl) .nil)) rfl HSub.rfl' ⟨lo, false, bs_none (fun t g ht => h1 t g ht) (fun t g ht => h2 t g (by omega)) (by omega), rfl, rfl⟩
end Lp
/-
  What is said of vectors (chapter 10), as plain data.
-/
set_option linter.unusedVariables false
namespace Lp
open Go
/-! ### rows that may be -/
theorem rowsB_iff {l : List RowD} : zbe l = true ↔ ∀ r ∈ l, zaX r = true := by rw [rowsB_ok, List.all_eq_true]
theorem right_n {l : List Lbl} (h : zaI l = true) : zE l = l ∧ zaG l = 0 ∧ NSrt l ∧ (∀ x ∈ l, okL x = true) ∧ l.length ≤ 8 := by
  unfold zaI at h
  rw [Bool.and_eq_true, decide_eq_true_eq] at h
  have e := zcL.1 h.2
  have e0 : zaG l = 0 := by have := tidyOk_E l; rw [h.1] at this; exact of_decide_eq_true this
  have hn := tidy_n e0
  rw [e] at hn
  exact ⟨e, e0, hn.1, hn.2, tidy_ok_len h.1⟩
theorem right_of {l : List Lbl} (h1 : l.length ≤ 8) (h2 : NSrt l) (h3 : ∀ x ∈ l, okL x = true) : zaI l = true := by
  obtain ⟨e1, e2⟩ := tidyOk_of h1 h2 (List.Perm.refl l) h3
  unfold zaI zE
  rw [e1, e2]
  simp [cmpLs_self]
theorem right_pick {l : List Lbl} (h : zaI l = true) (ns : List ByteArray) (w : Bool) : zaI (za1 l ns w) = true := by
  obtain ⟨_, _, h3, h4, h5⟩ := right_n h
  exact right_of (Nat.le_trans (pickL_len _ _ _) h5) (List.Pairwise.filter _ h3) (fun x hx => h4 x (pickL_mem hx))
theorem right_key {l : List Lbl} (h : zaI l = true) (mode : Int) (ns : List ByteArray) : zaI (keyL mode ns l) = true := by
  unfold keyL
  split
  · exact right_pick h _ _
  · split
    · exact right_pick (right_pick h _ _) _ _
    · exact right_pick h _ _
theorem okRow_r {r : RowD} (h : zaX r = true) : zaI r.ls = true ∧ zan r.v = true := by unfold zaX at h; rwa [Bool.and_eq_true] at h
theorem okRow_of {r : RowD} (h1 : zaI r.ls = true) (h2 : zan r.v = true) : zaX r = true := by unfold zaX; rw [h1, h2]; rfl
theorem rt_rows {l : List RowD} (h : rtE l = 0) : l.length ≤ 2000 ∧ zbe l = true := by
  unfold rtE at h
  cases hb : decide (l.length ≤ 2000) && zbe l
  · rw [hb] at h; cases h
  · rw [Bool.and_eq_true, decide_eq_true_eq] at hb; exact hb
theorem tidyRs_rows (l : List RowD) : ∀ r ∈ z8 l, zaX r = true := by
  have key : ∀ (m out : List RowD), (∀ r ∈ out, zaX r = true) → ∀ r ∈ m.foldl za3 out, zaX r = true := by
    intro m
    induction m with
    | nil => intro out h; exact h
    | cons x m ih =>
      intro out h
      refine ih (za3 out x) ?_
      unfold za3
      split
      · rename_i hc
        intro r hr
        have h1 := (rt_rows hc.2.2).2
        rw [rowsB_iff] at h1
        exact h1 r ((rt_strict hc.2.2).2.mem_iff.1 hr)
      · exact h
  exact key l [] (fun _ h => by cases h)
theorem zcY {a : List RowD} (h : zV a = true) : ∀ r ∈ a, zaX r = true := rowsB_iff.1 (zaS.1 h).2.1
theorem vr_strict {a : List RowD} (h : zV a = true) : zax cL a := (zaS.1 h).2.2
theorem vr_of {a : List RowD} (h1 : a.length ≤ 2000) (h2 : ∀ r ∈ a, zaX r = true) (h3 : zax cL a) : zV a = true := zaS.2 ⟨h1, rowsB_iff.2 h2, h3⟩
theorem vr_tidy {l : List RowD} (h : zaq l = true) : zV (z8 l) = true := by
  have t := zbZ (fun r hr => lightR_row h hr)
  have := lightR_len h
  exact vr_of (by have := t.len; omega) (tidyRs_rows l) t.st
theorem rt_perm {a b : List RowD} (h : zV a = true) (hp : a.Perm b) : rtL b = a ∧ rtE b = 0 := by
  have e := strict_isort zcX (vr_strict h) hp
  have hb : ordB b = true := by unfold ordB; rw [e]; exact decide_eq_true (vr_strict h)
  have h1 : ¬ (2000 : Int) < ((b.length : Nat) : Int) := by have := (zaS.1 h).1; rw [← hp.length_eq]; omega
  have h2 : zbe b = true := rowsB_iff.2 (fun r hr => zcY h r (hp.mem_iff.2 hr))
  obtain ⟨e1, e2⟩ := zdb h1 h2
  rw [← e1, ← e2]
  unfold ordL ordE; rw [hb, e]; exact ⟨rfl, rfl⟩
theorem zcZ {a : List RowD} (h : zV a = true) : rtL a = a ∧ rtE a = 0 := rt_perm h (List.Perm.refl a)
end Lp
/-
  What is said of vectors (chapter 10): the first call, twice the same, splits.
-/
set_option linter.unusedVariables false
namespace Lp
open Go
theorem one_vr {r : RowD} (h : zaX r = true) : zV [r] = true :=
  vr_of (by simp) (fun x hx => by rw [List.mem_singleton.1 hx]; exact h) (List.pairwise_singleton _ _)
end Lp
/-
  What groups of rows give (chapter 11), as plain data.
-/
set_option linter.unusedVariables false
namespace Lp
open Go
def tot (l : List Int) : Int := l.foldl (· + ·) 0
theorem foldl_add (l : List Int) : ∀ a : Int, l.foldl (· + ·) a = a + l.foldl (· + ·) 0 := by
  induction l with
  | nil => intro a; simp
  | cons x l ih => intro a; rw [List.foldl_cons, List.foldl_cons, ih, ih (0 + x)]; omega
theorem tot_cons (x : Int) (l : List Int) : tot (x :: l) = x + tot l := by unfold tot; rw [List.foldl_cons, foldl_add]; omega
theorem tot_snoc {l : List Int} {k : Nat} {x : Int} (h : l[k]? = some x) : tot (l.take (k + 1)) = tot (l.take k) + x := by
  unfold tot; rw [zas h, List.foldl_append]; rfl
def allR (l : List Int) : Bool := l.all zan && decide (l.length ≤ 2000)
theorem rightV_iff {v : Int} : zan v = true ↔ -1000000000000 ≤ v ∧ v ≤ 1000000000000 := by unfold zan; simp
theorem tot_bd {l : List Int} (h : l.all zan = true) : -1000000000000 * (l.length : Int) ≤ tot l ∧ tot l ≤ 1000000000000 * (l.length : Int) := by
  induction l with
  | nil => simp [tot]
  | cons x l ih =>
    simp only [List.all_cons, Bool.and_eq_true] at h
    have h1 := rightV_iff.1 h.1
    have h2 := ih h.2
    rw [tot_cons]; simp only [List.length_cons]; omega
theorem all_take {l : List Int} {k : Nat} (h : l.all zan = true) : (l.take k).all zan = true := by
  rw [List.all_eq_true] at h ⊢; exact fun x hx => h x (List.mem_of_mem_take hx)
def sumE (l : List Int) : Int × Int := if allR l = true then zbN (tot l) else (0, 1)
def zcF (l : List Int) : Int × Int := if l.length = 0 then (0, 7) else if allR l = true then (Int.tdiv (tot l) l.length, 0) else (0, 1)
def minL : List Int → Int
  | [] => 0
  | x :: r => r.foldl min x
def maxL : List Int → Int
  | [] => 0
  | x :: r => r.foldl max x
theorem minL_snoc {l : List Int} {k : Nat} {x : Int} (hk : 0 < k) (h : l[k]? = some x) : minL (l.take (k + 1)) = min (minL (l.take k)) x := by
  cases l with
  | nil => simp at h
  | cons y r =>
    obtain ⟨k, rfl⟩ : ∃ m, k = m + 1 := ⟨k - 1, by omega⟩
    simp only [List.getElem?_cons_succ] at h
    simp only [List.take_succ_cons, minL]
    rw [zas h, List.foldl_append]; rfl
theorem maxL_snoc {l : List Int} {k : Nat} {x : Int} (hk : 0 < k) (h : l[k]? = some x) : maxL (l.take (k + 1)) = max (maxL (l.take k)) x := by
  cases l with
  | nil => simp at h
  | cons y r =>
    obtain ⟨k, rfl⟩ : ∃ m, k = m + 1 := ⟨k - 1, by omega⟩
    simp only [List.getElem?_cons_succ] at h
    simp only [List.take_succ_cons, maxL]
    rw [zas h, List.foldl_append]; rfl
theorem minL_one {l : List Int} {x : Int} (h : l[0]? = some x) : minL (l.take 1) = x := by
  cases l with
  | nil => simp at h
  | cons y r => simp at h; subst h; rfl
theorem maxL_one {l : List Int} {x : Int} (h : l[0]? = some x) : maxL (l.take 1) = x := by
  cases l with
  | nil => simp at h
  | cons y r => simp at h; subst h; rfl
/-- how numbers of a group become one -/
inductive Way where
  | sums (mean : Bool)
  | least
  | most
  | many
  | rank (p : Int)
  | top (n : Int)
def aggN : List ByteArray := [⟨#[115, 117, 109]⟩, ⟨#[109, 105, 110]⟩, ⟨#[109, 97, 120]⟩, ⟨#[99, 111, 117, 110, 116]⟩, ⟨#[97, 118, 103]⟩, ⟨#[116, 111, 112, 107]⟩, ⟨#[113, 117, 97, 110, 116, 105, 108, 101]⟩]
abbrev nSum : ByteArray := ⟨#[115, 117, 109]⟩
abbrev nMin : ByteArray := ⟨#[109, 105, 110]⟩
abbrev nMax : ByteArray := ⟨#[109, 97, 120]⟩
abbrev nCount : ByteArray := ⟨#[99, 111, 117, 110, 116]⟩
abbrev nAvg : ByteArray := ⟨#[97, 118, 103]⟩
abbrev nTop : ByteArray := ⟨#[116, 111, 112, 107]⟩
abbrev nQ : ByteArray := ⟨#[113, 117, 97, 110, 116, 105, 108, 101]⟩
def wayO (name : ByteArray) (n : Int) : Option Way :=
  if name = nSum then some (.sums false) else if name = nAvg then some (.sums true) else if name = nMin then some .least else if name = nMax then some .most else if name = nCount then some .many
  else if name = nQ ∧ 0 ≤ n ∧ n ≤ 100 then some (.rank n) else if name = nTop ∧ 1 ≤ n ∧ n ≤ 2000 then some (.top n) else none
theorem way_agg {name : ByteArray} {n : Int} {w : Way} (h : wayO name n = some w) : hasN aggN name = true := by
  unfold wayO at h
  unfold hasN aggN
  repeat' split at h
  all_goals first | (cases h; done) | simp_all
def Way.red : Way → Bool
  | .sums _ | .least | .most | .many => true
  | .rank p => decide (0 ≤ p ∧ p ≤ 100)
  | .top _ => false
/-- numbers in order, and the one at a place of a hundred -/
def srtI (l : List Int) : List Int := l.mergeSort (fun x y => decide (x ≤ y))
theorem srtI_len (l : List Int) : (srtI l).length = l.length := List.length_mergeSort l
theorem srtI_perm (l : List Int) : (srtI l).Perm l := List.mergeSort_perm l _
def rankQ (p : Int) (n : Nat) : Int := max (Int.tdiv (p * (n : Int) + 100 - 1) 100) 1
def zcR (p : Int) (n : Nat) : Nat := (rankQ p n - 1).toNat
def zcu (p : Int) (l : List Int) : Int := ((srtI l)[zcR p l.length]?).getD 0
theorem rank_pm {p : Int} {n : Nat} (h0 : 0 ≤ p) (h1 : p ≤ 100) : 0 ≤ p * (n : Int) ∧ p * (n : Int) ≤ 100 * (n : Int) :=
  ⟨Int.mul_nonneg h0 (by omega), Int.mul_le_mul_of_nonneg_right h1 (by omega)⟩
theorem rank_div {p : Int} {n : Nat} (h0 : 0 ≤ p) (h1 : p ≤ 100) : Int.tdiv (p * (n : Int) + 100 - 1) 100 = (p * (n : Int) + 100 - 1) / 100 := by
  have := rank_pm (n := n) h0 h1
  rw [Int.tdiv_eq_ediv_of_nonneg (by omega)]
theorem rank_q {p : Int} {n : Nat} (h0 : 0 ≤ p) (h1 : p ≤ 100) (hn : 0 < n) : max (Int.tdiv (p * (n : Int) + 100 - 1) 100) 1 = ((zcR p n : Nat) : Int) + 1 ∧ zcR p n < n := by
  have := rank_pm (n := n) h0 h1
  unfold zcR rankQ
  rw [rank_div h0 h1]; omega
def oneW : Way → List Int → Int × Int
  | .sums false, l => sumE l
  | .sums true, l => zcF l
  | .least, l => (minL l, 0)
  | .most, l => (maxL l, 0)
  | .many, l => ((l.length : Int), 0)
  | .rank p, l => (zcu p l, 0)
  | _, _ => (0, 0)
def za0 (f : List RowD → Int × Int) : List (List RowD) → Int
  | [] => 0
  | g :: gs => if (f g).2 ≠ 0 then (f g).2 else za0 f gs
abbrev numF (w : Way) : List RowD → Int × Int := fun g => oneW w (g.map (·.v))
def outR (κ : RowD → List Lbl) (w : Way) (gs : List (List RowD)) : List RowD := gs.map (fun g => ⟨zaJ κ g, (numF w g).1⟩)
section
variable {f : List RowD → Int × Int} {gs : List (List RowD)} {k : Nat} {x : List RowD}
theorem firstG_app (a b : List (List RowD)) (h : za0 f a = 0) : za0 f (a ++ b) = za0 f b := by
  induction a with
  | nil => rfl
  | cons y r ih =>
    unfold za0 at h
    split at h
    · rename_i e; exact absurd h e
    · rename_i e
      show (if _ then _ else za0 f (r ++ b)) = _
      rw [if_neg e]; exact ih h
theorem firstG_snoc (hx : gs[k]? = some x) (h : za0 f (gs.take k) = 0) (e : (f x).2 = 0) : za0 f (gs.take (k + 1)) = 0 := by
  rw [zas hx, firstG_app _ _ h]; unfold za0; rw [if_neg (by omega)]; rfl
theorem firstG_at (hx : gs[k]? = some x) (h : za0 f (gs.take k) = 0) (e : ¬ (f x).2 = 0) : za0 f gs = (f x).2 := by
  have : gs = gs.take k ++ x :: gs.drop (k + 1) := by
    obtain ⟨hk, e⟩ := List.getElem?_eq_some_iff.1 hx
    rw [← e, List.getElem_cons_drop, List.take_append_drop]
  rw [this, firstG_app _ _ h]; unfold za0; rw [if_pos e]
end
section
variable {mode : Int} {names : List ByteArray} {l : List RowD} {w : Way}
abbrev kapB (mode : Int) (names : List ByteArray) : RowD → List Lbl := fun r => byL mode names r.ls
def zM (mode : Int) (names : List ByteArray) (l : List RowD) : List (List RowD) := if zV l = true then za9 (kapB mode names) l else []
def gdL (w : Way) (mode : Int) (names : List ByteArray) (l : List RowD) : List RowD := if zV l = true then (if za0 (numF w) (zM mode names l) = 0 then rtL (outR (kapB mode names) w (zM mode names l)) else []) else []
def gdE (w : Way) (mode : Int) (names : List ByteArray) (l : List RowD) : Int := if zV l = true then (if za0 (numF w) (zM mode names l) = 0 then rtE (outR (kapB mode names) w (zM mode names l)) else za0 (numF w) (zM mode names l)) else 1
theorem gd_bad (h : zV l = false) : [] = gdL w mode names l ∧ 1 = gdE w mode names l := by unfold gdL gdE; rw [if_neg (by rw [h]; simp), if_neg (by rw [h]; simp)]; exact ⟨rfl, rfl⟩
theorem gd_err (h : zV l = true) {k : Nat} {x : List RowD} (hx : (zM mode names l)[k]? = some x) (h0 : za0 (numF w) ((zM mode names l).take k) = 0) (e : ¬ (numF w x).2 = 0) : [] = gdL w mode names l ∧ (numF w x).2 = gdE w mode names l := by
  unfold gdL gdE; rw [if_pos h, if_pos h, firstG_at hx h0 e, if_neg e, if_neg e]; exact ⟨rfl, rfl⟩
theorem gd_ok (h : zV l = true) {k : Nat} (h0 : za0 (numF w) ((zM mode names l).take k) = 0) (hk : (zM mode names l).length ≤ k) : rtL (outR (kapB mode names) w ((zM mode names l).take k)) = gdL w mode names l ∧ rtE (outR (kapB mode names) w ((zM mode names l).take k)) = gdE w mode names l := by
  rw [List.take_of_length_le hk] at h0 ⊢
  unfold gdL gdE; rw [if_pos h, if_pos h, if_pos h0, if_pos h0]; exact ⟨rfl, rfl⟩
theorem outR_snoc {κ : RowD → List Lbl} {gs : List (List RowD)} {k : Nat} {x : List RowD} (hx : gs[k]? = some x) : outR κ w (gs.take (k + 1)) = outR κ w (gs.take k) ++ [⟨zaJ κ x, (numF w x).1⟩] := by
  unfold outR; rw [zas hx, List.map_append]; rfl
end
/-- rows, the greater number first -/
def grC (a b : RowD) : Int := or2 (cmpI b.v a.v) (zK a.ls b.ls)
def topR (n : Int) (gs : List (List RowD)) : List RowD := gs.flatMap (fun g => (zw grC g).take (min n.toNat g.length))
theorem topR_snoc {n : Int} {gs : List (List RowD)} {k : Nat} {x : List RowD} (hx : gs[k]? = some x) : topR n (gs.take (k + 1)) = topR n (gs.take k) ++ (zw grC x).take (min n.toNat x.length) := by
  unfold topR; rw [zas hx, List.flatMap_append]; simp
def gtL (n : Int) (mode : Int) (names : List ByteArray) (l : List RowD) : List RowD := if zV l = true then rtL (topR n (zM mode names l)) else []
def gtE (n : Int) (mode : Int) (names : List ByteArray) (l : List RowD) : Int := if zV l = true then rtE (topR n (zM mode names l)) else 1
end Lp
/- Walks, printed by a program of mine. -/
set_option linter.unusedSimpArgs false
set_option linter.unusedVariables false
set_option maxHeartbeats 4000000
set_option maxRecDepth 100000
namespace Lp
open Go Go.RowKit Go.Proofs

namespace HdYtfjinapgehafiaaGreatV74
theorem zcp : ∀ w, ((#[⟨"Labels", 50, 0, false, "", "", 0⟩, ⟨"V", 3, 1, false, "", "", 24⟩] : Array Field).mapM fun f => do pure (f.offset, ← Go.sizeOf f.type) : Sem (Array (Nat × Nat))).run Tryz.prog w = .ok ([(0, 1), (1, 1)] : List (Nat × Nat)).toArray w := fun _ => by kernel_rfl
theorem z2 (b o : Nat) : ∀ w, (Instr.fieldAt 53 (.pointer (some ⟨b, o, none⟩)) 0).run Tryz.prog w = .ok (.pointer (some ⟨b, o + 0, none⟩)) w := fun _ => by kernel_rfl
theorem zab (b o : Nat) : ∀ w, (Instr.fieldAt 53 (.pointer (some ⟨b, o, none⟩)) 1).run Tryz.prog w = .ok (.pointer (some ⟨b, o + 1, none⟩)) w := fun _ => by kernel_rfl
theorem zaE : ∃ i, Tryz.prog.info? 53 = some i ∧ i.zero = some (.agg #[(.slice none 0 0), (.int .i64 0)]) ∧ i.size = 2 ∧ i.bytes = 32 := za5 (by kernel_rfl)
theorem za2 : Tryz.prog.underlying 22 = some (.slice 53) := by kernel_rfl
end HdYtfjinapgehafiaaGreatV74
open HdYtfjinapgehafiaaGreatV74

theorem HL.refl {L : List Hp} : ∀ {H : List Hp}, HL L H H
  | [] => .nil
  | _ :: _ => .same HL.refl
theorem ins_tail {α : Type} {h : α → Hp} {A : List Hp} {G : List α} {i : Nat} {y : α} : HSub (h y :: (A ++ G.map h)) (A ++ (G.take i ++ y :: G.drop i).map h) := by
  refine HSub.perm ?_
  have h1 : (G.take i ++ y :: G.drop i).Perm (y :: G) := List.perm_middle.trans (List.Perm.of_eq (by rw [List.take_append_drop]))
  have h2 := (h1.map h).symm
  rw [List.map_cons] at h2
  exact List.perm_middle.symm.trans (h2.append_left A)
theorem ins_map {G : List (Kp RowD)} {i : Nat} {y : Kp RowD} : (G.map Kp.d).take i ++ Kp.d y :: (G.map Kp.d).drop i = (G.take i ++ y :: G.drop i).map Kp.d := by rw [List.map_append, List.map_cons, List.map_take, List.map_drop]
theorem drop2 {a b : Hp} {T : List Hp} : HSub ([a, b] ++ T) ([a] ++ T) := HSub.less ((List.sublist_cons_self b T).cons_cons a)
section
variable {κ : RowD → List Lbl} {G : List (Kp RowD)} {i : Nat} {f : Bool} {r : RowD}
theorem go_found (hb : BsOk κ (G.map (·.l)) (κ r) i f) (hf : f = true) : ∃ p, G[i]? = some p ∧ (G.map (·.l)).set i (p.l ++ [r]) = insG κ (G.map (·.l)) r := by
  obtain ⟨g, hg, _⟩ := hb.is.1 hf
  rw [List.getElem?_map] at hg
  obtain ⟨p, hp, e⟩ := Option.map_eq_some_iff.1 hg
  refine ⟨p, hp, ?_⟩
  rw [insG_at hb, if_pos hf, zcG hp]; rfl
theorem go_new (hb : BsOk κ (G.map (·.l)) (κ r) i f) (hf : f = false) : ((G.take i ++ (⟨.slice none 0 0, []⟩ : Kp RowD) :: G.drop i).map (·.l)).set i ([] ++ [r]) = insG κ (G.map (·.l)) r := by
  have hle := hb.le
  rw [List.length_map] at hle
  rw [insG_at hb, if_neg (by rw [hf]; simp), List.map_append, List.map_cons, List.map_take, List.map_drop, List.set_append_right _ _ (by simp only [lt', lm]; omega), List.length_take, List.length_map, Nat.min_eq_left hle, Nat.sub_self]; rfl
theorem go_at (hb : BsOk κ (G.map (·.l)) (κ r) i f) : (G.take i ++ (⟨.slice none 0 0, []⟩ : Kp RowD) :: G.drop i)[i]? = some ⟨.slice none 0 0, []⟩ := by
  have hle := hb.le
  rw [List.length_map] at hle
  rw [List.getElem?_append_right (by rw [List.length_take]; omega), List.length_take, Nat.min_eq_left hle, Nat.sub_self]; rfl
theorem go_set {p : Kp RowD} {v : Value} {l : List RowD} : (G.set i ⟨v, l⟩).map (·.l) = (G.map (·.l)).set i l := List.map_set ..
theorem go_facts {l : List RowD} {k : Nat} (hG : G.map (·.l) = za9 κ (l.take k)) (hl : l.length ≤ 2000) (hok : ∀ r ∈ l, r.ls.length ≤ 8) : GOk κ (G.map (·.l)) ∧ G.length ≤ 2000 ∧ (∀ g ∈ G, ∀ x ∈ g.l, x.ls.length ≤ 1000000) ∧ (∀ g ∈ G, g.l.length ≤ 2000) := by
  have htl : (l.take k).length ≤ 2000 := by rw [List.length_take]; omega
  refine ⟨hG ▸ splitG_ok _, ?_, fun g hg x hx => ?_, fun g hg => ?_⟩
  · have := splitG_len (κ := κ) (l.take k); rw [← hG, List.length_map] at this; omega
  · have := splitG_mem (κ := κ) (l.take k) g.l (hG ▸ List.mem_map.2 ⟨g, hg, rfl⟩) x hx
    have := hok x (List.mem_of_mem_take this); omega
  · have := splitG_rows (κ := κ) (l.take k) g.l (hG ▸ List.mem_map.2 ⟨g, hg, rfl⟩); omega
end

theorem split_c (mode : Int) (names : List ByteArray) (l : List RowD) (hl : l.length ≤ 1000000) :
    CD Tryz.prog 33 [] [dI mode, .sh 1 (names.map D.s), .sh 2 (l.map RowD.d)] (fun r H' => ∃ (v : Value) (G : List (Kp RowD)), r = .ov v ∧ H' = ([.sl v 1 22 (G.map Kp.d)] ++ G.map RH) ∧ G.map (·.l) = zM mode names l) := by
  refine zn Tryz.func33 rfl (N := 57) rfl rfl (fun C => ?_)
  refine jk [0, 1, 2] rfl ?_
  refine JD.bd 1 rfl (fun bd1 => ?_)
  have nl1 := zQ bd1
  refine JD.bd 2 rfl (fun bd2 => ?_)
  have nl2 := zQ bd2
  refine jT rfl (oE rfl (zbp rfl (CellD.v rfl)) ?_)
  rintro _ _ ⟨g1, rfl, rfl⟩
  refine oE rfl (zbp rfl (CellD.sh)) ?_
  rintro _ _ ⟨g2, rfl, rfl⟩
  refine oR 1 rfl (oZ rfl (jS rfl (jS rfl (JD.mv (Mv.freeze (K' := [(0, dI mode), (1, .sh 1 (names.map D.s)), (2, .sh 2 (l.map RowD.d)), (3, dP g1 0), (4, .el (.sh 1 (names.map D.s)) 0), (6, dZ)]) [.bx g2 23 (.sh 1 (names.map D.s))] (H1 := [.bx g1 3 (dI mode)]) (H1' := [.bx g1 3 (dI mode)]) ⟨⟨_, rfl, ArgC.id⟩, ⟨_, rfl, ArgC.id⟩, ⟨_, rfl, ArgC.id⟩, ⟨_, rfl, ArgC.id⟩, ⟨_, rfl, ArgC.boxC (j := 0) rfl ArgC.id⟩, ⟨_, rfl, ArgC.id⟩, trivial⟩ (.same .nil)) (JD.mv (Mv.freeze (K' := [(0, dI mode), (1, .sh 1 (names.map D.s)), (2, .sh 2 (l.map RowD.d)), (3, .el (dI mode) 0), (4, .el (.sh 1 (names.map D.s)) 0), (6, dZ)]) [.bx g1 3 (dI mode)] (H1 := []) (H1' := []) ⟨⟨_, rfl, ArgC.id⟩, ⟨_, rfl, ArgC.id⟩, ⟨_, rfl, ArgC.id⟩, ⟨_, rfl, ArgC.boxC (j := 0) rfl ArgC.id⟩, ⟨_, rfl, ArgC.id⟩, ⟨_, rfl, ArgC.id⟩, trivial⟩ .nil) (za rfl (oR 1 rfl (oW rfl rfl acs Tryz.call26 (vRight_c l) (oP rfl (zba rfl) (oZ rfl ?_))))))))))
  refine jC rfl (fun hc3 => ?_) (fun hc3 => ?_)
  · simp only [bA, bB, bC, bD, bE, bF, bG, bH, bI, bJ] at hc3
    refine jT rfl (oR 1 rfl (oZ rfl (zl rfl (zb (PD.subH (HSub.nil 1 22) ?_)))))
    exact zj Tryz.results33 (.cons (zr (zh rfl) (Cv.ov rfl)) .nil) rfl (HSub.fst 1 rfl) ⟨_, [], rfl, rfl, by unfold zM; rw [if_neg (by rw [show zV l = false from by assumption]; simp)]; rfl⟩
  · simp only [bA, bB, bC, bD, bE, bF, bG, bH, bI, bJ] at hc3
    have hvl := (zaS.1 hc3).1
    have hok8 : ∀ r ∈ l, r.ls.length ≤ 8 := fun r hr => okRow_len (zcY hc3 r hr)
    refine zk rfl (zc (jT rfl (oR 1 rfl (oZ rfl (jS rfl (jT rfl (oR 1 rfl (oP rfl (zaa (n := l.length) rfl Tryz.runUnderlying22 (by simp only [lm, lc, ln])) (oR 1 rfl (oZ rfl (jB rfl (jl3 (fun (a_ : Nat) (b_ : Value) (c_ : List (Kp RowD)) => [(3, .el (dI mode) 0), (4, .el (.sh 1 (names.map D.s)) 0), (6, dZ), (16, .sh 2 (l.map RowD.d)), (17, dN l.length), (18, dN a_), (7, .ov b_)]) (fun a_ b_ c_ => ([.sl b_ 1 22 (c_.map Kp.d)] ++ (c_.map RH))) (fun a_ b_ c_ => (a_ ≤ l.length) ∧ (c_.map (·.l) = za9 (fun r => byL mode names r.ls) (l.take a_))) (fun a_ b_ c_ => l.length - a_) 0 (.slice none 0 0) [] rfl ⟨sk rfl, sk rfl, sk rfl, sk rfl, sk rfl, sk rfl, sc rfl (Cv.ov rfl), trivial⟩ (HSub.nil 1 22) ⟨Nat.zero_le _, rfl⟩ ?_))))))))))))
    rintro k ov G ⟨hkl, hG⟩
    refine ja rfl ?_
    refine JD.norm ([.sl ov 1 22 (G.map Kp.d)] ++ (G.map RH)) rfl ?_
    have hgf := go_facts hG hvl hok8
    refine jT rfl (oP rfl (zP rfl rfl rfl) (oZ rfl (jS rfl ?_)))
    refine jD rfl (fun hc4 => ?_) (fun hc4 => ?_)
    · skip
      refine zk rfl (zc (jS rfl (jB rfl (jT rfl ?_))))
      obtain ⟨x1, hx1⟩ := zx l k (by omega)
      have hkx1 := hok8 x1 (zay hx1)
      refine oP rfl (zu (k := k) rfl rfl Tryz.runUnderlying22 Tryz.sizeOf53 (by first | rfl | omega) (ze hx1)) (oP rfl (zaM (d := RowD.d x1) rfl Tryz.isAgg53 Tryz.sizeOf53 rfl rfl) (oE rfl (zav (zv := (.agg #[(.slice none 0 0), (.int .i64 0)])) Tryz.zeroValue53 ⟨rfl, rfl, trivial⟩ (Cv.vagg (by decide))) ?_))
      rintro _ _ ⟨g5, rfl, rfl⟩
      refine oE rfl (zZ (i := 0) (X' := RowD.d x1) rfl rfl rfl (CellD.agg) Tryz.sizeOf53 rfl rfl rfl) ?_
      rintro _ _ ⟨rfl, rfl⟩
      refine OpsD.norm ([.bx g5 53 (RowD.d x1), .sl ov 1 22 (G.map Kp.d)] ++ (G.map RH)) rfl ?_
      refine oZ rfl (jT rfl (oP rfl (zG rfl Tryz.isAgg3 rfl) (oP rfl (zG rfl Tryz.isAgg23 rfl) (oP rfl (zo rfl z2 rfl) (oP rfl (zI rfl (i := 0) rfl Tryz.isAgg50 rfl) (oE rfl (zH [] _ [] rfl rfl (.cons ArgC.id (.cons ArgC.id (.cons ArgC.id .nil))) zt Tryz.call34 (by_c mode names x1.ls (by have h := hok8 _ (zay hx1); omega)) (.inl rfl)) ?_))))))
      rintro _ _ ⟨_, ⟨v6, rfl, rfl⟩, rfl⟩
      refine OpsD.norm ([.sl v6 2 62 ((byL mode names x1.ls).map Lbl.d), .bx g5 53 (RowD.d x1), .sl ov 1 22 (G.map Kp.d)] ++ (G.map RH)) rfl ?_
      refine oR 1 rfl (oZ rfl (jS rfl (JD.mv (Mv.freeze (K' := [(3, .el (dI mode) 0), (4, .el (.sh 1 (names.map D.s)) 0), (6, dZ), (7, .ov ov), (9, dP g5 0), (10, .sh 2 ((byL mode names x1.ls).map Lbl.d)), (16, .sh 2 (l.map RowD.d)), (17, dN l.length), (18, dN k), (19, dB (decide (((k : Nat) : Int) < ((l.length : Nat) : Int)))), (20, .el (RowD.d x1) 0), (21, RowD.d x1), (22, dI mode), (23, .sh 1 (names.map D.s)), (24, dP g5 0), (25, .sh 2 (x1.ls.map Lbl.d)), (26, .sh 2 ((byL mode names x1.ls).map Lbl.d))]) [.sl v6 2 62 ((byL mode names x1.ls).map Lbl.d)] (H1 := ([.bx g5 53 (RowD.d x1), .sl ov 1 22 (G.map Kp.d)] ++ (G.map RH))) (H1' := ([.bx g5 53 (RowD.d x1), .sl ov 1 22 (G.map Kp.d)] ++ (G.map RH))) ⟨⟨_, rfl, ArgC.id⟩, ⟨_, rfl, ArgC.id⟩, ⟨_, rfl, ArgC.id⟩, ⟨_, rfl, ArgC.id⟩, ⟨_, rfl, ArgC.id⟩, ⟨_, rfl, ArgC.own (j := 0) rfl rfl⟩, ⟨_, rfl, ArgC.id⟩, ⟨_, rfl, ArgC.id⟩, ⟨_, rfl, ArgC.id⟩, ⟨_, rfl, ArgC.id⟩, ⟨_, rfl, ArgC.id⟩, ⟨_, rfl, ArgC.id⟩, ⟨_, rfl, ArgC.id⟩, ⟨_, rfl, ArgC.id⟩, ⟨_, rfl, ArgC.id⟩, ⟨_, rfl, ArgC.id⟩, ⟨_, rfl, ArgC.own (j := 0) rfl rfl⟩, trivial⟩ (.same (.same HL.refl))) (za rfl (oR 2 rfl (oP rfl (p_makeFunc rfl rfl) (OpsD.subH (HSub.perm (zaT (i := 1) rfl)) ?_)))))))
      refine OpsD.norm ([.sl ov 1 22 (G.map Kp.d), .bx g5 53 (RowD.d x1)] ++ (G.map RH)) rfl ?_
      refine OpsD.subH (HSub.perm (perm_t1 (A := [.sl ov 1 22 (G.map Kp.d)]) (B := [.bx g5 53 (RowD.d x1)]) (T := G.map RH))) (oE rfl (zH ([.sl ov 1 22 (G.map Kp.d)] ++ G.map RH) [.bx g5 53 (RowD.d x1)] [] rfl rfl acs zt Tryz.call104 (bsf_c mode names ov G (byL mode names x1.ls) hgf.1 (by have h := hgf.2.1; omega) hgf.2.2.1) (.inl rfl)) ?_)
      rintro _ _ ⟨_, ⟨ib, fb, hbs, rfl, rfl⟩, rfl⟩
      refine OpsD.subH (HSub.perm (perm_t1 (A := [.sl ov 1 22 (G.map Kp.d)]) (B := [.bx g5 53 (RowD.d x1)]) (T := G.map RH)).symm) ?_
      refine OpsD.norm ([.sl ov 1 22 (G.map Kp.d), .bx g5 53 (RowD.d x1)] ++ (G.map RH)) rfl ?_
      have hib : ib ≤ G.length := by have h := hbs.le; rwa [List.length_map] at h
      refine oR 5 rfl (oZ rfl (jS rfl (jT rfl (oR 1 rfl (oP rfl (zba rfl) (oZ rfl ?_))))))
      refine zcO (fun (g : Value × List (Kp RowD) × Kp RowD) => [(3, .el (dI mode) 0), (4, .el (.sh 1 (names.map D.s)) 0), (6, dZ), (9, dP g5 0), (10, .sh 2 ((byL mode names x1.ls).map Lbl.d)), (11, dN ib), (12, dB fb), (16, .sh 2 (l.map RowD.d)), (17, dN l.length), (18, dN k), (19, dB (decide (((k : Nat) : Int) < ((l.length : Nat) : Int)))), (20, .el (RowD.d x1) 0), (21, RowD.d x1), (22, dI mode), (23, .sh 1 (names.map D.s)), (24, dP g5 0), (25, .sh 2 (x1.ls.map Lbl.d)), (26, .sh 2 ((byL mode names x1.ls).map Lbl.d)), (27, .tup [dN ib, dB fb]), (28, .ov ov), (29, .sh 2 ((byL mode names x1.ls).map Lbl.d)), (30, .fn 105 [] [.el (dI mode) 0, .el (.sh 1 (names.map D.s)) 0]), (31, .tup [dN ib, dB fb]), (32, dN ib), (33, dB fb), (34, dB fb), (35, dB (!fb)), (7, .ov g.1)]) (fun (g : Value × List (Kp RowD) × Kp RowD) => ([.sl g.1 1 22 (g.2.1.map Kp.d), .bx g5 53 (RowD.d x1)] ++ (g.2.1.map RH))) (fun (g : Value × List (Kp RowD) × Kp RowD) => (g.2.1[ib]? = some g.2.2) ∧ ((g.2.1.map (·.l)).set ib (g.2.2.l ++ [x1]) = insG (fun r => byL mode names r.ls) (G.map (·.l)) x1) ∧ (g.2.2.l.length ≤ 2000) ∧ (g.2.1.length ≤ 2001)) (fun _ hQ7 => ?_) ?_
      · skip
        refine jC rfl (fun hc8 => ?_) (fun hc8 => ?_)
        · simp only [bA, bB, bC, bD, bE, bF, bG, bH, bI, bJ] at hc8
          have hfb : fb = false := by simpa using hc8
          refine za rfl (oR 2 rfl (oE rfl (zai [.const (.slice none 0 0)] rfl rfl (.cons (CellD.v rfl) .nil) rfl Tryz.runUnderlying36 Tryz.sizeOf22 Tryz.zeroValue22 rfl rfl rfl rfl) ?_))
          rintro _ _ ⟨g9, rfl, rfl⟩
          refine OpsD.subH (HSub.turn (h' := .sl (vS g9 1 1) 1 22 [Kp.d (⟨.slice none 0 0, []⟩ : Kp RowD)]) rfl (Hp.cvs_sl (.cons (Cv.ov rfl) .nil))) ?_
          refine OpsD.norm ([.sl (vS g9 1 1) 1 22 ([Kp.d (⟨.slice none 0 0, []⟩ : Kp RowD)]), .sl ov 1 22 (G.map Kp.d), .bx g5 53 (RowD.d x1)] ++ (G.map RH)) rfl ?_
          refine OpsD.subH (HSub.perm (zaT (i := 1) rfl)) ?_
          refine OpsD.norm ([.sl ov 1 22 (G.map Kp.d), .sl (vS g9 1 1) 1 22 ([Kp.d (⟨.slice none 0 0, []⟩ : Kp RowD)]), .bx g5 53 (RowD.d x1)] ++ (G.map RH)) rfl ?_
          refine oE rfl (zH [.sl ov 1 22 (G.map Kp.d), .sl (vS g9 1 1) 1 22 ([Kp.d (⟨.slice none 0 0, []⟩ : Kp RowD)])] ([.bx g5 53 (RowD.d x1)] ++ G.map RH) [] rfl rfl acs zt Tryz.call107 (insert_c ov (vS g9 1 1) (G.map Kp.d) (Kp.d (⟨.slice none 0 0, []⟩ : Kp RowD)) ib (by rw [List.length_map]; exact hib) (by rw [List.length_map]; have h := hgf.2.1; omega)) (.inl rfl)) ?_
          rintro _ _ ⟨_, ⟨v10, rfl, rfl⟩, rfl⟩
          refine OpsD.norm ([.sl v10 1 22 ((G.take ib ++ (⟨.slice none 0 0, []⟩ : Kp RowD) :: G.drop ib).map Kp.d), .bx g5 53 (RowD.d x1)] ++ G.map RH) (by rw [ins_map]; rfl) ?_
          refine OpsD.subH (HSub.nil 2 53) (OpsD.subH (ins_tail (A := [.sl v10 1 22 ((G.take ib ++ (⟨.slice none 0 0, []⟩ : Kp RowD) :: G.drop ib).map Kp.d), .bx g5 53 (RowD.d x1)]) (h := RH) (G := G) (i := ib) (y := (⟨.slice none 0 0, []⟩ : Kp RowD))) ?_)
          refine OpsD.norm ([.sl v10 1 22 ((G.take ib ++ (⟨.slice none 0 0, []⟩ : Kp RowD) :: G.drop ib).map Kp.d), .bx g5 53 (RowD.d x1)] ++ ((G.take ib ++ (⟨.slice none 0 0, []⟩ : Kp RowD) :: G.drop ib).map RH)) rfl ?_
          refine oR 1 rfl (zi rfl ?_)
          exact PD.sub [(3, .el (dI mode) 0), (4, .el (.sh 1 (names.map D.s)) 0), (6, dZ), (9, dP g5 0), (10, .sh 2 ((byL mode names x1.ls).map Lbl.d)), (11, dN ib), (12, dB fb), (16, .sh 2 (l.map RowD.d)), (17, dN l.length), (18, dN k), (19, dB (decide (((k : Nat) : Int) < ((l.length : Nat) : Int)))), (20, .el (RowD.d x1) 0), (21, RowD.d x1), (22, dI mode), (23, .sh 1 (names.map D.s)), (24, dP g5 0), (25, .sh 2 (x1.ls.map Lbl.d)), (26, .sh 2 ((byL mode names x1.ls).map Lbl.d)), (27, .tup [dN ib, dB fb]), (28, .ov ov), (29, .sh 2 ((byL mode names x1.ls).map Lbl.d)), (30, .fn 105 [] [.el (dI mode) 0, .el (.sh 1 (names.map D.s)) 0]), (31, .tup [dN ib, dB fb]), (32, dN ib), (33, dB fb), (34, dB fb), (35, dB (!fb)), (7, .ov v10)] (sa rfl) (hQ7 (v10, (G.take ib ++ (⟨.slice none 0 0, []⟩ : Kp RowD) :: G.drop ib), (⟨.slice none 0 0, []⟩ : Kp RowD)) ⟨go_at hbs, go_new hbs hfb, Nat.zero_le _, by have h := hgf.2.1; show (G.take ib ++ (⟨.slice none 0 0, []⟩ : Kp RowD) :: G.drop ib).length ≤ 2001; simp only [la, lc, lt', ld]; omega⟩)
        · simp only [bA, bB, bC, bD, bE, bF, bG, bH, bI, bJ] at hc8
          have hfb : fb = true := by simpa using hc8
          refine zk rfl ?_
          obtain ⟨p2, hp2, hset⟩ := go_found hbs hfb
          exact PD.sub [(3, .el (dI mode) 0), (4, .el (.sh 1 (names.map D.s)) 0), (6, dZ), (9, dP g5 0), (10, .sh 2 ((byL mode names x1.ls).map Lbl.d)), (11, dN ib), (12, dB fb), (16, .sh 2 (l.map RowD.d)), (17, dN l.length), (18, dN k), (19, dB (decide (((k : Nat) : Int) < ((l.length : Nat) : Int)))), (20, .el (RowD.d x1) 0), (21, RowD.d x1), (22, dI mode), (23, .sh 1 (names.map D.s)), (24, dP g5 0), (25, .sh 2 (x1.ls.map Lbl.d)), (26, .sh 2 ((byL mode names x1.ls).map Lbl.d)), (27, .tup [dN ib, dB fb]), (28, .ov ov), (29, .sh 2 ((byL mode names x1.ls).map Lbl.d)), (30, .fn 105 [] [.el (dI mode) 0, .el (.sh 1 (names.map D.s)) 0]), (31, .tup [dN ib, dB fb]), (32, dN ib), (33, dB fb), (34, dB fb), (35, dB (!fb)), (7, .ov ov)] (sa rfl) (hQ7 (ov, G, p2) ⟨hp2, hset, hgf.2.2.2 _ (zay hp2), by have h := hgf.2.1; show G.length ≤ 2001; omega⟩)
      · skip
        rintro ⟨o2, G2, p2⟩ ⟨hp2, hset, hpl, hg2⟩
        replace hp2 : G2[ib]? = some p2 := hp2
        replace hset : (G2.map (·.l)).set ib (p2.l ++ [x1]) = insG (fun r => byL mode names r.ls) (G.map (·.l)) x1 := hset
        replace hpl : p2.l.length ≤ 2000 := hpl
        replace hg2 : G2.length ≤ 2001 := hg2
        refine pk [3, 4, 6, 9, 10, 11, 12, 16, 17, 18, 19, 20, 21, 22, 23, 24, 25, 26, 27, 28, 29, 30, 31, 32, 33, 34, 35, 7] rfl ?_
        refine PD.norm ([.sl o2 1 22 (G2.map Kp.d), .bx g5 53 (RowD.d x1)] ++ (G2.map RH)) rfl ?_
        refine zc (JD.subH (tl_out (A := [.sl o2 1 22 (G2.map Kp.d), .bx g5 53 (RowD.d x1)]) (h := RH) (G := G2) hp2) ?_)
        refine JD.norm ([.sl p2.v 2 53 (p2.l.map RowD.d), .sl o2 1 22 (G2.map Kp.d), .bx g5 53 (RowD.d x1)] ++ ((G2.eraseIdx ib).map RH)) rfl ?_
        refine jk [3, 4, 6, 7, 9, 10, 11, 12, 16, 17, 18, 19, 20, 21, 22, 23, 24, 25, 26, 27, 28, 29, 30, 31, 32, 33, 34, 35] rfl ?_
        refine JD.norm ([.sl p2.v 2 53 (p2.l.map RowD.d), .sl o2 1 22 (G2.map Kp.d), .bx g5 53 (RowD.d x1)] ++ ((G2.eraseIdx ib).map RH)) rfl ?_
        refine za7 14 [(40, .q (.ov o2)), (41, .q (dN ib)), (42, .q (.ov o2)), (43, .q (dN ib)), (44, .q (.v (.pointer (some ⟨bl o2, ib * 1 + 0, none⟩)))), (45, .q (.ov p2.v)), (46, .q (dP g5 0)), (47, .q (.sh 2 (x1.ls.map Lbl.d))), (48, .q (.sh 2 (x1.ls.map Lbl.d))), (49, .q (dP g5 1)), (50, .q (dI x1.v)), (51, .q (.agg [.sh 2 (x1.ls.map Lbl.d), dI x1.v])), (52, .q (.sh 2 ([x1].map RowD.d))), (53, .o (fun γ => ([.sl (γ 13) 2 53 ((p2.l ++ [x1]).map RowD.d), .sl o2 1 22 (G2.map Kp.d), .bx g5 53 (RowD.d x1)] ++ ((G2.eraseIdx ib).map RH))))] ([.sl o2 1 22 (G2.map Kp.d), .bx g5 53 (RowD.d x1)] ++ ((G2.eraseIdx ib).map RH)) (Hn := fun γ => ([.sl (γ 13) 2 53 ((p2.l ++ [x1]).map RowD.d), .sl o2 1 22 (G2.map Kp.d), .bx g5 53 (RowD.d x1)] ++ ((G2.eraseIdx ib).map RH))) mixed rfl rfl (by kernel_rfl) (by kernel_rfl) (by kernel_rfl) (HSub.lst 1 rfl) (fun _ => rfl) (fun γ => ⟨so_p rfl rfl rfl (zd rfl), so_p rfl rfl rfl (zd rfl), so_p rfl rfl rfl (zd rfl), so_p rfl rfl rfl (zd rfl), so_p rfl rfl rfl (zg (k := ib) (j := 0) rfl rfl rfl Tryz.runUnderlying36 Tryz.sizeOf22 (by first | rfl | omega) (ze hp2)), so_p rfl rfl rfl (zR rfl (i := 0) rfl (ze hp2) Tryz.isAgg22 rfl), so_p rfl rfl rfl (zo rfl z2 rfl), so_p rfl rfl rfl (zI rfl (i := 1) rfl Tryz.isAgg50 rfl), so_q rfl rfl rfl (zaK rfl (.cons Cv.rfl' .nil) Tryz.call108 (cloneL_c x1.ls (by omega)) zbg), so_p rfl rfl rfl (zo rfl zab rfl), so_p rfl rfl rfl (zI rfl (i := 1) rfl Tryz.isAgg3 rfl), so_p rfl rfl rfl (zaV [0, 1] [.tmp 48, .tmp 50] (zv := (.agg #[(.slice none 0 0), (.int .i64 0)])) rfl rfl (.cons CellD.sh (.cons (CellD.v rfl) .nil)) (Tryz.runUnderlying53) Tryz.zeroValue53 zcp ⟨rfl, rfl, trivial⟩ rfl), so_q rfl rfl rfl (zT [.tmp 51] rfl rfl (.cons CellD.agg .nil) rfl Tryz.runUnderlying22 Tryz.sizeOf53 Tryz.zeroValue53 rfl rfl rfl rfl), so_o rfl rfl rfl rfl ((z7 (f := RowD.d) (l := p2.l) (l' := [x1]) (i := 0) rfl rfl rfl (SrcD.sh) za2 zaE rfl rfl (by unfold maxLen; (try simp only [la, lc, ln, lm, lt', ld, ls, lr]); omega) (by (try simp only [la, lc, ln, lm, lt', ld, ls, lr]); omega)).mono (by rintro _ _ ⟨v, rfl, rfl⟩; exact ⟨v, rfl, rfl⟩)) (fun _ => HSub.lst 1 rfl), trivial⟩) (fun γ => ?_)
        refine ok [3, 4, 6, 7, 9, 10, 11, 12, 16, 17, 18, 19, 20, 21, 22, 23, 24, 25, 26, 27, 28, 29, 30, 31, 32, 33, 34, 35, 40, 41, 42, 43, 44, 45, 46, 47, 48, 49, 50, 51, 52, 53] rfl (oP rfl (zg (k := ib) (j := 1) rfl rfl rfl Tryz.runUnderlying36 Tryz.sizeOf22 (by first | rfl | omega) (ze hp2)) (oE rfl (zaz (f := Kp.d) (k := ib) (z := 1) (o := 0) (i := 1) (a' := (Kp.mk (γ 13) (p2.l ++ [x1]))) rfl rfl hp2 rfl (CellD.o) Tryz.sizeOf22 rfl rfl rfl) ?_))
        rintro _ _ ⟨rfl, rfl⟩
        refine OpsD.norm ([.sl (γ 13) 2 53 ((p2.l ++ [x1]).map RowD.d), .sl o2 1 22 ((G2.set ib (Kp.mk (γ 13) (p2.l ++ [x1]))).map Kp.d), .bx g5 53 (RowD.d x1)] ++ ((G2.eraseIdx ib).map RH)) rfl ?_
        refine zi rfl (zy (zc (za rfl (oP rfl (zS (c := ((k + 1 : Nat) : Int)) rfl rfl (zB (by omega) (by omega))) (oR 1 rfl (zi rfl (PD.subH (tl_in (A := [.sl o2 1 22 ((G2.set ib (Kp.mk (γ 13) (p2.l ++ [x1]))).map Kp.d), .bx g5 53 (RowD.d x1)]) (h := RH) (G := G2) (y := (Kp.mk (γ 13) (p2.l ++ [x1]))) hp2) (PD.subH drop2 ?_))))))))
        refine PD.norm ([.sl o2 1 22 ((G2.set ib (Kp.mk (γ 13) (p2.l ++ [x1]))).map Kp.d)] ++ ((G2.set ib (Kp.mk (γ 13) (p2.l ++ [x1]))).map RH)) rfl ?_
        exact pl3 (k + 1) o2 (G2.set ib (Kp.mk (γ 13) (p2.l ++ [x1]))) (sa rfl) HSub.rfl' ⟨by show k + 1 ≤ l.length; omega, by rw [go_set (p := p2), hset, hG, splitG_snoc hx1]⟩ (by omega)
    · skip
      refine zO rfl (zq (zp (zm (zc (jT rfl (oR 2 rfl (oZ rfl (zl rfl ?_))))))))
      exact zj Tryz.results33 (.cons (zh rfl) .nil) rfl HSub.rfl' ⟨ov, G, rfl, rfl, by unfold zM; rw [if_pos hc3, hG, List.take_of_length_le (by omega)]⟩
end Lp
