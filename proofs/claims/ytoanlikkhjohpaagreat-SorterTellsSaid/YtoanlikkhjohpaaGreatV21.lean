/- Walks, printed by a program of mine. -/
import Derived.Test.YtoanlikkhjohpaaGreatPLent
set_option linter.unusedSimpArgs false
set_option linter.unusedVariables false
namespace Lp
open Go Go.RowKit Go.Proofs

namespace HdYtoanlikkhjohpaaGreatV24
theorem zda : ∀ w, ((#[⟨"Labels", 52, 0, false, "", "", 0⟩, ⟨"V", 3, 1, false, "", "", 24⟩] : Array Field).mapM fun f => do pure (f.offset, ← Go.sizeOf f.type) : Sem (Array (Nat × Nat))).run Tryz.prog w = .ok ([(0, 1), (1, 1)] : List (Nat × Nat)).toArray w := fun _ => by kernel_rfl
theorem za3 (b o : Nat) : ∀ w, (Instr.fieldAt 71 (.pointer (some ⟨b, o, none⟩)) 0).run Tryz.prog w = .ok (.pointer (some ⟨b, o + 0, none⟩)) w := fun _ => by kernel_rfl
theorem zaE (b o : Nat) : ∀ w, (Instr.fieldAt 71 (.pointer (some ⟨b, o, none⟩)) 1).run Tryz.prog w = .ok (.pointer (some ⟨b, o + 1, none⟩)) w := fun _ => by kernel_rfl
theorem infz_106 : ∃ i, Tryz.prog.info? 106 = some i ∧ i.zero = some (.agg #[(.string ByteArray.empty), (.string ByteArray.empty)]) ∧ i.size = 2 ∧ i.bytes = 32 := zaR (by kernel_rfl)
theorem zaF : ∃ i, Tryz.prog.info? 71 = some i ∧ i.zero = some (.agg #[(.slice none 0 0), (.int .i64 0)]) ∧ i.size = 2 ∧ i.bytes = 32 := zaR (by kernel_rfl)
theorem zaV : Tryz.prog.underlying 22 = some (.slice 71) := by kernel_rfl
theorem und_52 : Tryz.prog.underlying 52 = some (.slice 106) := by kernel_rfl
end HdYtoanlikkhjohpaaGreatV24
open HdYtoanlikkhjohpaaGreatV24

set_option maxHeartbeats 4000000 in
set_option maxRecDepth 100000 in
theorem copyLabels_c (l : List Lbl) (hl : l.length ≤ 1000000) :
    CD Tryz.prog 89 [] [.sh 2 (l.map Lbl.d)] (zc2 2 106 (l.map Lbl.d)) := by
  refine zA Tryz.func89 rfl (N := 5) rfl rfl (fun C => ?_)
  refine JD.keep [0] [(0, .sh 2 (l.map Lbl.d))] rfl ?_
  refine JD.bd 0 rfl (fun bd0 => ?_)
  have nl0 := zaB bd0
  refine zd _ _ rfl rfl rfl (zb rfl (za rfl rfl (zg rfl) (zf rfl (ze (zd _ _ rfl rfl rfl (zb rfl (za rfl rfl (zc rfl) (zi rfl rfl (zbj (f := Lbl.d) (l' := l) rfl rfl (SrcD.sh) und_52 infz_106 rfl rfl (by unfold maxLen; (try simp only [la, lc, ln, lm, lt', ld, ls, lr]); omega) (by (try simp only [la, lc, ln, lm, lt', ld, ls, lr]); omega)) ?_))))))))
  rintro _ _ ⟨v1, rfl, rfl⟩
  refine za rfl rfl (zg rfl) (zf rfl (ze (zH rfl (PD.subH (HSub.less (zb5 (i := 0) rfl)) ?_))))
  exact zbr Tryz.results89 (.cons (zI rfl) .nil) rfl ⟨_, rfl, rfl⟩

set_option maxHeartbeats 4000000 in
set_option maxRecDepth 100000 in
theorem copyRows_c (l : List RowD) (hl : l.length ≤ 1000000) (hll : ∀ r ∈ l, r.ls.length ≤ 1000000) :
    CD Tryz.prog 38 [] [.sh 2 (l.map RowD.d)] (zc2 2 71 (l.map RowD.d)) := by
  refine zA Tryz.func38 rfl (N := 23) rfl rfl (fun C => ?_)
  refine JD.keep [0] [(0, .sh 2 (l.map RowD.d))] rfl ?_
  refine JD.bd 0 rfl (fun bd0 => ?_)
  have nl0 := zaB bd0
  refine zd _ _ rfl rfl rfl (zb rfl (za rfl rfl (zg rfl) (zf rfl (ze (zd _ _ rfl rfl rfl (zb rfl (za rfl rfl (zc rfl) (zi rfl rfl (zbj (f := RowD.d) (l' := l) rfl rfl (SrcD.sh) zaV zaF rfl rfl (by unfold maxLen; (try simp only [la, lc, ln, lm, lt', ld, ls, lr]); omega) (by (try simp only [la, lc, ln, lm, lt', ld, ls, lr]); omega)) ?_))))))))
  rintro _ _ ⟨v1, rfl, rfl⟩
  refine za rfl rfl (zg rfl) (zf rfl (ze (zd _ _ rfl rfl rfl (zd _ _ rfl rfl rfl (zb rfl (za rfl rfl (zg rfl) (zf rfl (ze (zu _ rfl rfl (zM (fun (g : Nat) => [(0, .ov v1), (2, dZ), (3, dN g)]) (fun (g : Nat) => [.sl v1 2 71 (l.map RowD.d)]) (fun (g : Nat) => True) (fun (g : Nat) => l.length - g) _ 0 rfl rfl ⟨sk rfl, sk rfl, sk rfl, trivial⟩ HSub.rfl' trivial ?_))))))))))
  rintro i _
  refine JD.keep [0, 2, 3] [(0, .ov v1), (2, dZ), (3, dN i)] rfl (JD.norm [.sl v1 2 71 (l.map RowD.d)] rfl (zd _ _ rfl rfl rfl (zd _ _ rfl rfl rfl (zb rfl (za rfl rfl (zc rfl) (za rfl rfl (zc rfl) (za rfl rfl (z8 (n := l.length) (j := 0) rfl rfl Tryz.runUnderlying22 (List.length_map _)) (za rfl rfl (zU rfl rfl rfl) (zf rfl (ze ?_))))))))))
  refine zy _ _ rfl rfl rfl rfl (fun hc2 => ?_) (fun hc2 => ?_)
  · replace hc2 := of_decide_eq_true hc2
    refine zD rfl (ze (zd _ _ rfl rfl rfl (zu _ rfl rfl (zb rfl (za rfl rfl (zc rfl) (za rfl rfl (zc rfl) (za rfl rfl (zc rfl) (za rfl rfl (zc rfl) ?_))))))))
    obtain ⟨x1, hx1⟩ := zJ l i (by omega)
    refine za rfl rfl (zo (k := i) (j := 0) rfl rfl rfl Tryz.runUnderlying22 Tryz.sizeOf71 (by first | rfl | omega) (zl hx1)) (za rfl rfl (zh rfl za3 rfl) (za rfl rfl (zQ rfl (i := 0) rfl (zl hx1) Tryz.isAgg52 rfl) (zi rfl rfl (zx [] _ [] rfl rfl (.cons ArgC.id .nil) zr Tryz.call89 (copyLabels_c x1.ls (hll x1 (zai hx1))) (.inl rfl)) ?_)))
    rintro _ _ ⟨_, ⟨v3, rfl, rfl⟩, rfl⟩
    refine OpsD.norm [.sl v3 2 106 (x1.ls.map Lbl.d), .sl v1 2 71 (l.map RowD.d)] rfl (za rfl rfl (zo (k := i) (j := 1) rfl rfl rfl Tryz.runUnderlying22 Tryz.sizeOf71 (by first | rfl | omega) (zl hx1)) (za rfl rfl (zh rfl za3 rfl) (OpsD.mv (Mv.freeze (K' := [(0, .ov v1), (2, dZ), (3, dN i), (6, dN i), (7, .ov v1), (8, dN l.length), (9, dB (decide (((i : Nat) : Int) < ((l.length : Nat) : Int)))), (12, .ov v1), (13, dN i), (14, .ov v1), (15, dN i), (16, .v (.pointer (some ⟨bl v1, i * 2 + 0, none⟩))), (17, .v (.pointer (some ⟨bl v1, i * 2 + 0, none⟩))), (18, .sh 2 (x1.ls.map Lbl.d)), (19, .sh 2 (x1.ls.map Lbl.d)), (20, .v (.pointer (some ⟨bl v1, i * 2 + 0, none⟩))), (21, .v (.pointer (some ⟨bl v1, i * 2 + 0, none⟩)))]) [.sl v3 2 106 (x1.ls.map Lbl.d)] (H1 := [.sl v1 2 71 (l.map RowD.d)]) (H1' := [.sl v1 2 71 (l.map RowD.d)]) ⟨⟨_, rfl, ArgC.id⟩, ⟨_, rfl, ArgC.id⟩, ⟨_, rfl, ArgC.id⟩, ⟨_, rfl, ArgC.id⟩, ⟨_, rfl, ArgC.id⟩, ⟨_, rfl, ArgC.id⟩, ⟨_, rfl, ArgC.id⟩, ⟨_, rfl, ArgC.id⟩, ⟨_, rfl, ArgC.id⟩, ⟨_, rfl, ArgC.id⟩, ⟨_, rfl, ArgC.id⟩, ⟨_, rfl, ArgC.id⟩, ⟨_, rfl, ArgC.id⟩, ⟨_, rfl, ArgC.id⟩, ⟨_, rfl, ArgC.own (j := 0) rfl rfl⟩, ⟨_, rfl, ArgC.id⟩, ⟨_, rfl, ArgC.id⟩, trivial⟩ (.same .nil)) ?_)))
    refine zi rfl rfl (zay (f := RowD.d) (k := i) (z := 2) (o := 0) (i := 0) (a' := x1) rfl rfl hx1 rfl (CellD.sh) Tryz.sizeOf52 rfl rfl rfl) ?_
    rintro _ _ ⟨rfl, rfl⟩
    refine OpsD.norm [.sl v1 2 71 ((l.set i x1).map RowD.d)] rfl (zf rfl (zP (ze (zb rfl (za rfl rfl (zc rfl) (za rfl rfl (z5 (c := ((i + 1 : Nat) : Int)) rfl rfl (zR (by omega) (by omega))) (za rfl rfl (zg rfl) (zf rfl (PD.norm [.sl v1 2 71 ((l.set i x1).map RowD.d)] rfl (PD.norm [.sl v1 2 71 (l.map RowD.d)] (by rw [set_same hx1]) ?_))))))))))
    exact zW (i + 1) ⟨sk rfl, sk rfl, sk rfl, trivial⟩ HSub.rfl' trivial (by omega)
  · replace hc2 := of_decide_eq_false hc2
    refine zN rfl (zw (zt (zq (ze (zd _ _ rfl rfl rfl (zb rfl (za rfl rfl (zc rfl) (za rfl rfl (zg rfl) (zf rfl (ze (zH rfl (PD.subH (HSub.less (zb5 (i := 0) rfl)) ?_))))))))))))
    exact zbr Tryz.results38 (.cons (zI rfl) .nil) rfl ⟨_, rfl, rfl⟩

set_option maxHeartbeats 4000000 in
set_option maxRecDepth 100000 in
theorem lentRows_c (l : List RowD) (hl : l.length ≤ 1000000) (hll : ∀ r ∈ l, r.ls.length ≤ 1000000) :
    CD Tryz.prog 7 [] [.sh 2 (l.map RowD.d)] (isR (dLent l)) := by
  refine zA Tryz.func7 rfl (N := 11) rfl rfl (fun C => ?_)
  refine JD.keep [0] [(0, .sh 2 (l.map RowD.d))] rfl ?_
  refine JD.bd 0 rfl (fun bd0 => ?_)
  have nl0 := zaB bd0
  refine zd _ _ rfl rfl rfl (zb rfl (za rfl rfl (zg rfl) (zf rfl (ze (zd _ _ rfl rfl rfl (zb rfl (za rfl rfl (zc rfl) (zi rfl rfl (zx [] _ [] rfl rfl (.cons ArgC.id .nil) zr Tryz.call38 (copyRows_c l (by omega) hll) (.inl rfl)) ?_))))))))
  rintro _ _ ⟨_, ⟨v1, rfl, rfl⟩, rfl⟩
  refine OpsD.norm [.sl v1 2 71 (l.map RowD.d)] rfl (za rfl rfl (zau [1] [.const (.int .i64 (-77))] (zv := (.agg #[(.slice none 0 0), (.int .i64 0)])) rfl rfl (.cons (CellD.v rfl) .nil) (Tryz.runUnderlying71) Tryz.zeroValue71 zda ⟨rfl, rfl, trivial⟩ rfl) (zi rfl rfl (zap [.tmp 5] rfl rfl (.cons CellD.agg .nil) rfl Tryz.runUnderlying22 Tryz.sizeOf71 Tryz.zeroValue71 rfl rfl rfl rfl) ?_))
  rintro _ _ ⟨g2, rfl, rfl⟩
  refine OpsD.subH (HSub.turn (h' := .sl (vS g2 1 1) 2 71 ([(RowD.mk [] (-77))].map RowD.d)) rfl (Hp.cvs_sl (.cons (Cv.agg (.cons (Cv.nil) (.cons Cv.rfl' .nil))) .nil))) (zi rfl rfl (zal (f := RowD.d) (l := l) (l' := [(RowD.mk [] (-77))]) (i := 1) rfl rfl rfl (SrcD.own (j := 0) rfl rfl) zaV zaF rfl rfl (by unfold maxLen; (try simp only [la, lc, ln, lm, lt', ld, ls, lr]); omega) (by (try simp only [la, lc, ln, lm, lt', ld, ls, lr]); omega)) ?_)
  rintro _ _ ⟨v3, rfl, rfl⟩
  refine OpsD.norm [.sl (vS g2 1 1) 2 71 ([(RowD.mk [] (-77))].map RowD.d), .sl v3 2 71 ((l ++ [(RowD.mk [] (-77))]).map RowD.d)] rfl (za rfl rfl (zc rfl) (za rfl rfl (zat (n := l.length) rfl Tryz.runUnderlying22 (by simp only [lm, lc, ln])) (za rfl rfl (zca (a := 0) (b := l.length) (j := 1) rfl rfl rfl rfl (by first | rfl | (show _ = _; (try simp only [lm]); omega) | exact List.length_map _) (by first | rfl | (show _ = _; (try simp only [lm]); omega) | exact List.length_map _) Tryz.runUnderlying22 Tryz.sizeOf71 (by omega) (by (try simp only [lm, la, lc, ln]); first | omega | decide)) (za rfl rfl (zg rfl) (zf rfl (ze (JD.keep [2] [(2, .v (cut 2 v3 0 l.length))] rfl (zH rfl (PD.subH (HSub.perm (zk (i := 1) rfl)) (PD.norm [.sl v3 2 71 ((l ++ [(RowD.mk [] (-77))]).map RowD.d), .sl (vS g2 1 1) 2 71 ([(RowD.mk [] (-77))].map RowD.d)] rfl (PD.subH (HSub.fst 1 rfl) (PD.norm [.sl v3 2 71 ((l ++ [(RowD.mk [] (-77))]).map RowD.d)] rfl (pd_mv_ret (Mv.freeze (K' := [(2, dLent l)]) [.sl v3 2 71 ((l ++ [(RowD.mk [] (-77))]).map RowD.d)] (H1 := []) (H1' := []) ⟨⟨_, rfl, ArgC.cutr (j := 0) rfl (by simp) (by simp)⟩, trivial⟩ .nil) ?_)))))))))))))
  exact zG Tryz.results7 (.cons (zI rfl) .nil) rfl HSub.none ⟨rfl, rfl⟩

set_option maxHeartbeats 4000000 in
set_option maxRecDepth 100000 in
theorem staysRows_c (m was : List RowD) (hm : m.length ≤ 1000000) :
    CD Tryz.prog 14 [] [.shr 2 m.length ((m ++ [(RowD.mk [] (-77))]).map RowD.d), .sh 2 (was.map RowD.d)] (isR (dB (decide (m = was)))) := by
  refine zA Tryz.func14 rfl (N := 21) rfl rfl (fun C => ?_)
  refine JD.keep [0, 1] [(0, .shr 2 m.length ((m ++ [(RowD.mk [] (-77))]).map RowD.d)), (1, .sh 2 (was.map RowD.d))] rfl ?_
  refine JD.bd 1 rfl (fun bd1 => ?_)
  have nl1 := zaB bd1
  obtain ⟨y, hy, ey⟩ : ∃ y, (m ++ [(RowD.mk [] (-77))])[m.length]? = some y ∧ y = (RowD.mk [] (-77)) := ⟨_, by simp, rfl⟩
  refine zd _ _ rfl rfl rfl (zb rfl (za rfl rfl (zg rfl) (zf rfl (ze (zd _ _ rfl rfl rfl (JD.keep [0, 1] [(0, .shr 2 m.length ((m ++ [(RowD.mk [] (-77))]).map RowD.d)), (1, .sh 2 (was.map RowD.d))] rfl ?_))))))
  refine zbf 4 ((decide (m = was) && decide (y.v = ((-77) : Int)))) [] (fun _ hQ1 => ?_) ?_
  · skip
    rcases Bool.eq_false_or_eq_true (decide (m = was)) with hg2 | hg2
    · skip
      refine zb rfl (za rfl rfl (zc rfl) (za rfl rfl (zc rfl) (zi rfl rfl (zx [] _ [] rfl rfl (.cons ArgC.lent (.cons ArgC.id .nil)) zr Tryz.call13 (zbL m was) (.inl rfl)) ?_)))
      rintro _ _ ⟨_, ⟨rfl, rfl⟩, rfl⟩
      refine OpsD.norm [] rfl (OpsD.sub ((7, dB true) :: [(0, .shr 2 m.length ((m ++ [(RowD.mk [] (-77))]).map RowD.d)), (1, .sh 2 (was.map RowD.d)), (5, .shr 2 m.length ((m ++ [(RowD.mk [] (-77))]).map RowD.d)), (6, .sh 2 (was.map RowD.d))]) ⟨se rfl (congrArg (fun b => D.v (.bool b)) hg2), sk rfl, sk rfl, sk rfl, sk rfl, trivial⟩ (za rfl rfl (zc rfl) (zj rfl rfl rfl rfl rfl (zc rfl) (zj rfl rfl rfl rfl rfl (zc rfl) (zj rfl rfl rfl rfl rfl (p_len_shr rfl Tryz.runUnderlying22) (zj rfl rfl rfl rfl rfl (z5 (c := ((m.length + 1 : Nat) : Int)) rfl rfl (zR (by omega) (by omega))) (zj rfl rfl rfl rfl rfl ((p_slice_shr (b := m.length + 1) rfl rfl (by first | rfl | (show _ = _; omega)) Tryz.runUnderlying22 Tryz.sizeOf71 (by simp) (by simp)).cv (Cv.eq lent_all)) (zj rfl rfl rfl rfl rfl (zc rfl) (zj rfl rfl rfl rfl rfl (p_len_shr rfl Tryz.runUnderlying22) (zj rfl rfl rfl rfl rfl (zE (k := m.length) rfl rfl Tryz.runUnderlying22 Tryz.sizeOf71 (by first | rfl | omega) (zl hy)) (zj rfl rfl rfl rfl rfl (zX rfl zaE rfl) (zj rfl rfl rfl rfl rfl (zV rfl Tryz.isAgg3 rfl) (zj rfl rfl rfl rfl rfl (zaz rfl rfl rfl) (za rfl rfl (zF rfl rfl) (za rfl rfl (zg rfl) (zf rfl ?_))))))))))))))))
      exact PD.sub ((4, dB (decide (m = was) && decide (y.v = ((-77) : Int)))) :: [(0, .shr 2 m.length ((m ++ [(RowD.mk [] (-77))]).map RowD.d)), (1, .sh 2 (was.map RowD.d))]) ⟨sc rfl (Cv.eq (congrArg (fun b => D.v (.bool b)) (by first | (simp [hg2]; done) | (simp_all; done)))), sk rfl, sk rfl, trivial⟩ hQ1
    · skip
      refine zb rfl (za rfl rfl (zc rfl) (za rfl rfl (zc rfl) (zi rfl rfl (zx [] _ [] rfl rfl (.cons ArgC.lent (.cons ArgC.id .nil)) zr Tryz.call13 (zbL m was) (.inl rfl)) ?_)))
      rintro _ _ ⟨_, ⟨rfl, rfl⟩, rfl⟩
      refine OpsD.norm [] rfl (OpsD.sub ((7, dB false) :: [(0, .shr 2 m.length ((m ++ [(RowD.mk [] (-77))]).map RowD.d)), (1, .sh 2 (was.map RowD.d)), (5, .shr 2 m.length ((m ++ [(RowD.mk [] (-77))]).map RowD.d)), (6, .sh 2 (was.map RowD.d))]) ⟨se rfl (congrArg (fun b => D.v (.bool b)) hg2), sk rfl, sk rfl, sk rfl, sk rfl, trivial⟩ (za rfl rfl (zc rfl) (zn rfl rfl rfl rfl rfl (by decide) (zn rfl rfl rfl rfl rfl (by decide) (zn rfl rfl rfl rfl rfl (by decide) (zn rfl rfl rfl rfl rfl (by decide) (zn rfl rfl rfl rfl rfl (by decide) (zn rfl rfl rfl rfl rfl (by decide) (zn rfl rfl rfl rfl rfl (by decide) (zn rfl rfl rfl rfl rfl (by decide) (zn rfl rfl rfl rfl rfl (by decide) (zn rfl rfl rfl rfl rfl (by decide) (zn rfl rfl rfl rfl rfl (by decide) (za rfl rfl (zS rfl rfl) (za rfl rfl (zg rfl) (zf rfl ?_))))))))))))))))
      exact PD.sub ((4, dB (decide (m = was) && decide (y.v = ((-77) : Int)))) :: [(0, .shr 2 m.length ((m ++ [(RowD.mk [] (-77))]).map RowD.d)), (1, .sh 2 (was.map RowD.d))]) ⟨sc rfl (Cv.eq (congrArg (fun b => D.v (.bool b)) (by first | (simp [hg2]; done) | (simp_all; done)))), sk rfl, sk rfl, trivial⟩ hQ1
  · skip
    refine ze (zH rfl ?_)
    exact zG Tryz.results14 (.cons (zah (zI rfl) (Cv.eq (congrArg (fun b => D.v (.bool b)) (by subst ey; simp)))) .nil) rfl HSub.none ⟨rfl, rfl⟩
end Lp
/-
  Lists that are kept: rows of the call's own, any number of them.
-/
set_option linter.unusedVariables false
namespace Lp
open Go Go.RowKit
variable {P : Program} {ty : TypeId} {K : Kd} {H : List Hp}

structure Kp (α : Type) where
  v : Value
  l : List α
/-- a list that has grown: v0 is what it was, of m elements -/
structure K2 (α : Type) where
  v0 : Value
  v : Value
  m : Nat
  l : List α
abbrev Kp.d {α : Type} (p : Kp α) : D := .ov p.v
abbrev Kp.h {α : Type} (z : Nat) (T : TypeId) (f : α → D) (p : Kp α) : Hp := .sl p.v z T (p.l.map f)
abbrev K2.d0 {α : Type} (p : K2 α) : D := .ov p.v0
abbrev K2.d1 {α : Type} (p : K2 α) : D := .ov p.v
abbrev K2.h {α : Type} (z : Nat) (T : TypeId) (f : α → D) (p : K2 α) : Hp := .sl2 p.v0 p.v z T p.m (p.l.map f)
theorem zdF {α β : Type} {A : List Hp} {h : α → Hp} {g : β → Hp} {P : List β} {K R : List α} {x : α} (e : K = x :: R) : HSub (A ++ (P.map g ++ K.map h)) (h x :: A ++ (P.map g ++ R.map h)) := by
  subst e
  refine HSub.perm ?_
  rw [List.map_cons, ← List.append_assoc, ← List.append_assoc]
  exact List.perm_middle
theorem zdS {α β : Type} {A : List Hp} {h : α → Hp} {g : β → Hp} {P : List β} {R : List α} {y : β} : HSub (g y :: A ++ (P.map g ++ R.map h)) (A ++ ((P ++ [y]).map g ++ R.map h)) := by
  refine HSub.perm ?_
  rw [List.map_append, List.map_cons, List.map_nil, List.append_assoc, List.singleton_append, ← List.append_assoc, ← List.append_assoc]
  exact List.perm_middle.symm
theorem zdG {α β : Type} {h : α → Hp} {g : β → Hp} {P Q : List β} {R : List α} {A : List Hp} (e : R = []) (e2 : P = Q) : A ++ (P.map g ++ R.map h) = A ++ Q.map g := by subst e; subst e2; simp
theorem ArgC.shs {L : List Hp} {z : Nat} {xs xs' : List D} (h : ArgCs L xs xs') : ArgC L (.sh z xs) (.sh z xs') := ⟨fun w F u hF hL hr => by
  obtain ⟨us, h1, h2, h3, h4⟩ := D.rep_sl hF hr
  refine D.sl_rep (h.repE hF hL h1) h2 (fun hn g hg => ?_) (by have := h1.len; omega)
  have hx : xs ≠ [] := by rintro rfl; cases h; exact hn rfl
  obtain ⟨b, o, c, rfl, hb⟩ := h3 hx
  simp only [Value.ownBlock] at hg
  injection hg with hg
  rw [← hg]; exact .inl hb⟩
theorem zb6 {A B T : List Hp} : ((A ++ B) ++ T).Perm ((A ++ T) ++ B) := by
  rw [List.append_assoc, List.append_assoc]
  exact List.perm_append_comm.append_left A
theorem put_next {α : Type} {m l : List α} {k : Nat} {y : α} (hm : m[k]? = some y) (hl : l.length = m.length) : (m.take k ++ l.drop k).set k y = m.take (k + 1) ++ l.drop (k + 1) := by
  have hk := zbm hm
  rw [List.set_append_right _ _ (by rw [List.length_take]; omega), List.length_take, Nat.min_eq_left (by omega), Nat.sub_self, List.drop_eq_getElem_cons (by omega), List.set_cons_zero, zaD hm, List.append_assoc]
  rfl
theorem p_len_own2 {t e : TypeId} {x : Operand} {z n m j : Nat} {v0 v : Value} {T : TypeId} {xs : List D} (hx : opO K x = some v) (hm : nth H j = some (.sl2 v0 v z T m xs)) (ht : ∀ w, (underlying t).run P w = .ok (.slice e) w) (hn : xs.length = n) : Pu P (.call { callee := .builtin .len, args := #[x], argTypes := #[t] }) ty K H (.v (.int .i64 (n : Int))) :=
  ⟨fun ρ w F hk _ hH => by
    obtain ⟨us, hr, ho, _⟩ := hH _ (zaf hm)
    exact zdz (n := n) (zK ρ [x]) (opv1 ρ (hk.opO hx)) ht (by have := ho.len; rw [hr.len, hn] at this; exact this) ⟨rfl, rfl⟩⟩
theorem p_len_own0 {t e : TypeId} {x : Operand} {z n m j : Nat} {v0 v : Value} {T : TypeId} {xs : List D} (hx : opO K x = some v0) (hm : nth H j = some (.sl2 v0 v z T m xs)) (ht : ∀ w, (underlying t).run P w = .ok (.slice e) w) (hn : (xs.take m).length = n) : Pu P (.call { callee := .builtin .len, args := #[x], argTypes := #[t] }) ty K H (.v (.int .i64 (n : Int))) :=
  ⟨fun ρ w F hk _ hH => by
    obtain ⟨us, hr, _, ho, _⟩ := hH _ (zaf hm)
    exact zdz (n := n) (zK ρ [x]) (opv1 ρ (hk.opO hx)) ht (by have := ho.len; rw [List.length_take, hr.len, ← List.length_take, hn] at this; exact this) ⟨rfl, rfl⟩⟩
end Lp
/-
  Lists that are kept, marked, grown: plain data.
-/
set_option linter.unusedVariables false
namespace Lp
open Go
/-- marks of the list i, from a place on -/
def mkL {α : Type} (g : Nat → Nat → α) (i f n : Nat) : List α := (List.range' f n).map (g i)
def gR (i k : Nat) : RowD := ⟨[], ((-1000) * ((i : Nat) : Int)) - ((k : Nat) : Int) - 1⟩
section
variable {α : Type} {g : Nat → Nat → α}
theorem za0 {i f n : Nat} : (mkL g i f n).length = n := by unfold mkL; simp
theorem mkL_app {i f n m : Nat} : mkL g i f n ++ mkL g i (f + n) m = mkL g i f (n + m) := by
  unfold mkL; rw [← List.map_append, List.range'_append_1]
theorem mkL_succ {i f n : Nat} : mkL g i f (n + 1) = mkL g i f n ++ [g i (f + n)] := by rw [← mkL_app]; rfl
theorem mkL_take {i f n m : Nat} (h : n ≤ m) : (mkL g i f m).take n = mkL g i f n := by
  obtain ⟨k, rfl⟩ := Nat.le.dest h
  rw [← mkL_app, List.take_left' za0]
theorem mkL_more {i n m : Nat} {l l2 : List α} (h : l = mkL g i 0 n) (h2 : l2 = mkL g i n m) : l ++ l2 = mkL g i 0 (n + m) := by
  rw [h, h2]; have := mkL_app (g := g) (i := i) (f := 0) (n := n) (m := m); rwa [Nat.zero_add] at this
/-- what marking leaves -/
def putK (g : Nat → Nat → α) (K : List (Kp α)) : List (Kp α) := K.mapIdx (fun i p => ⟨p.v, mkL g i 0 p.l.length⟩)
theorem putK_len {K : List (Kp α)} : (putK g K).length = K.length := by unfold putK; simp
theorem putK_get {K : List (Kp α)} {i : Nat} {x : Kp α} (h : K[i]? = some x) : (putK g K)[i]? = some ⟨x.v, mkL g i 0 x.l.length⟩ := by unfold putK; rw [List.getElem?_mapIdx, h]; rfl
theorem putK_d {K : List (Kp α)} : (putK g K).map Kp.d = K.map Kp.d := by
  apply List.ext_getElem?; intro i
  unfold putK
  rw [List.getElem?_map, List.getElem?_map, List.getElem?_mapIdx]
  cases K[i]? <;> rfl
theorem putK_marked {K : List (Kp α)} : ∀ i x, (putK g K)[i]? = some x → x.l = mkL g i 0 x.l.length := by
  intro i x h
  unfold putK at h
  rw [List.getElem?_mapIdx] at h
  cases e : K[i]? with
  | none => rw [e] at h; cases h
  | some y => rw [e] at h; injection h with h; subst h; rw [za0]
theorem putK_light {K : List (Kp α)} {N : Nat} (h : ∀ x ∈ K, x.l.length ≤ N) : ∀ x ∈ putK g K, x.l.length ≤ N := by
  intro x hx
  obtain ⟨i, he⟩ := List.mem_iff_getElem?.1 hx
  unfold putK at he
  rw [List.getElem?_mapIdx] at he
  cases e : K[i]? with
  | none => rw [e] at he; cases he
  | some y => rw [e] at he; injection he with he; subst he; rw [za0]; exact h _ (List.mem_of_getElem? e)
theorem putK_step {K : List (Kp α)} {i : Nat} {x : Kp α} (h : K[i]? = some x) : (putK g K).take i ++ [⟨x.v, mkL g i 0 x.l.length⟩] = (putK g K).take (i + 1) := (zaD (putK_get h)).symm
/-- grown so far -/
structure Grown (g : Nat → Nat → α) (K : List (Kp α)) (G : List (K2 α)) : Prop where
  v0 : G.map K2.d0 = K.map Kp.d
  at_ : ∀ i y, G[i]? = some y → y.l = mkL g i 0 (y.m + 72) ∧ y.m ≤ 1000000
theorem Grown.nil : Grown g [] [] := ⟨rfl, fun i y h => by simp at h⟩
theorem Grown.len {K : List (Kp α)} {G : List (K2 α)} (h : Grown g K G) : G.length = K.length := by have := congrArg List.length h.v0; simpa using this
theorem Grown.snoc {K : List (Kp α)} {G : List (K2 α)} {i : Nat} {x : Kp α} {v' : Value} {l : List α} (h : Grown g (K.take i) G) (hx : K[i]? = some x) (hl : l = mkL g i 0 (x.l.length + 72)) (hb : x.l.length ≤ 1000000) : Grown g (K.take (i + 1)) (G ++ [⟨x.v, v', x.l.length, l⟩]) := by
  have hi := zbm hx
  have hlen := h.len
  rw [List.length_take] at hlen
  refine ⟨by rw [zaD hx, List.map_append, List.map_append, h.v0]; rfl, fun j y hj => ?_⟩
  rcases Nat.lt_or_ge j G.length with hlt | hge
  · rw [List.getElem?_append_left hlt] at hj; exact h.at_ j y hj
  · rw [List.getElem?_append_right hge] at hj
    have hj0 : j - G.length = 0 := by have := zbm hj; simp at this; omega
    rw [hj0] at hj
    injection hj with hj; subst hj
    have : j = i := by omega
    subst this
    exact ⟨hl, hb⟩
end
end Lp
/-
  Where a merge stands, with the rows that are to come.
-/
set_option linter.unusedVariables false
namespace Lp
open Go
theorem drop_head {α : Type} {xs r : List α} {j : Nat} {x : α} (h : xs.drop j = x :: r) : xs[j]? = some x ∧ xs.drop (j + 1) = r := by
  constructor
  · have := List.getElem?_drop (xs := xs) (i := j) (j := 0)
    rw [h] at this; simpa using this.symm
  · rw [← List.drop_drop, h]; rfl
theorem run_at2 {o : Int} {ll : LLs} {rs : List RowD} {c hs : List Nat} {j m : Nat} (hr : Run o (rest ll c) (rs.drop j) (hs.drop j)) (hm : hs[j]? = some m) : ∃ z q u, ll[m]? = some z ∧ c[m]? = some q ∧ z[q]? = some u ∧ rs[j]? = some u ∧ Run o (rest ll (c.set m (q + 1))) (rs.drop (j + 1)) (hs.drop (j + 1)) := by
  rw [zax hm] at hr
  generalize e : rs.drop j = r at hr
  cases hr with
  | step hx hw hr =>
    obtain ⟨z, q, hz, hq, hu⟩ := zbA hx
    rw [zcY hz hq] at hr
    obtain ⟨e1, e2⟩ := drop_head e
    exact ⟨z, q, _, hz, hq, hu, e1, by rw [e2]; exact hr⟩
def num (n : Int) : RowD := ⟨[], n⟩
end Lp
/- Walks, printed by a program of mine. -/
set_option linter.unusedSimpArgs false
set_option linter.unusedVariables false
namespace Lp
open Go Go.RowKit Go.Proofs

namespace HdYtoanlikkhjohpaaGreatV25
theorem zdy : ∃ i, Tryz.prog.info? 3 = some i ∧ i.bytes = 8 ∧ i.size = 1 := inf_of (by kernel_rfl)
theorem zdI : ∃ i, Tryz.prog.info? 3 = some i ∧ i.zero = some (.int .i64 0) ∧ i.size = 1 ∧ i.bytes = 8 := zaR (by kernel_rfl)
theorem zaF : ∃ i, Tryz.prog.info? 71 = some i ∧ i.zero = some (.agg #[(.slice none 0 0), (.int .i64 0)]) ∧ i.size = 2 ∧ i.bytes = 32 := zaR (by kernel_rfl)
theorem zaV : Tryz.prog.underlying 22 = some (.slice 71) := by kernel_rfl
theorem zdB : Tryz.prog.underlying 82 = some (.slice 3) := by kernel_rfl
end HdYtoanlikkhjohpaaGreatV25
open HdYtoanlikkhjohpaaGreatV25

set_option maxHeartbeats 4000000 in
set_option maxRecDepth 100000 in
theorem refHeads_c (o : Int) (ll : LLs) (nl : ll.length ≤ 100000) (nt : za5 ll ≤ 1000000) :
    CD Tryz.prog 47 [] [dI o, .sh 1 (ll.map (D.ls 2 RowD.d))] (zc2 1 3 (((runR o ll).2).map dN)) := by
  refine zA Tryz.func47 rfl (N := 70) rfl rfl (fun C => ?_)
  refine JD.keep [0, 1] [(0, dI o), (1, .sh 1 (ll.map (D.ls 2 RowD.d)))] rfl ?_
  refine JD.bd 1 rfl (fun bd1 => ?_)
  have nl1 := zaB bd1
  refine zd _ _ rfl rfl rfl (zb rfl (za rfl rfl (zg rfl) (zf rfl (ze (zd _ _ rfl rfl rfl (zb rfl (za rfl rfl (zc rfl) (za rfl rfl (zat (n := ll.length) rfl Tryz.runUnderlying35 (by simp only [lm, lc, ln])) (zi rfl rfl (zbu (f := dN) (c := 0) (n := ll.length) rfl rfl Tryz.runUnderlying82 zdy Tryz.zeroValue3 rfl ⟨rfl, trivial⟩ (Cv.rfl') (by omega) (by omega) (by omega) (by omega)) ?_)))))))))
  rintro _ _ ⟨g1, rfl, rfl⟩
  refine za rfl rfl (zg rfl) (zf rfl (ze (zd _ _ rfl rfl rfl (zb rfl (za rfl rfl (zg rfl) (zf rfl (ze (zu _ rfl rfl (JD.subH (HSub.nil 1 3) (JD.subH (HSub.perm (zk (i := 1) rfl)) (JD.norm [.sl (vS g1 ll.length ll.length) 1 3 ((List.replicate ll.length 0).map dN), .sl (.slice none 0 0) 1 3 ([].map dN)] rfl (zM (fun (g : List Nat × Value × List RowD × List Nat) => [(0, dI o), (1, .sh 1 (ll.map (D.ls 2 RowD.d))), (5, .ov (vS g1 ll.length ll.length)), (6, .ov g.2.1)]) (fun (g : List Nat × Value × List RowD × List Nat) => [.sl (vS g1 ll.length ll.length) 1 3 (g.1.map dN), .sl g.2.1 1 3 (g.2.2.2.map dN)]) (fun (g : List Nat × Value × List RowD × List Nat) => (g.1.length = ll.length) ∧ (RunTo o ll (rest ll g.1) g.2.2.1 g.2.2.2)) (fun (g : List Nat × Value × List RowD × List Nat) => za5 (rest ll g.1)) _ ((List.replicate ll.length 0), .slice none 0 0, [], []) rfl rfl ⟨sk rfl, sk rfl, sk rfl, sc rfl (Cv.ov rfl), trivial⟩ HSub.rfl' ⟨List.length_replicate, by rw [rest_zero]; exact RunTo.zero⟩ ?_))))))))))))
  rintro ⟨c, ov, rs, hs⟩ ⟨hcl, hrun⟩
  replace hcl : c.length = ll.length := hcl
  replace hrun : RunTo o ll (rest ll c) rs hs := hrun
  refine JD.keep [0, 1, 5, 6] [(0, dI o), (1, .sh 1 (ll.map (D.ls 2 RowD.d))), (5, .ov (vS g1 ll.length ll.length)), (6, .ov ov)] rfl (JD.norm [.sl (vS g1 ll.length ll.length) 1 3 (c.map dN), .sl ov 1 3 (hs.map dN)] rfl ?_)
  have hlen := hrun.length
  refine zu _ rfl rfl (zd _ _ rfl rfl rfl (zb rfl (za rfl rfl (zg rfl) (zf rfl (ze (zd _ _ rfl rfl rfl (zd _ _ rfl rfl rfl (zb rfl (za rfl rfl (zg rfl) (zf rfl (ze (zu _ rfl rfl (zM (fun (g : Nat × Int) => [(0, dI o), (1, .sh 1 (ll.map (D.ls 2 RowD.d))), (5, .ov (vS g1 ll.length ll.length)), (6, .ov ov), (8, dN g.1), (7, dI g.2)]) (fun (g : Nat × Int) => [.sl (vS g1 ll.length ll.length) 1 3 (c.map dN), .sl ov 1 3 (hs.map dN)]) (fun (g : Nat × Int) => (g.1 ≤ ll.length) ∧ (zaQ o (rest ll c) g.1 g.2)) (fun (g : Nat × Int) => ll.length - g.1) _ (0, (-1)) rfl rfl ⟨sk rfl, sk rfl, sk rfl, sk rfl, sk rfl, sk rfl, trivial⟩ HSub.rfl' ⟨Nat.zero_le _, zaQ.zero _ _⟩ ?_)))))))))))))
  rintro ⟨i, b⟩ ⟨hi, hb⟩
  replace hi : i ≤ ll.length := hi
  replace hb : zaQ o (rest ll c) i b := hb
  refine JD.keep [0, 1, 5, 6, 8, 7] [(0, dI o), (1, .sh 1 (ll.map (D.ls 2 RowD.d))), (5, .ov (vS g1 ll.length ll.length)), (6, .ov ov), (8, dN i), (7, dI b)] rfl (JD.norm [.sl (vS g1 ll.length ll.length) 1 3 (c.map dN), .sl ov 1 3 (hs.map dN)] rfl (zd _ _ rfl rfl rfl (zd _ _ rfl rfl rfl (zb rfl (za rfl rfl (zc rfl) (za rfl rfl (zc rfl) (za rfl rfl (zat (n := ll.length) rfl Tryz.runUnderlying35 (by simp only [lm, lc, ln])) (za rfl rfl (zU rfl rfl rfl) (zf rfl (ze ?_))))))))))
  refine zy _ _ rfl rfl rfl rfl (fun hc2 => ?_) (fun hc2 => ?_)
  · replace hc2 := of_decide_eq_true hc2
    refine zD rfl (ze (zd _ _ rfl rfl rfl (zu _ rfl rfl (zd _ _ rfl rfl rfl ?_))))
    obtain ⟨x1, hx1⟩ := zJ ll i (by omega)
    obtain ⟨x2, hx2⟩ := zJ c i (by omega)
    by_cases hny : ((x2 : Nat) : Int) < ((x1.length : Nat) : Int)
    · skip
      obtain ⟨x3, hx3⟩ := zJ x1 x2 (by omega)
      by_cases hbn : b < (0 : Int)
      · skip
        refine JD.keep [0, 1, 5, 6, 7, 8, 12, 13, 14, 15] [(0, dI o), (1, .sh 1 (ll.map (D.ls 2 RowD.d))), (5, .ov (vS g1 ll.length ll.length)), (6, .ov ov), (7, dI b), (8, dN i), (12, dN i), (13, .sh 1 (ll.map (D.ls 2 RowD.d))), (14, dN ll.length), (15, dB (decide (((i : Nat) : Int) < ((ll.length : Nat) : Int))))] rfl (JD.norm [.sl (vS g1 ll.length ll.length) 1 3 (c.map dN), .sl ov 1 3 (hs.map dN)] rfl ?_)
        refine z7 35 [(18, .ov (vS g1 ll.length ll.length), none), (19, dN i, none), (20, .v (.pointer (some ⟨bl (vS g1 ll.length ll.length), i * 1 + 0, none⟩)), none), (21, dN x2, none), (22, .sh 1 (ll.map (D.ls 2 RowD.d)), none), (23, dN i, none), (24, .el (.sh 2 (x1.map RowD.d)) 0, none), (25, .sh 2 (x1.map RowD.d), none), (26, dN x1.length, none), (27, dB true, none), (28, dB true, none), (29, dI b, none), (30, dB true, none), (31, dB true, none), (32, .v undef, none), (33, .v undef, none), (34, .v undef, none), (35, .v undef, none), (36, .v undef, none), (37, .v undef, none), (38, .v undef, none), (39, .v undef, none), (40, .v undef, none), (41, .v undef, none), (42, .v undef, none), (43, .v undef, none), (44, .v undef, none), (45, .v undef, none), (46, .v undef, none), (47, .v undef, none), (48, .v undef, none), (49, .v undef, none), (50, .v undef, none), (51, .v undef, none), (52, .v undef, none)] [.sl (vS g1 ll.length ll.length) 1 3 (c.map dN), .sl ov 1 3 (hs.map dN)] (Hn := [.sl (vS g1 ll.length ll.length) 1 3 (c.map dN), .sl ov 1 3 (hs.map dN)]) zar rfl rfl rfl rfl HSub.rfl' rfl ⟨sa_p rfl rfl rfl (zc rfl), sa_p rfl rfl rfl (zc rfl), sa_p rfl rfl rfl (zo (k := i) (j := 0) rfl rfl rfl Tryz.runUnderlying82 Tryz.sizeOf3 (by first | rfl | omega) (zl hx2)), sa_p rfl rfl rfl (zQ rfl (i := 0) rfl (zl hx2) Tryz.isAgg3 rfl), sa_p rfl rfl rfl (zc rfl), sa_p rfl rfl rfl (zc rfl), sa_p rfl rfl rfl (zE (k := i) rfl rfl Tryz.runUnderlying35 Tryz.sizeOf22 (by first | rfl | omega) (zl (f := (D.ls 2 RowD.d)) hx1)), sa_p rfl rfl rfl (zV rfl Tryz.isAgg22 rfl), sa_p rfl rfl rfl (zat (n := x1.length) rfl Tryz.runUnderlying22 (by simp only [lm, lc, ln])), sa_p rfl rfl rfl (zU rfl rfl (decide_eq_true hny)), sa_p rfl rfl rfl (zc rfl), z6 rfl rfl rfl rfl rfl rfl (zc rfl).qu, z6 rfl rfl rfl rfl rfl rfl (zU rfl rfl (decide_eq_true hbn)).qu, z6 rfl rfl rfl rfl rfl rfl (zc rfl).qu, sa_s rfl rfl rfl rfl rfl rfl (by decide), sa_s rfl rfl rfl rfl rfl rfl (by decide), sa_s rfl rfl rfl rfl rfl rfl (by decide), sa_s rfl rfl rfl rfl rfl rfl (by decide), sa_s rfl rfl rfl rfl rfl rfl (by decide), sa_s rfl rfl rfl rfl rfl rfl (by decide), sa_s rfl rfl rfl rfl rfl rfl (by decide), sa_s rfl rfl rfl rfl rfl rfl (by decide), sa_s rfl rfl rfl rfl rfl rfl (by decide), sa_s rfl rfl rfl rfl rfl rfl (by decide), sa_s rfl rfl rfl rfl rfl rfl (by decide), sa_s rfl rfl rfl rfl rfl rfl (by decide), sa_s rfl rfl rfl rfl rfl rfl (by decide), sa_s rfl rfl rfl rfl rfl rfl (by decide), sa_s rfl rfl rfl rfl rfl rfl (by decide), sa_s rfl rfl rfl rfl rfl rfl (by decide), sa_s rfl rfl rfl rfl rfl rfl (by decide), sa_s rfl rfl rfl rfl rfl rfl (by decide), sa_s rfl rfl rfl rfl rfl rfl (by decide), sa_s rfl rfl rfl rfl rfl rfl (by decide), sa_s rfl rfl rfl rfl rfl rfl (by decide), trivial⟩ ?_
        refine OpsD.keep [0, 1, 5, 6, 7, 8, 12, 13, 14, 15, 18, 19, 20, 21, 22, 23, 24, 25, 26, 27, 28, 29, 30, 31, 32, 33, 34, 35, 36, 37, 38, 39, 40, 41, 42, 43, 44, 45, 46, 47, 48, 49, 50, 51, 52] [(0, dI o), (1, .sh 1 (ll.map (D.ls 2 RowD.d))), (5, .ov (vS g1 ll.length ll.length)), (6, .ov ov), (7, dI b), (8, dN i), (12, dN i), (13, .sh 1 (ll.map (D.ls 2 RowD.d))), (14, dN ll.length), (15, dB (decide (((i : Nat) : Int) < ((ll.length : Nat) : Int)))), (18, .ov (vS g1 ll.length ll.length)), (19, dN i), (20, .v (.pointer (some ⟨bl (vS g1 ll.length ll.length), i * 1 + 0, none⟩))), (21, dN x2), (22, .sh 1 (ll.map (D.ls 2 RowD.d))), (23, dN i), (24, .el (.sh 2 (x1.map RowD.d)) 0), (25, .sh 2 (x1.map RowD.d)), (26, dN x1.length), (27, dB true), (28, dB true), (29, dI b), (30, dB true), (31, dB true), (32, .v undef), (33, .v undef), (34, .v undef), (35, .v undef), (36, .v undef), (37, .v undef), (38, .v undef), (39, .v undef), (40, .v undef), (41, .v undef), (42, .v undef), (43, .v undef), (44, .v undef), (45, .v undef), (46, .v undef), (47, .v undef), (48, .v undef), (49, .v undef), (50, .v undef), (51, .v undef), (52, .v undef)] rfl ?_
        refine zn rfl rfl rfl rfl rfl (by decide) (zj rfl rfl rfl rfl rfl (zF rfl rfl) (za rfl rfl (zF rfl rfl) (zf rfl (ze (zbx _ rfl rfl rfl (zb rfl (za rfl rfl (zc rfl) (za rfl rfl (zg rfl) (zf rfl (zP (ze (zb rfl (za rfl rfl (zc rfl) (za rfl rfl (z5 (c := ((i + 1 : Nat) : Int)) rfl rfl (zR (by omega) (by omega))) (za rfl rfl (zg rfl) (zf rfl ?_))))))))))))))))
        exact zW (i + 1, ((i : Nat) : Int)) ⟨sk rfl, sk rfl, sk rfl, sk rfl, sk rfl, sk rfl, trivial⟩ HSub.rfl' ⟨by omega, hb.first hbn ((hd_rest_of hx1 hx2).trans hx3)⟩ (by omega)
      · skip
        obtain ⟨m, u, hbm, hmi, hum, hwin⟩ := hb.nat hbn
        subst hbm
        obtain ⟨z, q, hz, hq, hu⟩ := zbA hum
        have hzl : z.length ≤ 1000000 := Nat.le_trans (zcj (zai hz)) nt
        have hqz := zbm hu
        refine JD.keep [0, 1, 5, 6, 7, 8, 12, 13, 14, 15] [(0, dI o), (1, .sh 1 (ll.map (D.ls 2 RowD.d))), (5, .ov (vS g1 ll.length ll.length)), (6, .ov ov), (7, dN m), (8, dN i), (12, dN i), (13, .sh 1 (ll.map (D.ls 2 RowD.d))), (14, dN ll.length), (15, dB (decide (((i : Nat) : Int) < ((ll.length : Nat) : Int))))] rfl (JD.norm [.sl (vS g1 ll.length ll.length) 1 3 (c.map dN), .sl ov 1 3 (hs.map dN)] rfl ?_)
        refine z7 35 [(18, .ov (vS g1 ll.length ll.length), none), (19, dN i, none), (20, .v (.pointer (some ⟨bl (vS g1 ll.length ll.length), i * 1 + 0, none⟩)), none), (21, dN x2, none), (22, .sh 1 (ll.map (D.ls 2 RowD.d)), none), (23, dN i, none), (24, .el (.sh 2 (x1.map RowD.d)) 0, none), (25, .sh 2 (x1.map RowD.d), none), (26, dN x1.length, none), (27, dB true, none), (28, dB true, none), (29, dN m, none), (30, dB false, none), (31, dB false, none), (32, dI o, none), (33, .sh 1 (ll.map (D.ls 2 RowD.d)), none), (34, dN i, none), (35, .el (.sh 2 (x1.map RowD.d)) 0, none), (36, .sh 2 (x1.map RowD.d), none), (37, .ov (vS g1 ll.length ll.length), none), (38, dN i, none), (39, .v (.pointer (some ⟨bl (vS g1 ll.length ll.length), i * 1 + 0, none⟩)), none), (40, dN x2, none), (41, .el (RowD.d x3) 0, none), (42, RowD.d x3, none), (43, .sh 1 (ll.map (D.ls 2 RowD.d)), none), (44, dN m, none), (45, .el (.sh 2 (z.map RowD.d)) 0, none), (46, .sh 2 (z.map RowD.d), none), (47, .ov (vS g1 ll.length ll.length), none), (48, dN m, none), (49, .v (.pointer (some ⟨bl (vS g1 ll.length ll.length), m * 1 + 0, none⟩)), none), (50, dN q, none), (51, .el (RowD.d u) 0, none), (52, RowD.d u, none)] [.sl (vS g1 ll.length ll.length) 1 3 (c.map dN), .sl ov 1 3 (hs.map dN)] (Hn := [.sl (vS g1 ll.length ll.length) 1 3 (c.map dN), .sl ov 1 3 (hs.map dN)]) zar rfl rfl rfl rfl HSub.rfl' rfl ⟨sa_p rfl rfl rfl (zc rfl), sa_p rfl rfl rfl (zc rfl), sa_p rfl rfl rfl (zo (k := i) (j := 0) rfl rfl rfl Tryz.runUnderlying82 Tryz.sizeOf3 (by first | rfl | omega) (zl hx2)), sa_p rfl rfl rfl (zQ rfl (i := 0) rfl (zl hx2) Tryz.isAgg3 rfl), sa_p rfl rfl rfl (zc rfl), sa_p rfl rfl rfl (zc rfl), sa_p rfl rfl rfl (zE (k := i) rfl rfl Tryz.runUnderlying35 Tryz.sizeOf22 (by first | rfl | omega) (zl (f := (D.ls 2 RowD.d)) hx1)), sa_p rfl rfl rfl (zV rfl Tryz.isAgg22 rfl), sa_p rfl rfl rfl (zat (n := x1.length) rfl Tryz.runUnderlying22 (by simp only [lm, lc, ln])), sa_p rfl rfl rfl (zU rfl rfl (decide_eq_true hny)), sa_p rfl rfl rfl (zc rfl), z6 rfl rfl rfl rfl rfl rfl (zc rfl).qu, z6 rfl rfl rfl rfl rfl rfl (zU rfl rfl (decide_eq_false hbn)).qu, z6 rfl rfl rfl rfl rfl rfl (zc rfl).qu, z6 rfl rfl rfl rfl rfl rfl (zc rfl).qu, z6 rfl rfl rfl rfl rfl rfl (zc rfl).qu, z6 rfl rfl rfl rfl rfl rfl (zc rfl).qu, z6 rfl rfl rfl rfl rfl rfl (zE (k := i) rfl rfl Tryz.runUnderlying35 Tryz.sizeOf22 (by first | rfl | omega) (zl (f := (D.ls 2 RowD.d)) hx1)).qu, z6 rfl rfl rfl rfl rfl rfl (zV rfl Tryz.isAgg22 rfl).qu, z6 rfl rfl rfl rfl rfl rfl (zc rfl).qu, z6 rfl rfl rfl rfl rfl rfl (zc rfl).qu, z6 rfl rfl rfl rfl rfl rfl (zo (k := i) (j := 0) rfl rfl rfl Tryz.runUnderlying82 Tryz.sizeOf3 (by first | rfl | omega) (zl hx2)).qu, z6 rfl rfl rfl rfl rfl rfl (zQ rfl (i := 0) rfl (zl hx2) Tryz.isAgg3 rfl).qu, z6 rfl rfl rfl rfl rfl rfl (zE (k := x2) rfl rfl Tryz.runUnderlying22 Tryz.sizeOf71 (by first | rfl | omega) (zl hx3)).qu, z6 rfl rfl rfl rfl rfl rfl (zaj (d := RowD.d x3) rfl Tryz.isAgg71 Tryz.sizeOf71 rfl rfl).qu, z6 rfl rfl rfl rfl rfl rfl (zc rfl).qu, z6 rfl rfl rfl rfl rfl rfl (zc rfl).qu, z6 rfl rfl rfl rfl rfl rfl (zE (k := m) rfl rfl Tryz.runUnderlying35 Tryz.sizeOf22 (by first | rfl | omega) (zl (f := (D.ls 2 RowD.d)) hz)).qu, z6 rfl rfl rfl rfl rfl rfl (zV rfl Tryz.isAgg22 rfl).qu, z6 rfl rfl rfl rfl rfl rfl (zc rfl).qu, z6 rfl rfl rfl rfl rfl rfl (zc rfl).qu, z6 rfl rfl rfl rfl rfl rfl (zo (k := m) (j := 0) rfl rfl rfl Tryz.runUnderlying82 Tryz.sizeOf3 (by first | rfl | omega) (zl hq)).qu, z6 rfl rfl rfl rfl rfl rfl (zQ rfl (i := 0) rfl (zl hq) Tryz.isAgg3 rfl).qu, z6 rfl rfl rfl rfl rfl rfl (zE (k := q) rfl rfl Tryz.runUnderlying22 Tryz.sizeOf71 (by first | rfl | omega) (zl hu)).qu, z6 rfl rfl rfl rfl rfl rfl (zaj (d := RowD.d u) rfl Tryz.isAgg71 Tryz.sizeOf71 rfl rfl).qu, trivial⟩ ?_
        refine OpsD.keep [0, 1, 5, 6, 7, 8, 12, 13, 14, 15, 18, 19, 20, 21, 22, 23, 24, 25, 26, 27, 28, 29, 30, 31, 32, 33, 34, 35, 36, 37, 38, 39, 40, 41, 42, 43, 44, 45, 46, 47, 48, 49, 50, 51, 52] [(0, dI o), (1, .sh 1 (ll.map (D.ls 2 RowD.d))), (5, .ov (vS g1 ll.length ll.length)), (6, .ov ov), (7, dN m), (8, dN i), (12, dN i), (13, .sh 1 (ll.map (D.ls 2 RowD.d))), (14, dN ll.length), (15, dB (decide (((i : Nat) : Int) < ((ll.length : Nat) : Int)))), (18, .ov (vS g1 ll.length ll.length)), (19, dN i), (20, .v (.pointer (some ⟨bl (vS g1 ll.length ll.length), i * 1 + 0, none⟩))), (21, dN x2), (22, .sh 1 (ll.map (D.ls 2 RowD.d))), (23, dN i), (24, .el (.sh 2 (x1.map RowD.d)) 0), (25, .sh 2 (x1.map RowD.d)), (26, dN x1.length), (27, dB true), (28, dB true), (29, dN m), (30, dB false), (31, dB false), (32, dI o), (33, .sh 1 (ll.map (D.ls 2 RowD.d))), (34, dN i), (35, .el (.sh 2 (x1.map RowD.d)) 0), (36, .sh 2 (x1.map RowD.d)), (37, .ov (vS g1 ll.length ll.length)), (38, dN i), (39, .v (.pointer (some ⟨bl (vS g1 ll.length ll.length), i * 1 + 0, none⟩))), (40, dN x2), (41, .el (RowD.d x3) 0), (42, RowD.d x3), (43, .sh 1 (ll.map (D.ls 2 RowD.d))), (44, dN m), (45, .el (.sh 2 (z.map RowD.d)) 0), (46, .sh 2 (z.map RowD.d)), (47, .ov (vS g1 ll.length ll.length)), (48, dN m), (49, .v (.pointer (some ⟨bl (vS g1 ll.length ll.length), m * 1 + 0, none⟩))), (50, dN q), (51, .el (RowD.d u) 0), (52, RowD.d u)] rfl ?_
        refine zaI rfl rfl rfl rfl rfl (zx [] _ [] rfl rfl (.cons ArgC.id (.cons ArgC.id (.cons ArgC.id .nil))) zr Tryz.call107 (refLess_c o x3 u) (.inl rfl)) ?_
        rintro _ _ ⟨_, ⟨rfl, rfl⟩, rfl⟩
        refine OpsD.norm [.sl (vS g1 ll.length ll.length) 1 3 (c.map dN), .sl ov 1 3 (hs.map dN)] rfl (zj rfl rfl rfl rfl rfl (zS rfl rfl) (za rfl rfl (zF rfl rfl) (zf rfl (ze ?_))))
        refine zy _ _ rfl rfl rfl rfl (fun hc3 => ?_) (fun hc3 => ?_)
        · skip
          refine zb rfl (za rfl rfl (zc rfl) (za rfl rfl (zg rfl) (zf rfl (zP (ze (zb rfl (za rfl rfl (zc rfl) (za rfl rfl (z5 (c := ((i + 1 : Nat) : Int)) rfl rfl (zR (by omega) (by omega))) (za rfl rfl (zg rfl) (zf rfl ?_))))))))))
          exact zW (i + 1, ((i : Nat) : Int)) ⟨sk rfl, sk rfl, sk rfl, sk rfl, sk rfl, sk rfl, trivial⟩ HSub.rfl' ⟨by omega, hb.take ((hd_rest_of hx1 hx2).trans hx3) hum hc3⟩ (by omega)
        · skip
          refine zD rfl (zP (ze (zb rfl (za rfl rfl (zc rfl) (za rfl rfl (z5 (c := ((i + 1 : Nat) : Int)) rfl rfl (zR (by omega) (by omega))) (za rfl rfl (zg rfl) (zf rfl ?_)))))))
          exact zW (i + 1, ((m : Nat) : Int)) ⟨sk rfl, sk rfl, sk rfl, sk rfl, sk rfl, sk rfl, trivial⟩ HSub.rfl' ⟨by omega, hb.keep ((hd_rest_of hx1 hx2).trans hx3) hum hc3⟩ (by omega)
    · skip
      refine JD.keep [0, 1, 5, 6, 7, 8, 12, 13, 14, 15] [(0, dI o), (1, .sh 1 (ll.map (D.ls 2 RowD.d))), (5, .ov (vS g1 ll.length ll.length)), (6, .ov ov), (7, dI b), (8, dN i), (12, dN i), (13, .sh 1 (ll.map (D.ls 2 RowD.d))), (14, dN ll.length), (15, dB (decide (((i : Nat) : Int) < ((ll.length : Nat) : Int))))] rfl (JD.norm [.sl (vS g1 ll.length ll.length) 1 3 (c.map dN), .sl ov 1 3 (hs.map dN)] rfl ?_)
      refine z7 35 [(18, .ov (vS g1 ll.length ll.length), none), (19, dN i, none), (20, .v (.pointer (some ⟨bl (vS g1 ll.length ll.length), i * 1 + 0, none⟩)), none), (21, dN x2, none), (22, .sh 1 (ll.map (D.ls 2 RowD.d)), none), (23, dN i, none), (24, .el (.sh 2 (x1.map RowD.d)) 0, none), (25, .sh 2 (x1.map RowD.d), none), (26, dN x1.length, none), (27, dB false, none), (28, dB false, none), (29, .v undef, none), (30, .v undef, none), (31, .v undef, none), (32, .v undef, none), (33, .v undef, none), (34, .v undef, none), (35, .v undef, none), (36, .v undef, none), (37, .v undef, none), (38, .v undef, none), (39, .v undef, none), (40, .v undef, none), (41, .v undef, none), (42, .v undef, none), (43, .v undef, none), (44, .v undef, none), (45, .v undef, none), (46, .v undef, none), (47, .v undef, none), (48, .v undef, none), (49, .v undef, none), (50, .v undef, none), (51, .v undef, none), (52, .v undef, none)] [.sl (vS g1 ll.length ll.length) 1 3 (c.map dN), .sl ov 1 3 (hs.map dN)] (Hn := [.sl (vS g1 ll.length ll.length) 1 3 (c.map dN), .sl ov 1 3 (hs.map dN)]) zar rfl rfl rfl rfl HSub.rfl' rfl ⟨sa_p rfl rfl rfl (zc rfl), sa_p rfl rfl rfl (zc rfl), sa_p rfl rfl rfl (zo (k := i) (j := 0) rfl rfl rfl Tryz.runUnderlying82 Tryz.sizeOf3 (by first | rfl | omega) (zl hx2)), sa_p rfl rfl rfl (zQ rfl (i := 0) rfl (zl hx2) Tryz.isAgg3 rfl), sa_p rfl rfl rfl (zc rfl), sa_p rfl rfl rfl (zc rfl), sa_p rfl rfl rfl (zE (k := i) rfl rfl Tryz.runUnderlying35 Tryz.sizeOf22 (by first | rfl | omega) (zl (f := (D.ls 2 RowD.d)) hx1)), sa_p rfl rfl rfl (zV rfl Tryz.isAgg22 rfl), sa_p rfl rfl rfl (zat (n := x1.length) rfl Tryz.runUnderlying22 (by simp only [lm, lc, ln])), sa_p rfl rfl rfl (zU rfl rfl (decide_eq_false hny)), sa_p rfl rfl rfl (zc rfl), sa_s rfl rfl rfl rfl rfl rfl (by decide), sa_s rfl rfl rfl rfl rfl rfl (by decide), sa_s rfl rfl rfl rfl rfl rfl (by decide), sa_s rfl rfl rfl rfl rfl rfl (by decide), sa_s rfl rfl rfl rfl rfl rfl (by decide), sa_s rfl rfl rfl rfl rfl rfl (by decide), sa_s rfl rfl rfl rfl rfl rfl (by decide), sa_s rfl rfl rfl rfl rfl rfl (by decide), sa_s rfl rfl rfl rfl rfl rfl (by decide), sa_s rfl rfl rfl rfl rfl rfl (by decide), sa_s rfl rfl rfl rfl rfl rfl (by decide), sa_s rfl rfl rfl rfl rfl rfl (by decide), sa_s rfl rfl rfl rfl rfl rfl (by decide), sa_s rfl rfl rfl rfl rfl rfl (by decide), sa_s rfl rfl rfl rfl rfl rfl (by decide), sa_s rfl rfl rfl rfl rfl rfl (by decide), sa_s rfl rfl rfl rfl rfl rfl (by decide), sa_s rfl rfl rfl rfl rfl rfl (by decide), sa_s rfl rfl rfl rfl rfl rfl (by decide), sa_s rfl rfl rfl rfl rfl rfl (by decide), sa_s rfl rfl rfl rfl rfl rfl (by decide), sa_s rfl rfl rfl rfl rfl rfl (by decide), sa_s rfl rfl rfl rfl rfl rfl (by decide), sa_s rfl rfl rfl rfl rfl rfl (by decide), trivial⟩ ?_
      refine OpsD.keep [0, 1, 5, 6, 7, 8, 12, 13, 14, 15, 18, 19, 20, 21, 22, 23, 24, 25, 26, 27, 28, 29, 30, 31, 32, 33, 34, 35, 36, 37, 38, 39, 40, 41, 42, 43, 44, 45, 46, 47, 48, 49, 50, 51, 52] [(0, dI o), (1, .sh 1 (ll.map (D.ls 2 RowD.d))), (5, .ov (vS g1 ll.length ll.length)), (6, .ov ov), (7, dI b), (8, dN i), (12, dN i), (13, .sh 1 (ll.map (D.ls 2 RowD.d))), (14, dN ll.length), (15, dB (decide (((i : Nat) : Int) < ((ll.length : Nat) : Int)))), (18, .ov (vS g1 ll.length ll.length)), (19, dN i), (20, .v (.pointer (some ⟨bl (vS g1 ll.length ll.length), i * 1 + 0, none⟩))), (21, dN x2), (22, .sh 1 (ll.map (D.ls 2 RowD.d))), (23, dN i), (24, .el (.sh 2 (x1.map RowD.d)) 0), (25, .sh 2 (x1.map RowD.d)), (26, dN x1.length), (27, dB false), (28, dB false), (29, .v undef), (30, .v undef), (31, .v undef), (32, .v undef), (33, .v undef), (34, .v undef), (35, .v undef), (36, .v undef), (37, .v undef), (38, .v undef), (39, .v undef), (40, .v undef), (41, .v undef), (42, .v undef), (43, .v undef), (44, .v undef), (45, .v undef), (46, .v undef), (47, .v undef), (48, .v undef), (49, .v undef), (50, .v undef), (51, .v undef), (52, .v undef)] rfl ?_
      refine zn rfl rfl rfl rfl rfl (by decide) (zn rfl rfl rfl rfl rfl (by decide) (za rfl rfl (zS rfl rfl) (zf rfl (ze (zaw _ rfl rfl rfl (zD rfl (zP (ze (zb rfl (za rfl rfl (zc rfl) (za rfl rfl (z5 (c := ((i + 1 : Nat) : Int)) rfl rfl (zR (by omega) (by omega))) (za rfl rfl (zg rfl) (zf rfl ?_)))))))))))))
      exact zW (i + 1, b) ⟨sk rfl, sk rfl, sk rfl, sk rfl, sk rfl, sk rfl, trivial⟩ HSub.rfl' ⟨by omega, hb.skip (by rw [(hd_rest_of hx1 hx2)]; exact List.getElem?_eq_none (by omega))⟩ (by omega)
  · replace hc2 := of_decide_eq_false hc2
    refine zN rfl (zw (zt (zq (ze (zd _ _ rfl rfl rfl (zd _ _ rfl rfl rfl (zb rfl (za rfl rfl (zc rfl) (za rfl rfl (zU rfl rfl rfl) (zf rfl (ze ?_)))))))))))
    refine zy _ _ rfl rfl rfl rfl (fun hc4 => ?_) (fun hc4 => ?_)
    · replace hc4 := of_decide_eq_true hc4
      refine zd _ _ rfl rfl rfl (zb rfl (za rfl rfl (zc rfl) (za rfl rfl (zg rfl) (zf rfl (ze (zH rfl (zL (zZ (zaW (zZ (PD.subH (HSub.less (zb5 (i := 1) rfl)) (PD.subH (HSub.turn (h' := .sl ov 1 3 (((runR o ll).2).map dN)) rfl (Hp.eq_sl (show List.map dN hs = List.map dN ((runR o ll).2) from congrArg _ (by rw [runR_eq (hrun.run (zaQ.all hb (by omega) hc4))])))) ?_))))))))))))
      exact zbr Tryz.results47 (.cons (zI rfl) .nil) rfl ⟨_, rfl, rfl⟩
    · replace hc4 := of_decide_eq_false hc4
      obtain ⟨m, u, hbm, hmi, hum, hwin⟩ := hb.nat hc4
      subst hbm
      obtain ⟨z, q, hz, hq, hu⟩ := zbA hum
      have hzl : z.length ≤ 1000000 := Nat.le_trans (zcj (zai hz)) nt
      have hqz := zbm hu
      refine zD rfl (ze (zd _ _ rfl rfl rfl (zb rfl (za rfl rfl (zc rfl) (za rfl rfl (zc rfl) (zi rfl rfl (zap [.tmp 61] rfl rfl (.cons (CellD.v rfl) .nil) rfl Tryz.runUnderlying82 Tryz.sizeOf3 Tryz.zeroValue3 rfl rfl rfl rfl) ?_))))))
      rintro _ _ ⟨g5, rfl, rfl⟩
      refine zi rfl rfl (zal (f := dN) (l := hs) (l' := [m]) (i := 2) rfl rfl rfl (SrcD.own (j := 0) rfl rfl) zdB zdI rfl rfl (by unfold maxLen; (try simp only [la, lc, ln, lm, lt', ld, ls, lr]); omega) (by (try simp only [la, lc, ln, lm, lt', ld, ls, lr]); omega)) ?_
      rintro _ _ ⟨v6, rfl, rfl⟩
      refine OpsD.norm [.sl (vS g5 1 1) 1 3 ([dN m]), .sl (vS g1 ll.length ll.length) 1 3 (c.map dN), .sl v6 1 3 ((hs ++ [m]).map dN)] rfl (za rfl rfl (zg rfl) (zf rfl (ze (zb rfl (za rfl rfl (zc rfl) (za rfl rfl (zc rfl) (za rfl rfl (zo (k := m) (j := 1) rfl rfl rfl Tryz.runUnderlying82 Tryz.sizeOf3 (by first | rfl | omega) (zl hq)) (za rfl rfl (zQ rfl (i := 1) rfl (zl hq) Tryz.isAgg3 rfl) (za rfl rfl (z5 (c := ((q + 1 : Nat) : Int)) rfl rfl (zR (by omega) (by omega))) (za rfl rfl (zo (k := m) (j := 1) rfl rfl rfl Tryz.runUnderlying82 Tryz.sizeOf3 (by first | rfl | omega) (zl hq)) (zi rfl rfl (zay (f := dN) (k := m) (z := 1) (o := 0) (i := 1) (a' := q + 1) rfl rfl hq rfl (CellD.v rfl) Tryz.sizeOf3 rfl rfl rfl) ?_)))))))))))
      rintro _ _ ⟨rfl, rfl⟩
      refine OpsD.norm [.sl (vS g5 1 1) 1 3 ([dN m]), .sl (vS g1 ll.length ll.length) 1 3 ((c.set m (q + 1)).map dN), .sl v6 1 3 ((hs ++ [m]).map dN)] rfl (zf rfl (zP (PD.subH (HSub.perm (zk (i := 2) rfl)) (PD.norm [.sl v6 1 3 ((hs ++ [m]).map dN), .sl (vS g5 1 1) 1 3 ([dN m]), .sl (vS g1 ll.length ll.length) 1 3 ((c.set m (q + 1)).map dN)] rfl (PD.subH (HSub.perm (zk (i := 2) rfl)) (PD.norm [.sl (vS g1 ll.length ll.length) 1 3 ((c.set m (q + 1)).map dN), .sl v6 1 3 ((hs ++ [m]).map dN), .sl (vS g5 1 1) 1 3 ([dN m])] rfl (PD.subH (HSub.fst 2 rfl) (PD.norm [.sl (vS g1 ll.length ll.length) 1 3 ((c.set m (q + 1)).map dN), .sl v6 1 3 ((hs ++ [m]).map dN)] rfl ?_))))))))
      exact zW ((c.set m (q + 1)), v6, (rs ++ [u]), (hs ++ [m])) ⟨sk rfl, sk rfl, sk rfl, sk rfl, trivial⟩ HSub.rfl' ⟨by rw [List.length_set]; exact hcl, by rw [← zcY hz hq]; exact hrun.snoc hum (wins_all hwin (by omega))⟩ (by show za5 (rest ll (c.set m (q + 1))) < za5 (rest ll c); rw [← zcY hz hq]; have := zcD hum; omega)

set_option maxHeartbeats 4000000 in
set_option maxRecDepth 100000 in
theorem refMerge_c (o : Int) (ll : List (List RowD)) (nl : ll.length ≤ 100000) (nt : za5 ll ≤ 1000000) :
    CD Tryz.prog 48 [] [dI o, .sh 1 (ll.map (D.ls 2 RowD.d))] (zc2 2 71 (((runR o ll).1).map RowD.d)) := by
  refine zA Tryz.func48 rfl (N := 50) rfl rfl (fun C => ?_)
  refine JD.keep [0, 1] [(0, dI o), (1, .sh 1 (ll.map (D.ls 2 RowD.d)))] rfl ?_
  refine JD.bd 1 rfl (fun bd1 => ?_)
  have nl1 := zaB bd1
  have hrl := (zbS o ll).len
  refine zd _ _ rfl rfl rfl (zb rfl (za rfl rfl (zg rfl) (zf rfl (ze (zd _ _ rfl rfl rfl (zb rfl (za rfl rfl (zc rfl) (za rfl rfl (zat (n := ll.length) rfl Tryz.runUnderlying35 (by simp only [lm, lc, ln])) (zi rfl rfl (zbu (f := dN) (c := 0) (n := ll.length) rfl rfl Tryz.runUnderlying82 zdy Tryz.zeroValue3 rfl ⟨rfl, trivial⟩ (Cv.rfl') (by omega) (by omega) (by omega) (by omega)) ?_)))))))))
  rintro _ _ ⟨g1, rfl, rfl⟩
  refine za rfl rfl (zg rfl) (zf rfl (ze (zd _ _ rfl rfl rfl (zb rfl (za rfl rfl (zc rfl) (za rfl rfl (zc rfl) (zi rfl rfl (zx [] _ [] rfl rfl (.cons ArgC.id (.cons ArgC.id .nil)) zr Tryz.call47 (refHeads_c o ll (by omega) nt) (.inl rfl)) ?_)))))))
  rintro _ _ ⟨_, ⟨v2, rfl, rfl⟩, rfl⟩
  refine OpsD.norm [.sl v2 1 3 (((runR o ll).2).map dN), .sl (vS g1 ll.length ll.length) 1 3 ((List.replicate ll.length 0).map dN)] rfl (za rfl rfl (zg rfl) (zf rfl (ze (zd _ _ rfl rfl rfl (zb rfl (za rfl rfl (zg rfl) (zf rfl (ze (zd _ _ rfl rfl rfl (zd _ _ rfl rfl rfl (zb rfl (za rfl rfl (zg rfl) (zf rfl (ze (zu _ rfl rfl (JD.subH (HSub.nil 2 71) (JD.subH (HSub.perm (zk (i := 1) rfl)) (JD.norm [.sl v2 1 3 (((runR o ll).2).map dN), .sl (.slice none 0 0) 2 71 ([].map RowD.d), .sl (vS g1 ll.length ll.length) 1 3 ((List.replicate ll.length 0).map dN)] rfl (JD.subH (HSub.perm (zk (i := 2) rfl)) (JD.norm [.sl (vS g1 ll.length ll.length) 1 3 ((List.replicate ll.length 0).map dN), .sl v2 1 3 (((runR o ll).2).map dN), .sl (.slice none 0 0) 2 71 ([].map RowD.d)] rfl ?_))))))))))))))))))))
  refine zM (fun (g : Nat × List Nat × Value) => [(1, .sh 1 (ll.map (D.ls 2 RowD.d))), (4, dZ), (5, .ov (vS g1 ll.length ll.length)), (6, .ov v2), (8, dN g.1), (7, .ov g.2.2)]) (fun (g : Nat × List Nat × Value) => [.sl (vS g1 ll.length ll.length) 1 3 (g.2.1.map dN), .sl v2 1 3 (((runR o ll).2).map dN), .sl g.2.2 2 71 (((runR o ll).1.take g.1).map RowD.d)]) (fun (g : Nat × List Nat × Value) => (g.2.1.length = ll.length) ∧ (Run o (rest ll g.2.1) ((runR o ll).1.drop g.1) ((runR o ll).2.drop g.1))) (fun (g : Nat × List Nat × Value) => (runR o ll).2.length - g.1) _ (0, (List.replicate ll.length 0), .slice none 0 0) rfl rfl ⟨sk rfl, sk rfl, sk rfl, sk rfl, sk rfl, sc rfl (Cv.ov rfl), trivial⟩ HSub.rfl' ⟨List.length_replicate, by rw [rest_zero]; exact zbS o ll⟩ ?_
  rintro ⟨j, c, ov⟩ ⟨hcl, hrun⟩
  replace hcl : c.length = ll.length := hcl
  replace hrun : Run o (rest ll c) ((runR o ll).1.drop j) ((runR o ll).2.drop j) := hrun
  refine JD.keep [1, 4, 5, 6, 8, 7] [(1, .sh 1 (ll.map (D.ls 2 RowD.d))), (4, dZ), (5, .ov (vS g1 ll.length ll.length)), (6, .ov v2), (8, dN j), (7, .ov ov)] rfl (JD.norm [.sl (vS g1 ll.length ll.length) 1 3 (c.map dN), .sl v2 1 3 (((runR o ll).2).map dN), .sl ov 2 71 (((runR o ll).1.take j).map RowD.d)] rfl (zd _ _ rfl rfl rfl (zd _ _ rfl rfl rfl (zb rfl (za rfl rfl (zc rfl) (za rfl rfl (zc rfl) (za rfl rfl (z8 (n := ((runR o ll).2).length) (j := 1) rfl rfl Tryz.runUnderlying82 (List.length_map _)) (za rfl rfl (zU rfl rfl rfl) (zf rfl (ze ?_))))))))))
  refine zy _ _ rfl rfl rfl rfl (fun hc3 => ?_) (fun hc3 => ?_)
  · replace hc3 := of_decide_eq_true hc3
    obtain ⟨x1, hx1⟩ := zJ ((runR o ll).2) j (by omega)
    obtain ⟨z, q, u, hz, hq, hu, hru, hrun2⟩ := run_at2 hrun hx1
    have hzl : z.length ≤ 1000000 := Nat.le_trans (zcj (zai hz)) nt
    have hqz := zbm hu
    refine zD rfl (ze (zd _ _ rfl rfl rfl (zu _ rfl rfl (zd _ _ rfl rfl rfl (JD.keep [1, 4, 5, 6, 7, 8, 15, 16, 17, 18] [(1, .sh 1 (ll.map (D.ls 2 RowD.d))), (4, dZ), (5, .ov (vS g1 ll.length ll.length)), (6, .ov v2), (7, .ov ov), (8, dN j), (15, dN j), (16, .ov v2), (17, dN (((runR o ll).2).length)), (18, dB (decide (((j : Nat) : Int) < ((((runR o ll).2).length : Nat) : Int))))] rfl (JD.norm [.sl (vS g1 ll.length ll.length) 1 3 (c.map dN), .sl v2 1 3 (((runR o ll).2).map dN), .sl ov 2 71 (((runR o ll).1.take j).map RowD.d)] rfl ?_))))))
    refine z7 18 [(21, .ov ov, none), (22, .sh 1 (ll.map (D.ls 2 RowD.d)), none), (23, .ov v2, none), (24, dN j, none), (25, .v (.pointer (some ⟨bl v2, j * 1 + 0, none⟩)), none), (26, dN x1, none), (27, .el (.sh 2 (z.map RowD.d)) 0, none), (28, .sh 2 (z.map RowD.d), none), (29, .ov (vS g1 ll.length ll.length), none), (30, .ov v2, none), (31, dN j, none), (32, .v (.pointer (some ⟨bl v2, j * 1 + 0, none⟩)), none), (33, dN x1, none), (34, .v (.pointer (some ⟨bl (vS g1 ll.length ll.length), x1 * 1 + 0, none⟩)), none), (35, dN q, none), (36, .el (RowD.d u) 0, none), (37, RowD.d u, none), (38, .sh 2 ([u].map RowD.d), none)] [.sl (vS g1 ll.length ll.length) 1 3 (c.map dN), .sl v2 1 3 (((runR o ll).2).map dN), .sl ov 2 71 (((runR o ll).1.take j).map RowD.d)] (Hn := [.sl (vS g1 ll.length ll.length) 1 3 (c.map dN), .sl v2 1 3 (((runR o ll).2).map dN), .sl ov 2 71 (((runR o ll).1.take j).map RowD.d)]) zar rfl rfl rfl rfl HSub.rfl' rfl ⟨sa_p rfl rfl rfl (zc rfl), sa_p rfl rfl rfl (zc rfl), sa_p rfl rfl rfl (zc rfl), sa_p rfl rfl rfl (zc rfl), sa_p rfl rfl rfl (zo (k := j) (j := 1) rfl rfl rfl Tryz.runUnderlying82 Tryz.sizeOf3 (by first | rfl | omega) (zl hx1)), sa_p rfl rfl rfl (zQ rfl (i := 1) rfl (zl hx1) Tryz.isAgg3 rfl), sa_p rfl rfl rfl (zE (k := x1) rfl rfl Tryz.runUnderlying35 Tryz.sizeOf22 (by first | rfl | omega) (zl (f := (D.ls 2 RowD.d)) hz)), sa_p rfl rfl rfl (zV rfl Tryz.isAgg22 rfl), sa_p rfl rfl rfl (zc rfl), sa_p rfl rfl rfl (zc rfl), sa_p rfl rfl rfl (zc rfl), sa_p rfl rfl rfl (zo (k := j) (j := 1) rfl rfl rfl Tryz.runUnderlying82 Tryz.sizeOf3 (by first | rfl | omega) (zl hx1)), sa_p rfl rfl rfl (zQ rfl (i := 1) rfl (zl hx1) Tryz.isAgg3 rfl), sa_p rfl rfl rfl (zo (k := x1) (j := 0) rfl rfl rfl Tryz.runUnderlying82 Tryz.sizeOf3 (by first | rfl | omega) (zl hq)), sa_p rfl rfl rfl (zQ rfl (i := 0) rfl (zl hq) Tryz.isAgg3 rfl), sa_p rfl rfl rfl (zE (k := q) rfl rfl Tryz.runUnderlying22 Tryz.sizeOf71 (by first | rfl | omega) (zl hu)), sa_p rfl rfl rfl (zaj (d := RowD.d u) rfl Tryz.isAgg71 Tryz.sizeOf71 rfl rfl), sa_q rfl rfl rfl (zaT [.tmp 37] rfl rfl (.cons CellD.agg .nil) rfl Tryz.runUnderlying22 Tryz.sizeOf71 Tryz.zeroValue71 rfl rfl rfl rfl), trivial⟩ ?_
    refine OpsD.keep [1, 4, 5, 6, 7, 8, 15, 16, 17, 18, 21, 22, 23, 24, 25, 26, 27, 28, 29, 30, 31, 32, 33, 34, 35, 36, 37, 38] [(1, .sh 1 (ll.map (D.ls 2 RowD.d))), (4, dZ), (5, .ov (vS g1 ll.length ll.length)), (6, .ov v2), (7, .ov ov), (8, dN j), (15, dN j), (16, .ov v2), (17, dN (((runR o ll).2).length)), (18, dB (decide (((j : Nat) : Int) < ((((runR o ll).2).length : Nat) : Int)))), (21, .ov ov), (22, .sh 1 (ll.map (D.ls 2 RowD.d))), (23, .ov v2), (24, dN j), (25, .v (.pointer (some ⟨bl v2, j * 1 + 0, none⟩))), (26, dN x1), (27, .el (.sh 2 (z.map RowD.d)) 0), (28, .sh 2 (z.map RowD.d)), (29, .ov (vS g1 ll.length ll.length)), (30, .ov v2), (31, dN j), (32, .v (.pointer (some ⟨bl v2, j * 1 + 0, none⟩))), (33, dN x1), (34, .v (.pointer (some ⟨bl (vS g1 ll.length ll.length), x1 * 1 + 0, none⟩))), (35, dN q), (36, .el (RowD.d u) 0), (37, RowD.d u), (38, .sh 2 ([u].map RowD.d))] rfl ?_
    refine zi rfl rfl (zal (f := RowD.d) (l := ((runR o ll).1.take j)) (l' := [u]) (i := 2) rfl rfl rfl (SrcD.sh) zaV zaF rfl rfl (by unfold maxLen; (try simp only [la, lc, ln, lm, lt', ld, ls, lr]); omega) (by (try simp only [la, lc, ln, lm, lt', ld, ls, lr]); omega)) ?_
    rintro _ _ ⟨v4, rfl, rfl⟩
    refine OpsD.norm [.sl (vS g1 ll.length ll.length) 1 3 (c.map dN), .sl v2 1 3 (((runR o ll).2).map dN), .sl v4 2 71 ((((runR o ll).1.take j) ++ [u]).map RowD.d)] rfl (za rfl rfl (zg rfl) (zf rfl (ze (zb rfl (za rfl rfl (zc rfl) (za rfl rfl (zc rfl) (za rfl rfl (zc rfl) (za rfl rfl (zo (k := j) (j := 1) rfl rfl rfl Tryz.runUnderlying82 Tryz.sizeOf3 (by first | rfl | omega) (zl hx1)) (za rfl rfl (zQ rfl (i := 1) rfl (zl hx1) Tryz.isAgg3 rfl) (za rfl rfl (zo (k := x1) (j := 0) rfl rfl rfl Tryz.runUnderlying82 Tryz.sizeOf3 (by first | rfl | omega) (zl hq)) (za rfl rfl (zQ rfl (i := 0) rfl (zl hq) Tryz.isAgg3 rfl) (za rfl rfl (z5 (c := ((q + 1 : Nat) : Int)) rfl rfl (zR (by omega) (by omega))) (za rfl rfl (zo (k := x1) (j := 0) rfl rfl rfl Tryz.runUnderlying82 Tryz.sizeOf3 (by first | rfl | omega) (zl hq)) (zi rfl rfl (zay (f := dN) (k := x1) (z := 1) (o := 0) (i := 0) (a' := q + 1) rfl rfl hq rfl (CellD.v rfl) Tryz.sizeOf3 rfl rfl rfl) ?_))))))))))))))
    rintro _ _ ⟨rfl, rfl⟩
    refine OpsD.norm [.sl (vS g1 ll.length ll.length) 1 3 ((c.set x1 (q + 1)).map dN), .sl v2 1 3 (((runR o ll).2).map dN), .sl v4 2 71 ((((runR o ll).1.take j) ++ [u]).map RowD.d)] rfl (zf rfl (zP (ze (zb rfl (za rfl rfl (zc rfl) (za rfl rfl (z5 (c := ((j + 1 : Nat) : Int)) rfl rfl (zR (by omega) (by omega))) (za rfl rfl (zg rfl) (zf rfl (PD.norm [.sl (vS g1 ll.length ll.length) 1 3 ((c.set x1 (q + 1)).map dN), .sl v2 1 3 (((runR o ll).2).map dN), .sl v4 2 71 ((((runR o ll).1.take j) ++ [u]).map RowD.d)] rfl (PD.norm [.sl (vS g1 ll.length ll.length) 1 3 ((c.set x1 (q + 1)).map dN), .sl v2 1 3 (((runR o ll).2).map dN), .sl v4 2 71 (((runR o ll).1.take (j + 1)).map RowD.d)] (by rw [zaD hru]) ?_))))))))))
    exact zW (j + 1, (c.set x1 (q + 1)), v4) ⟨sk rfl, sk rfl, sk rfl, sk rfl, sk rfl, sk rfl, trivial⟩ HSub.rfl' ⟨by rw [List.length_set]; exact hcl, hrun2⟩ (by omega)
  · replace hc3 := of_decide_eq_false hc3
    refine zN rfl (zw (zt (zq (ze (zd _ _ rfl rfl rfl (zb rfl (za rfl rfl (zc rfl) (za rfl rfl (zg rfl) (zf rfl (ze (JD.keep [4] [(4, .ov ov)] rfl (zH rfl (PD.subH (HSub.less (zb5 (i := 2) rfl)) (PD.subH (HSub.turn (h' := .sl ov 2 71 (((runR o ll).1).map RowD.d)) rfl (Hp.eq_sl (show List.map RowD.d ((runR o ll).1.take j) = List.map RowD.d ((runR o ll).1) from congrArg _ (by rw [List.take_of_length_le (by omega)])))) ?_))))))))))))))
    exact zbr Tryz.results48 (.cons (zI rfl) .nil) rfl ⟨_, rfl, rfl⟩
end Lp
/-
  Texts of labels, as plain data: runes as bytes, quotation marks, joining.
-/
set_option linter.unusedVariables false
namespace Lp
open Go

def wide : ByteArray := ⟨#[239, 191, 189]⟩
end Lp
/- Walks, printed by a program of mine. -/
set_option linter.unusedSimpArgs false
set_option linter.unusedVariables false
namespace Lp
open Go Go.RowKit Go.Proofs

namespace HdYtoanlikkhjohpaaGreatV21
theorem zbp (b o : Nat) : ∀ w, (Instr.fieldAt 106 (.pointer (some ⟨b, o, none⟩)) 0).run Tryz.prog w = .ok (.pointer (some ⟨b, o + 0, none⟩)) w := fun _ => by kernel_rfl
theorem zbt (b o : Nat) : ∀ w, (Instr.fieldAt 106 (.pointer (some ⟨b, o, none⟩)) 1).run Tryz.prog w = .ok (.pointer (some ⟨b, o + 1, none⟩)) w := fun _ => by kernel_rfl
theorem infz_106 : ∃ i, Tryz.prog.info? 106 = some i ∧ i.zero = some (.agg #[(.string ByteArray.empty), (.string ByteArray.empty)]) ∧ i.size = 2 ∧ i.bytes = 32 := zaR (by kernel_rfl)
theorem und_52 : Tryz.prog.underlying 52 = some (.slice 106) := by kernel_rfl
end HdYtoanlikkhjohpaaGreatV21
open HdYtoanlikkhjohpaaGreatV21

end Lp
