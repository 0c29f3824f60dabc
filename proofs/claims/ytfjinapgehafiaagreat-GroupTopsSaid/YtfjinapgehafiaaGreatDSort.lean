/- Walks, printed by a program of mine. -/
import Derived.Sort.OwnSortedInts
import Derived.Test.YtfjinapgehafiaaGreatPWay
set_option linter.unusedSimpArgs false
set_option linter.unusedVariables false
set_option maxHeartbeats 4000000
set_option maxRecDepth 100000
namespace Lp
open Go Go.RowKit Go.Proofs

namespace HdYtfjinapgehafiaaGreatV74
theorem zcu : ∀ w, ((#[⟨"Labels", 50, 0, false, "", "", 0⟩, ⟨"V", 3, 1, false, "", "", 24⟩] : Array Field).mapM fun f => do pure (f.offset, ← Go.sizeOf f.type) : Sem (Array (Nat × Nat))).run Tryz.prog w = .ok ([(0, 1), (1, 1)] : List (Nat × Nat)).toArray w := fun _ => by kernel_rfl
theorem zad (b o : Nat) : ∀ w, (Instr.fieldAt 53 (.pointer (some ⟨b, o, none⟩)) 0).run Tryz.prog w = .ok (.pointer (some ⟨b, o + 0, none⟩)) w := fun _ => by kernel_rfl
theorem zam (b o : Nat) : ∀ w, (Instr.fieldAt 53 (.pointer (some ⟨b, o, none⟩)) 1).run Tryz.prog w = .ok (.pointer (some ⟨b, o + 1, none⟩)) w := fun _ => by kernel_rfl
theorem zaO : ∃ i, Tryz.prog.info? 53 = some i ∧ i.zero = some (.agg #[(.slice none 0 0), (.int .i64 0)]) ∧ i.size = 2 ∧ i.bytes = 32 := za3 (by kernel_rfl)
theorem zbf : Tryz.prog.underlying 22 = some (.slice 53) := by kernel_rfl
end HdYtfjinapgehafiaaGreatV74
open HdYtfjinapgehafiaaGreatV74

theorem HL.refl {L : List Hp} : ∀ {H : List Hp}, HL L H H
  | [] => .nil
  | _ :: _ => .same HL.refl
theorem ins_tail {α : Type} {h : α → Hp} {A : List Hp} {G : List α} {i : Nat} {y : α} : HSub (h y :: (A ++ G.map h)) (A ++ (G.take i ++ y :: G.drop i).map h) := by
  refine HSub.perm ?_
  have h1 : (G.take i ++ y :: G.drop i).Perm (y :: G) := List.perm_middle.trans (List.Perm.of_eq (by rw [List.take_append_drop]))
  have h2 := (h1.map h).symm
  rw [List.map_cons] at h2
  exact List.perm_middle.symm.trans (h2.append_left A)
theorem ins_map {G : List (Kp RowD)} {i : Nat} {y : Kp RowD} : (G.map Kp.d).take i ++ Kp.d y :: (G.map Kp.d).drop i = (G.take i ++ y :: G.drop i).map Kp.d := by rw [List.map_append, List.map_cons, List.map_take, List.map_drop]
theorem drop2 {a b : Hp} {T : List Hp} : HSub ([a, b] ++ T) ([a] ++ T) := HSub.less ((List.sublist_cons_self b T).cons_cons a)
section
variable {κ : RowD → List Lbl} {G : List (Kp RowD)} {i : Nat} {f : Bool} {r : RowD}
theorem go_found (hb : BsOk κ (G.map (·.l)) (κ r) i f) (hf : f = true) : ∃ p, G[i]? = some p ∧ (G.map (·.l)).set i (p.l ++ [r]) = insG κ (G.map (·.l)) r := by
  obtain ⟨g, hg, _⟩ := hb.is.1 hf
  rw [List.getElem?_map] at hg
  obtain ⟨p, hp, e⟩ := Option.map_eq_some_iff.1 hg
  refine ⟨p, hp, ?_⟩
  rw [insG_at hb, if_pos hf, zc3 hp]; rfl
theorem go_new (hb : BsOk κ (G.map (·.l)) (κ r) i f) (hf : f = false) : ((G.take i ++ (⟨.slice none 0 0, []⟩ : Kp RowD) :: G.drop i).map (·.l)).set i ([] ++ [r]) = insG κ (G.map (·.l)) r := by
  have hle := hb.le
  rw [List.length_map] at hle
  rw [insG_at hb, if_neg (by rw [hf]; simp), List.map_append, List.map_cons, List.map_take, List.map_drop, List.set_append_right _ _ (by simp only [lt', lm]; omega), List.length_take, List.length_map, Nat.min_eq_left hle, Nat.sub_self]; rfl
theorem go_at (hb : BsOk κ (G.map (·.l)) (κ r) i f) : (G.take i ++ (⟨.slice none 0 0, []⟩ : Kp RowD) :: G.drop i)[i]? = some ⟨.slice none 0 0, []⟩ := by
  have hle := hb.le
  rw [List.length_map] at hle
  rw [List.getElem?_append_right (by rw [List.length_take]; omega), List.length_take, Nat.min_eq_left hle, Nat.sub_self]; rfl
theorem go_set {p : Kp RowD} {v : Value} {l : List RowD} : (G.set i ⟨v, l⟩).map (·.l) = (G.map (·.l)).set i l := List.map_set ..
theorem go_facts {l : List RowD} {k : Nat} (hG : G.map (·.l) = zaT κ (l.take k)) (hl : l.length ≤ 2000) (hok : ∀ r ∈ l, r.ls.length ≤ 8) : GOk κ (G.map (·.l)) ∧ G.length ≤ 2000 ∧ (∀ g ∈ G, ∀ x ∈ g.l, x.ls.length ≤ 1000000) ∧ (∀ g ∈ G, g.l.length ≤ 2000) := by
  have htl : (l.take k).length ≤ 2000 := by rw [List.length_take]; omega
  refine ⟨hG ▸ zcy _, ?_, fun g hg x hx => ?_, fun g hg => ?_⟩
  · have := splitG_len (κ := κ) (l.take k); rw [← hG, List.length_map] at this; omega
  · have := splitG_mem (κ := κ) (l.take k) g.l (hG ▸ List.mem_map.2 ⟨g, hg, rfl⟩) x hx
    have := hok x (List.mem_of_mem_take this); omega
  · have := splitG_rows (κ := κ) (l.take k) g.l (hG ▸ List.mem_map.2 ⟨g, hg, rfl⟩); omega
end

theorem split_c (mode : Int) (names : List ByteArray) (l : List RowD) (hl : l.length ≤ 1000000) :
    CD Tryz.prog 33 [] [dI mode, .sh 1 (names.map D.s), .sh 2 (l.map RowD.d)] (fun r H' => ∃ (v : Value) (G : List (Kp RowD)), r = .ov v ∧ H' = ([.sl v 1 22 (G.map Kp.d)] ++ G.map RH) ∧ G.map (·.l) = zu mode names l) := by
  refine zq Tryz.func33 rfl (N := 57) rfl rfl (fun C => ?_)
  refine jk [0, 1, 2] rfl ?_
  refine JD.bd 1 rfl (fun bd1 => ?_)
  have nl1 := zS bd1
  refine JD.bd 2 rfl (fun bd2 => ?_)
  have nl2 := zS bd2
  refine jT rfl (oE rfl (zbW rfl (CellD.v rfl)) ?_)
  rintro _ _ ⟨g1, rfl, rfl⟩
  refine oE rfl (zbW rfl (CellD.sh)) ?_
  rintro _ _ ⟨g2, rfl, rfl⟩
  refine oR 1 rfl (oZ rfl (jS rfl (jS rfl (JD.mv (Mv.freeze (K' := [(0, dI mode), (1, .sh 1 (names.map D.s)), (2, .sh 2 (l.map RowD.d)), (3, dP g1 0), (4, .el (.sh 1 (names.map D.s)) 0), (6, dZ)]) [.bx g2 23 (.sh 1 (names.map D.s))] (H1 := [.bx g1 3 (dI mode)]) (H1' := [.bx g1 3 (dI mode)]) ⟨⟨_, rfl, ArgC.id⟩, ⟨_, rfl, ArgC.id⟩, ⟨_, rfl, ArgC.id⟩, ⟨_, rfl, ArgC.id⟩, ⟨_, rfl, ArgC.boxC (j := 0) rfl ArgC.id⟩, ⟨_, rfl, ArgC.id⟩, trivial⟩ (.same .nil)) (JD.mv (Mv.freeze (K' := [(0, dI mode), (1, .sh 1 (names.map D.s)), (2, .sh 2 (l.map RowD.d)), (3, .el (dI mode) 0), (4, .el (.sh 1 (names.map D.s)) 0), (6, dZ)]) [.bx g1 3 (dI mode)] (H1 := []) (H1' := []) ⟨⟨_, rfl, ArgC.id⟩, ⟨_, rfl, ArgC.id⟩, ⟨_, rfl, ArgC.id⟩, ⟨_, rfl, ArgC.boxC (j := 0) rfl ArgC.id⟩, ⟨_, rfl, ArgC.id⟩, ⟨_, rfl, ArgC.id⟩, trivial⟩ .nil) (za rfl (oR 1 rfl (oW rfl rfl acs Tryz.call26 (vRight_c l) (oP rfl (zbc rfl) (oZ rfl ?_))))))))))
  refine jC rfl (fun hc3 => ?_) (fun hc3 => ?_)
  · simp only [bA, bB, bC, bD, bE, bF, bG, bH, bI, bJ] at hc3
    refine jT rfl (oR 1 rfl (oZ rfl (zm rfl (zd (PD.subH (HSub.nil 1 22) ?_)))))
    exact zl Tryz.results33 (.cons (zx (zh rfl) (Cv.ov rfl)) .nil) rfl (HSub.fst 1 rfl) ⟨_, [], rfl, rfl, by unfold zu; rw [if_neg (by rw [show zT l = false from by assumption]; simp)]; rfl⟩
  · simp only [bA, bB, bC, bD, bE, bF, bG, bH, bI, bJ] at hc3
    have hvl := (zay.1 hc3).1
    have hok8 : ∀ r ∈ l, r.ls.length ≤ 8 := fun r hr => okRow_len (zcb hc3 r hr)
    refine zj rfl (zb (jT rfl (oR 1 rfl (oZ rfl (jS rfl (jT rfl (oR 1 rfl (oP rfl (z6 (n := l.length) rfl Tryz.runUnderlying22 (by simp only [lm, lc, ln])) (oR 1 rfl (oZ rfl (jB rfl (jl3 (fun (a_ : Nat) (b_ : Value) (c_ : List (Kp RowD)) => [(3, .el (dI mode) 0), (4, .el (.sh 1 (names.map D.s)) 0), (6, dZ), (16, .sh 2 (l.map RowD.d)), (17, dN l.length), (18, dN a_), (7, .ov b_)]) (fun a_ b_ c_ => ([.sl b_ 1 22 (c_.map Kp.d)] ++ (c_.map RH))) (fun a_ b_ c_ => (a_ ≤ l.length) ∧ (c_.map (·.l) = zaT (fun r => byL mode names r.ls) (l.take a_))) (fun a_ b_ c_ => l.length - a_) 0 (.slice none 0 0) [] rfl ⟨sk rfl, sk rfl, sk rfl, sk rfl, sk rfl, sk rfl, sc rfl (Cv.ov rfl), trivial⟩ (HSub.nil 1 22) ⟨Nat.zero_le _, rfl⟩ ?_))))))))))))
    rintro k ov G ⟨hkl, hG⟩
    refine ja rfl ?_
    refine JD.norm ([.sl ov 1 22 (G.map Kp.d)] ++ (G.map RH)) rfl ?_
    have hgf := go_facts hG hvl hok8
    refine jT rfl (oP rfl (zQ rfl rfl rfl) (oZ rfl (jS rfl ?_)))
    refine jD rfl (fun hc4 => ?_) (fun hc4 => ?_)
    · skip
      refine zj rfl (zb (jS rfl (jB rfl (jT rfl ?_))))
      obtain ⟨x1, hx1⟩ := zy l k (by omega)
      have hkx1 := hok8 x1 (zae hx1)
      refine oP rfl (zr (k := k) rfl rfl Tryz.runUnderlying22 Tryz.sizeOf53 (by first | rfl | omega) (zg hx1)) (oP rfl (zaJ (d := RowD.d x1) rfl Tryz.isAgg53 Tryz.sizeOf53 rfl rfl) (oE rfl (zar (zv := (.agg #[(.slice none 0 0), (.int .i64 0)])) Tryz.zeroValue53 ⟨rfl, rfl, trivial⟩ (Cv.vagg (by decide))) ?_))
      rintro _ _ ⟨g5, rfl, rfl⟩
      refine oE rfl (zY (i := 0) (X' := RowD.d x1) rfl rfl rfl (CellD.agg) Tryz.sizeOf53 rfl rfl rfl) ?_
      rintro _ _ ⟨rfl, rfl⟩
      refine OpsD.norm ([.bx g5 53 (RowD.d x1), .sl ov 1 22 (G.map Kp.d)] ++ (G.map RH)) rfl ?_
      refine oZ rfl (jT rfl (oP rfl (zH rfl Tryz.isAgg3 rfl) (oP rfl (zH rfl Tryz.isAgg23 rfl) (oP rfl (zw rfl zad rfl) (oP rfl (zK rfl (i := 0) rfl Tryz.isAgg50 rfl) (oE rfl (zN [] _ [] rfl rfl (.cons ArgC.id (.cons ArgC.id (.cons ArgC.id .nil))) zz Tryz.call34 (by_c mode names x1.ls (by have h := hok8 _ (zae hx1); omega)) (.inl rfl)) ?_))))))
      rintro _ _ ⟨_, ⟨v6, rfl, rfl⟩, rfl⟩
      refine OpsD.norm ([.sl v6 2 62 ((byL mode names x1.ls).map Lbl.d), .bx g5 53 (RowD.d x1), .sl ov 1 22 (G.map Kp.d)] ++ (G.map RH)) rfl ?_
      refine oR 1 rfl (oZ rfl (jS rfl (JD.mv (Mv.freeze (K' := [(3, .el (dI mode) 0), (4, .el (.sh 1 (names.map D.s)) 0), (6, dZ), (7, .ov ov), (9, dP g5 0), (10, .sh 2 ((byL mode names x1.ls).map Lbl.d)), (16, .sh 2 (l.map RowD.d)), (17, dN l.length), (18, dN k), (19, dB (decide (((k : Nat) : Int) < ((l.length : Nat) : Int)))), (20, .el (RowD.d x1) 0), (21, RowD.d x1), (22, dI mode), (23, .sh 1 (names.map D.s)), (24, dP g5 0), (25, .sh 2 (x1.ls.map Lbl.d)), (26, .sh 2 ((byL mode names x1.ls).map Lbl.d))]) [.sl v6 2 62 ((byL mode names x1.ls).map Lbl.d)] (H1 := ([.bx g5 53 (RowD.d x1), .sl ov 1 22 (G.map Kp.d)] ++ (G.map RH))) (H1' := ([.bx g5 53 (RowD.d x1), .sl ov 1 22 (G.map Kp.d)] ++ (G.map RH))) ⟨⟨_, rfl, ArgC.id⟩, ⟨_, rfl, ArgC.id⟩, ⟨_, rfl, ArgC.id⟩, ⟨_, rfl, ArgC.id⟩, ⟨_, rfl, ArgC.id⟩, ⟨_, rfl, ArgC.own (j := 0) rfl rfl⟩, ⟨_, rfl, ArgC.id⟩, ⟨_, rfl, ArgC.id⟩, ⟨_, rfl, ArgC.id⟩, ⟨_, rfl, ArgC.id⟩, ⟨_, rfl, ArgC.id⟩, ⟨_, rfl, ArgC.id⟩, ⟨_, rfl, ArgC.id⟩, ⟨_, rfl, ArgC.id⟩, ⟨_, rfl, ArgC.id⟩, ⟨_, rfl, ArgC.id⟩, ⟨_, rfl, ArgC.own (j := 0) rfl rfl⟩, trivial⟩ (.same (.same HL.refl))) (za rfl (oR 2 rfl (oP rfl (p_makeFunc rfl rfl) (OpsD.subH (HSub.perm (z2 (i := 1) rfl)) ?_)))))))
      refine OpsD.norm ([.sl ov 1 22 (G.map Kp.d), .bx g5 53 (RowD.d x1)] ++ (G.map RH)) rfl ?_
      refine OpsD.subH (HSub.perm (perm_t1 (A := [.sl ov 1 22 (G.map Kp.d)]) (B := [.bx g5 53 (RowD.d x1)]) (T := G.map RH))) (oE rfl (zN ([.sl ov 1 22 (G.map Kp.d)] ++ G.map RH) [.bx g5 53 (RowD.d x1)] [] rfl rfl acs zz Tryz.call104 (bsf_c mode names ov G (byL mode names x1.ls) hgf.1 (by have h := hgf.2.1; omega) hgf.2.2.1) (.inl rfl)) ?_)
      rintro _ _ ⟨_, ⟨ib, fb, hbs, rfl, rfl⟩, rfl⟩
      refine OpsD.subH (HSub.perm (perm_t1 (A := [.sl ov 1 22 (G.map Kp.d)]) (B := [.bx g5 53 (RowD.d x1)]) (T := G.map RH)).symm) ?_
      refine OpsD.norm ([.sl ov 1 22 (G.map Kp.d), .bx g5 53 (RowD.d x1)] ++ (G.map RH)) rfl ?_
      have hib : ib ≤ G.length := by have h := hbs.le; rwa [List.length_map] at h
      refine oR 5 rfl (oZ rfl (jS rfl (jT rfl (oR 1 rfl (oP rfl (zbc rfl) (oZ rfl ?_))))))
      refine zdb (fun (g : Value × List (Kp RowD) × Kp RowD) => [(3, .el (dI mode) 0), (4, .el (.sh 1 (names.map D.s)) 0), (6, dZ), (9, dP g5 0), (10, .sh 2 ((byL mode names x1.ls).map Lbl.d)), (11, dN ib), (12, dB fb), (16, .sh 2 (l.map RowD.d)), (17, dN l.length), (18, dN k), (19, dB (decide (((k : Nat) : Int) < ((l.length : Nat) : Int)))), (20, .el (RowD.d x1) 0), (21, RowD.d x1), (22, dI mode), (23, .sh 1 (names.map D.s)), (24, dP g5 0), (25, .sh 2 (x1.ls.map Lbl.d)), (26, .sh 2 ((byL mode names x1.ls).map Lbl.d)), (27, .tup [dN ib, dB fb]), (28, .ov ov), (29, .sh 2 ((byL mode names x1.ls).map Lbl.d)), (30, .fn 105 [] [.el (dI mode) 0, .el (.sh 1 (names.map D.s)) 0]), (31, .tup [dN ib, dB fb]), (32, dN ib), (33, dB fb), (34, dB fb), (35, dB (!fb)), (7, .ov g.1)]) (fun (g : Value × List (Kp RowD) × Kp RowD) => ([.sl g.1 1 22 (g.2.1.map Kp.d), .bx g5 53 (RowD.d x1)] ++ (g.2.1.map RH))) (fun (g : Value × List (Kp RowD) × Kp RowD) => (g.2.1[ib]? = some g.2.2) ∧ ((g.2.1.map (·.l)).set ib (g.2.2.l ++ [x1]) = insG (fun r => byL mode names r.ls) (G.map (·.l)) x1) ∧ (g.2.2.l.length ≤ 2000) ∧ (g.2.1.length ≤ 2001)) (fun _ hQ7 => ?_) ?_
      · skip
        refine jC rfl (fun hc8 => ?_) (fun hc8 => ?_)
        · simp only [bA, bB, bC, bD, bE, bF, bG, bH, bI, bJ] at hc8
          have hfb : fb = false := by simpa using hc8
          refine za rfl (oR 2 rfl (oE rfl (zap [.const (.slice none 0 0)] rfl rfl (.cons (CellD.v rfl) .nil) rfl Tryz.runUnderlying36 Tryz.sizeOf22 Tryz.zeroValue22 rfl rfl rfl rfl) ?_))
          rintro _ _ ⟨g9, rfl, rfl⟩
          refine OpsD.subH (HSub.turn (h' := .sl (vS g9 1 1) 1 22 [Kp.d (⟨.slice none 0 0, []⟩ : Kp RowD)]) rfl (Hp.cvs_sl (.cons (Cv.ov rfl) .nil))) ?_
          refine OpsD.norm ([.sl (vS g9 1 1) 1 22 ([Kp.d (⟨.slice none 0 0, []⟩ : Kp RowD)]), .sl ov 1 22 (G.map Kp.d), .bx g5 53 (RowD.d x1)] ++ (G.map RH)) rfl ?_
          refine OpsD.subH (HSub.perm (z2 (i := 1) rfl)) ?_
          refine OpsD.norm ([.sl ov 1 22 (G.map Kp.d), .sl (vS g9 1 1) 1 22 ([Kp.d (⟨.slice none 0 0, []⟩ : Kp RowD)]), .bx g5 53 (RowD.d x1)] ++ (G.map RH)) rfl ?_
          refine oE rfl (zN [.sl ov 1 22 (G.map Kp.d), .sl (vS g9 1 1) 1 22 ([Kp.d (⟨.slice none 0 0, []⟩ : Kp RowD)])] ([.bx g5 53 (RowD.d x1)] ++ G.map RH) [] rfl rfl acs zz Tryz.call107 (insert_c ov (vS g9 1 1) (G.map Kp.d) (Kp.d (⟨.slice none 0 0, []⟩ : Kp RowD)) ib (by rw [List.length_map]; exact hib) (by rw [List.length_map]; have h := hgf.2.1; omega)) (.inl rfl)) ?_
          rintro _ _ ⟨_, ⟨v10, rfl, rfl⟩, rfl⟩
          refine OpsD.norm ([.sl v10 1 22 ((G.take ib ++ (⟨.slice none 0 0, []⟩ : Kp RowD) :: G.drop ib).map Kp.d), .bx g5 53 (RowD.d x1)] ++ G.map RH) (by rw [ins_map]; rfl) ?_
          refine OpsD.subH (HSub.nil 2 53) (OpsD.subH (ins_tail (A := [.sl v10 1 22 ((G.take ib ++ (⟨.slice none 0 0, []⟩ : Kp RowD) :: G.drop ib).map Kp.d), .bx g5 53 (RowD.d x1)]) (h := RH) (G := G) (i := ib) (y := (⟨.slice none 0 0, []⟩ : Kp RowD))) ?_)
          refine OpsD.norm ([.sl v10 1 22 ((G.take ib ++ (⟨.slice none 0 0, []⟩ : Kp RowD) :: G.drop ib).map Kp.d), .bx g5 53 (RowD.d x1)] ++ ((G.take ib ++ (⟨.slice none 0 0, []⟩ : Kp RowD) :: G.drop ib).map RH)) rfl ?_
          refine oR 1 rfl (ze rfl ?_)
          exact PD.sub [(3, .el (dI mode) 0), (4, .el (.sh 1 (names.map D.s)) 0), (6, dZ), (9, dP g5 0), (10, .sh 2 ((byL mode names x1.ls).map Lbl.d)), (11, dN ib), (12, dB fb), (16, .sh 2 (l.map RowD.d)), (17, dN l.length), (18, dN k), (19, dB (decide (((k : Nat) : Int) < ((l.length : Nat) : Int)))), (20, .el (RowD.d x1) 0), (21, RowD.d x1), (22, dI mode), (23, .sh 1 (names.map D.s)), (24, dP g5 0), (25, .sh 2 (x1.ls.map Lbl.d)), (26, .sh 2 ((byL mode names x1.ls).map Lbl.d)), (27, .tup [dN ib, dB fb]), (28, .ov ov), (29, .sh 2 ((byL mode names x1.ls).map Lbl.d)), (30, .fn 105 [] [.el (dI mode) 0, .el (.sh 1 (names.map D.s)) 0]), (31, .tup [dN ib, dB fb]), (32, dN ib), (33, dB fb), (34, dB fb), (35, dB (!fb)), (7, .ov v10)] (sa rfl) (hQ7 (v10, (G.take ib ++ (⟨.slice none 0 0, []⟩ : Kp RowD) :: G.drop ib), (⟨.slice none 0 0, []⟩ : Kp RowD)) ⟨go_at hbs, go_new hbs hfb, Nat.zero_le _, by have h := hgf.2.1; show (G.take ib ++ (⟨.slice none 0 0, []⟩ : Kp RowD) :: G.drop ib).length ≤ 2001; simp only [la, lc, lt', ld]; omega⟩)
        · simp only [bA, bB, bC, bD, bE, bF, bG, bH, bI, bJ] at hc8
          have hfb : fb = true := by simpa using hc8
          refine zj rfl ?_
          obtain ⟨p2, hp2, hset⟩ := go_found hbs hfb
          exact PD.sub [(3, .el (dI mode) 0), (4, .el (.sh 1 (names.map D.s)) 0), (6, dZ), (9, dP g5 0), (10, .sh 2 ((byL mode names x1.ls).map Lbl.d)), (11, dN ib), (12, dB fb), (16, .sh 2 (l.map RowD.d)), (17, dN l.length), (18, dN k), (19, dB (decide (((k : Nat) : Int) < ((l.length : Nat) : Int)))), (20, .el (RowD.d x1) 0), (21, RowD.d x1), (22, dI mode), (23, .sh 1 (names.map D.s)), (24, dP g5 0), (25, .sh 2 (x1.ls.map Lbl.d)), (26, .sh 2 ((byL mode names x1.ls).map Lbl.d)), (27, .tup [dN ib, dB fb]), (28, .ov ov), (29, .sh 2 ((byL mode names x1.ls).map Lbl.d)), (30, .fn 105 [] [.el (dI mode) 0, .el (.sh 1 (names.map D.s)) 0]), (31, .tup [dN ib, dB fb]), (32, dN ib), (33, dB fb), (34, dB fb), (35, dB (!fb)), (7, .ov ov)] (sa rfl) (hQ7 (ov, G, p2) ⟨hp2, hset, hgf.2.2.2 _ (zae hp2), by have h := hgf.2.1; show G.length ≤ 2001; omega⟩)
      · skip
        rintro ⟨o2, G2, p2⟩ ⟨hp2, hset, hpl, hg2⟩
        replace hp2 : G2[ib]? = some p2 := hp2
        replace hset : (G2.map (·.l)).set ib (p2.l ++ [x1]) = insG (fun r => byL mode names r.ls) (G.map (·.l)) x1 := hset
        replace hpl : p2.l.length ≤ 2000 := hpl
        replace hg2 : G2.length ≤ 2001 := hg2
        refine pk [3, 4, 6, 9, 10, 11, 12, 16, 17, 18, 19, 20, 21, 22, 23, 24, 25, 26, 27, 28, 29, 30, 31, 32, 33, 34, 35, 7] rfl ?_
        refine PD.norm ([.sl o2 1 22 (G2.map Kp.d), .bx g5 53 (RowD.d x1)] ++ (G2.map RH)) rfl ?_
        refine zb (JD.subH (tl_out (A := [.sl o2 1 22 (G2.map Kp.d), .bx g5 53 (RowD.d x1)]) (h := RH) (G := G2) hp2) ?_)
        refine JD.norm ([.sl p2.v 2 53 (p2.l.map RowD.d), .sl o2 1 22 (G2.map Kp.d), .bx g5 53 (RowD.d x1)] ++ ((G2.eraseIdx ib).map RH)) rfl ?_
        refine jk [3, 4, 6, 7, 9, 10, 11, 12, 16, 17, 18, 19, 20, 21, 22, 23, 24, 25, 26, 27, 28, 29, 30, 31, 32, 33, 34, 35] rfl ?_
        refine JD.norm ([.sl p2.v 2 53 (p2.l.map RowD.d), .sl o2 1 22 (G2.map Kp.d), .bx g5 53 (RowD.d x1)] ++ ((G2.eraseIdx ib).map RH)) rfl ?_
        refine zbj 14 [(40, .q (.ov o2)), (41, .q (dN ib)), (42, .q (.ov o2)), (43, .q (dN ib)), (44, .q (.v (.pointer (some ⟨bl o2, ib * 1 + 0, none⟩)))), (45, .q (.ov p2.v)), (46, .q (dP g5 0)), (47, .q (.sh 2 (x1.ls.map Lbl.d))), (48, .q (.sh 2 (x1.ls.map Lbl.d))), (49, .q (dP g5 1)), (50, .q (dI x1.v)), (51, .q (.agg [.sh 2 (x1.ls.map Lbl.d), dI x1.v])), (52, .q (.sh 2 ([x1].map RowD.d))), (53, .o (fun γ => ([.sl (γ 13) 2 53 ((p2.l ++ [x1]).map RowD.d), .sl o2 1 22 (G2.map Kp.d), .bx g5 53 (RowD.d x1)] ++ ((G2.eraseIdx ib).map RH))))] ([.sl o2 1 22 (G2.map Kp.d), .bx g5 53 (RowD.d x1)] ++ ((G2.eraseIdx ib).map RH)) (Hn := fun γ => ([.sl (γ 13) 2 53 ((p2.l ++ [x1]).map RowD.d), .sl o2 1 22 (G2.map Kp.d), .bx g5 53 (RowD.d x1)] ++ ((G2.eraseIdx ib).map RH))) mixed rfl rfl (by kernel_rfl) (by kernel_rfl) (by kernel_rfl) (HSub.lst 1 rfl) (fun _ => rfl) (fun γ => ⟨so_p rfl rfl rfl (zc rfl), so_p rfl rfl rfl (zc rfl), so_p rfl rfl rfl (zc rfl), so_p rfl rfl rfl (zc rfl), so_p rfl rfl rfl (zi (k := ib) (j := 0) rfl rfl rfl Tryz.runUnderlying36 Tryz.sizeOf22 (by first | rfl | omega) (zg hp2)), so_p rfl rfl rfl (z8 rfl (i := 0) rfl (zg hp2) Tryz.isAgg22 rfl), so_p rfl rfl rfl (zw rfl zad rfl), so_p rfl rfl rfl (zK rfl (i := 1) rfl Tryz.isAgg50 rfl), so_q rfl rfl rfl (zaI rfl (.cons Cv.rfl' .nil) Tryz.call108 (cloneL_c x1.ls (by omega)) zbq), so_p rfl rfl rfl (zw rfl zam rfl), so_p rfl rfl rfl (zK rfl (i := 1) rfl Tryz.isAgg3 rfl), so_p rfl rfl rfl (za2 [0, 1] [.tmp 48, .tmp 50] (zv := (.agg #[(.slice none 0 0), (.int .i64 0)])) rfl rfl (.cons CellD.sh (.cons (CellD.v rfl) .nil)) (Tryz.runUnderlying53) Tryz.zeroValue53 zcu ⟨rfl, rfl, trivial⟩ rfl), so_q rfl rfl rfl (zas [.tmp 51] rfl rfl (.cons CellD.agg .nil) rfl Tryz.runUnderlying22 Tryz.sizeOf53 Tryz.zeroValue53 rfl rfl rfl rfl), so_o rfl rfl rfl rfl ((zac (f := RowD.d) (l := p2.l) (l' := [x1]) (i := 0) rfl rfl rfl (SrcD.sh) zbf zaO rfl rfl (by unfold maxLen; (try simp only [la, lc, ln, lm, lt', ld, ls, lr]); omega) (by (try simp only [la, lc, ln, lm, lt', ld, ls, lr]); omega)).mono (by rintro _ _ ⟨v, rfl, rfl⟩; exact ⟨v, rfl, rfl⟩)) (fun _ => HSub.lst 1 rfl), trivial⟩) (fun γ => ?_)
        refine ok [3, 4, 6, 7, 9, 10, 11, 12, 16, 17, 18, 19, 20, 21, 22, 23, 24, 25, 26, 27, 28, 29, 30, 31, 32, 33, 34, 35, 40, 41, 42, 43, 44, 45, 46, 47, 48, 49, 50, 51, 52, 53] rfl (oP rfl (zi (k := ib) (j := 1) rfl rfl rfl Tryz.runUnderlying36 Tryz.sizeOf22 (by first | rfl | omega) (zg hp2)) (oE rfl (zaE (f := Kp.d) (k := ib) (z := 1) (o := 0) (i := 1) (a' := (Kp.mk (γ 13) (p2.l ++ [x1]))) rfl rfl hp2 rfl (CellD.o) Tryz.sizeOf22 rfl rfl rfl) ?_))
        rintro _ _ ⟨rfl, rfl⟩
        refine OpsD.norm ([.sl (γ 13) 2 53 ((p2.l ++ [x1]).map RowD.d), .sl o2 1 22 ((G2.set ib (Kp.mk (γ 13) (p2.l ++ [x1]))).map Kp.d), .bx g5 53 (RowD.d x1)] ++ ((G2.eraseIdx ib).map RH)) rfl ?_
        refine ze rfl (zp (zb (za rfl (oP rfl (zO (c := ((k + 1 : Nat) : Int)) rfl rfl (zB (by omega) (by omega))) (oR 1 rfl (ze rfl (PD.subH (tl_in (A := [.sl o2 1 22 ((G2.set ib (Kp.mk (γ 13) (p2.l ++ [x1]))).map Kp.d), .bx g5 53 (RowD.d x1)]) (h := RH) (G := G2) (y := (Kp.mk (γ 13) (p2.l ++ [x1]))) hp2) (PD.subH drop2 ?_))))))))
        refine PD.norm ([.sl o2 1 22 ((G2.set ib (Kp.mk (γ 13) (p2.l ++ [x1]))).map Kp.d)] ++ ((G2.set ib (Kp.mk (γ 13) (p2.l ++ [x1]))).map RH)) rfl ?_
        exact pl3 (k + 1) o2 (G2.set ib (Kp.mk (γ 13) (p2.l ++ [x1]))) (sa rfl) HSub.rfl' ⟨by show k + 1 ≤ l.length; omega, by rw [go_set (p := p2), hset, hG, splitG_snoc hx1]⟩ (by omega)
    · skip
      refine zL rfl (zo (zn (zk (zb (jT rfl (oR 2 rfl (oZ rfl (zm rfl ?_))))))))
      exact zl Tryz.results33 (.cons (zh rfl) .nil) rfl HSub.rfl' ⟨ov, G, rfl, rfl, by unfold zu; rw [if_pos hc3, hG, List.take_of_length_le (by omega)]⟩
end Lp
/- Walks, printed by a program of mine. -/
set_option linter.unusedSimpArgs false
set_option linter.unusedVariables false
set_option maxHeartbeats 4000000
set_option maxRecDepth 100000
namespace Lp
open Go Go.RowKit Go.Proofs

namespace HdYtfjinapgehafiaaGreatV75
theorem bd_105 : ∀ w, ((#[⟨"n", 3, 0, false, "", "leporello/group", 0⟩] : Array Field).mapM fun f => do pure (f.offset, ← Go.sizeOf f.type) : Sem (Array (Nat × Nat))).run Tryz.prog w = .ok ([(0, 1)] : List (Nat × Nat)).toArray w := fun _ => by kernel_rfl
theorem bd_156 : ∀ w, ((#[⟨"mean", 4, 0, false, "", "leporello/group", 0⟩] : Array Field).mapM fun f => do pure (f.offset, ← Go.sizeOf f.type) : Sem (Array (Nat × Nat))).run Tryz.prog w = .ok ([(0, 1)] : List (Nat × Nat)).toArray w := fun _ => by kernel_rfl
theorem bd_159 : ∀ w, ((#[⟨"of", 157, 0, false, "", "leporello/group", 0⟩] : Array Field).mapM fun f => do pure (f.offset, ← Go.sizeOf f.type) : Sem (Array (Nat × Nat))).run Tryz.prog w = .ok ([(0, 1)] : List (Nat × Nat)).toArray w := fun _ => by kernel_rfl
theorem bd_161 : ∀ w, ((#[⟨"p", 3, 0, false, "", "leporello/group", 0⟩] : Array Field).mapM fun f => do pure (f.offset, ← Go.sizeOf f.type) : Sem (Array (Nat × Nat))).run Tryz.prog w = .ok ([(0, 1)] : List (Nat × Nat)).toArray w := fun _ => by kernel_rfl
theorem zam (b o : Nat) : ∀ w, (Instr.fieldAt 53 (.pointer (some ⟨b, o, none⟩)) 1).run Tryz.prog w = .ok (.pointer (some ⟨b, o + 1, none⟩)) w := fun _ => by kernel_rfl
theorem infz_3 : ∃ i, Tryz.prog.info? 3 = some i ∧ i.zero = some (.int .i64 0) ∧ i.size = 1 ∧ i.bytes = 8 := za3 (by kernel_rfl)
theorem und_122 : Tryz.prog.underlying 122 = some (.slice 3) := by kernel_rfl
end HdYtfjinapgehafiaaGreatV75
open HdYtfjinapgehafiaaGreatV75

theorem all_next {l : List Int} {k : Nat} {x : Int} (h : (l.take k).all zaD = true) (hx : l[k]? = some x) (hr : zaD x = true) : (l.take (k + 1)).all zaD = true := by
  rw [zab hx, List.all_append, h]; simp [hr]
theorem all_bad {l : List Int} {k : Nat} {x : Int} (h : (l.take k).all zaD = true) (hx : l[k]? = some x) (hr : zaD x = false) : false = allR l := by
  have : l.all zaD = false := by
    rw [List.all_eq_false]; exact ⟨x, List.mem_of_getElem? hx, by rw [hr]; simp⟩
  unfold allR; rw [this]; rfl
theorem all_end {l : List Int} {k : Nat} (h : (l.take k).all zaD = true) (hk : l.length ≤ k) : decide (((l.length : Nat) : Int) ≤ (2000 : Int)) = allR l := by
  rw [List.take_of_length_le hk] at h
  unfold allR; rw [h, Bool.true_and]; congr 1; exact propext (by omega)

theorem all_c (l : List Int)  :
    CD Tryz.prog 184 [] [.sh 1 (l.map dI)] (isR (dB (allR l))) := by
  refine zq Tryz.func184 rfl (N := 18) rfl rfl (fun C => ?_)
  refine jk [0] rfl ?_
  refine JD.bd 0 rfl (fun bd0 => ?_)
  have nl0 := zS bd0
  refine jT rfl (oR 1 rfl (oZ rfl (jS rfl (jT rfl (oR 1 rfl (oP rfl (z6 (n := l.length) rfl Tryz.runUnderlying122 (by simp only [lm, lc, ln])) (oR 1 rfl (oZ rfl (jB rfl (jl1 (fun (a_ : Nat) => [(0, .sh 1 (l.map dI)), (5, .sh 1 (l.map dI)), (6, dN l.length), (7, dN a_)]) (fun a_ => []) (fun a_ => (a_ ≤ l.length) ∧ ((l.take a_).all zaD = true)) (fun a_ => l.length - a_) 0 rfl (sa rfl) HSub.rfl' ⟨Nat.zero_le _, rfl⟩ ?_))))))))))
  rintro k ⟨hk, hf⟩
  refine ja rfl (jn rfl (jT rfl (oP rfl (zQ rfl rfl rfl) (oZ rfl (jS rfl ?_)))))
  refine jD rfl (fun hc1 => ?_) (fun hc1 => ?_)
  · skip
    refine zj rfl (zb (jS rfl (jB rfl (jT rfl ?_))))
    obtain ⟨x1, hx1⟩ := zy l k (by omega)
    refine oP rfl (zr (k := k) rfl rfl Tryz.runUnderlying122 Tryz.sizeOf3 (by first | rfl | omega) (zg hx1)) (oP rfl (zH rfl Tryz.isAgg3 rfl) (oR 1 rfl (oZ rfl (jT rfl (oR 1 rfl (oW rfl rfl acs Tryz.call44 (fRight_c x1) (oP rfl (zbc rfl) (oZ rfl ?_))))))))
    refine jC rfl (fun hc2 => ?_) (fun hc2 => ?_)
    · simp only [bA, bB, bC, bD, bE, bF, bG, bH, bI, bJ] at hc2
      refine jT rfl (oR 1 rfl (oZ rfl (zm rfl (zf (zd (zP (zf (zd ?_))))))))
      exact zl Tryz.results184 (.cons (zx (zh rfl) (Cv.eq (congrArg (fun b => D.v (.bool b)) (by exact all_bad hf hx1 hc2)))) .nil) rfl HSub.none ⟨rfl, rfl⟩
    · simp only [bA, bB, bC, bD, bE, bF, bG, bH, bI, bJ] at hc2
      refine zj rfl (zp (zb (za rfl (oP rfl (zO (c := ((k + 1 : Nat) : Int)) rfl rfl (zB (by omega) (by omega))) (oR 1 rfl (ze rfl ?_))))))
      exact pl1 (k + 1) (sa rfl) HSub.rfl' ⟨by show k + 1 ≤ l.length; omega, all_next hf hx1 hc2⟩ (by omega)
  · skip
    refine zL rfl (zo (zn (zk (zb (jT rfl (oR 1 rfl (oP rfl (z6 (n := l.length) rfl Tryz.runUnderlying122 (by simp only [lm, lc, ln])) (oP rfl (zaA rfl rfl rfl) (oR 1 rfl (oZ rfl (zm rfl ?_)))))))))))
    exact zl Tryz.results184 (.cons (zx (zh rfl) (Cv.eq (congrArg (fun b => D.v (.bool b)) (by exact all_end hf (by omega))))) .nil) rfl HSub.none ⟨rfl, rfl⟩

theorem total_c (l : List Int) (hr : l.all zaD = true) (hl : l.length ≤ 2000) :
    CD Tryz.prog 185 [] [.sh 1 (l.map dI)] (isR (dI (tot l))) := by
  refine zq Tryz.func185 rfl (N := 17) rfl rfl (fun C => ?_)
  refine jk [0] rfl ?_
  refine JD.bd 0 rfl (fun bd0 => ?_)
  have nl0 := zS bd0
  refine jT rfl (oR 1 rfl (oZ rfl (jT rfl (oR 1 rfl (oZ rfl (jS rfl (jT rfl (oR 1 rfl (oP rfl (z6 (n := l.length) rfl Tryz.runUnderlying122 (by simp only [lm, lc, ln])) (oR 1 rfl (oZ rfl (jB rfl (jl1 (fun (a_ : Nat) => [(2, dI 0), (6, .sh 1 (l.map dI)), (7, dN l.length), (8, dN a_), (3, dI (tot (l.take a_)))]) (fun a_ => []) (fun a_ => (a_ ≤ l.length)) (fun a_ => l.length - a_) 0 rfl ⟨sk rfl, sk rfl, sk rfl, sk rfl, sc rfl (Cv.eq rfl), trivial⟩ HSub.rfl' (Nat.zero_le _) ?_)))))))))))))
  rintro k hk
  refine ja rfl (jn rfl (jT rfl (oP rfl (zQ rfl rfl rfl) (oZ rfl (jS rfl ?_)))))
  refine jD rfl (fun hc1 => ?_) (fun hc1 => ?_)
  · skip
    refine zj rfl (zb (jS rfl (jB rfl (jT rfl ?_))))
    obtain ⟨x1, hx1⟩ := zy l k (by omega)
    have ht1 := tot_bd (all_take (k := k) hr)
    have ht2 := tot_bd (all_take (k := k + 1) hr)
    rw [tot_snoc hx1] at ht2
    rw [List.length_take, Nat.min_eq_left (by omega)] at ht1 ht2
    refine oP rfl (zr (k := k) rfl rfl Tryz.runUnderlying122 Tryz.sizeOf3 (by first | rfl | omega) (zg hx1)) (oP rfl (zH rfl Tryz.isAgg3 rfl) (oR 1 rfl (oZ rfl (za rfl (oR 2 rfl (oP rfl (zO (c := ((tot (l.take k)) + x1)) rfl rfl (zB (by omega) (by omega))) (oR 1 rfl (ze rfl (zp (zb (za rfl (oP rfl (zO (c := ((k + 1 : Nat) : Int)) rfl rfl (zB (by omega) (by omega))) (oR 1 rfl (ze rfl ?_))))))))))))))
    exact pl1 (k + 1) ⟨sk rfl, sk rfl, sk rfl, sk rfl, sc rfl (Cv.eq (congrArg dI (tot_snoc hx1).symm)), trivial⟩ HSub.rfl' (by show k + 1 ≤ l.length; omega) (by omega)
  · skip
    refine zL rfl (zo (zn (zk (zb (jT rfl (oR 2 rfl (oZ rfl (zm rfl ?_))))))))
    exact zl Tryz.results185 (.cons (zx (zh rfl) (Cv.eq (congrArg (fun n => D.v (.int .i64 n)) (by rw [List.take_of_length_le (by omega)])))) .nil) rfl HSub.none ⟨rfl, rfl⟩

theorem allR_1 {l : List Int} (h : allR l = true) : l.all zaD = true := by unfold allR at h; rw [Bool.and_eq_true] at h; exact h.1
theorem allR_2 {l : List Int} (h : allR l = true) : l.length ≤ 2000 := by unfold allR at h; rw [Bool.and_eq_true] at h; exact of_decide_eq_true h.2

theorem sum_c (l : List Int)  :
    CD Tryz.prog 150 [] [.sh 1 (l.map dI)] (isR (.tup [dI ((sumE l).1), dI ((sumE l).2)])) := by
  refine zq Tryz.func150 rfl (N := 12) rfl rfl (fun C => ?_)
  refine jk [0] rfl ?_
  refine JD.bd 0 rfl (fun bd0 => ?_)
  have nl0 := zS bd0
  refine jT rfl (oR 2 rfl (oZ rfl (jS rfl (jT rfl (oR 1 rfl (oW rfl rfl acs Tryz.call184 (all_c l) (oP rfl (zbc rfl) (oZ rfl ?_))))))))
  refine jC rfl (fun hc1 => ?_) (fun hc1 => ?_)
  · simp only [bA, bB, bC, bD, bE, bF, bG, bH, bI, bJ] at hc1
    refine jT rfl (oR 2 rfl (oZ rfl (zm rfl (zd ?_))))
    exact zl Tryz.results150 (.cons (zx (zh rfl) (Cv.eq (congrArg (fun n => D.v (.int .i64 n)) (by unfold sumE; first | rw [if_pos hc1] | rw [if_neg (by rw [hc1]; simp)])))) (.cons (zx (zh rfl) (Cv.eq (congrArg (fun n => D.v (.int .i64 n)) (by unfold sumE; first | rw [if_pos hc1] | rw [if_neg (by rw [hc1]; simp)])))) .nil)) rfl HSub.none ⟨rfl, rfl⟩
  · simp only [bA, bB, bC, bD, bE, bF, bG, bH, bI, bJ] at hc1
    refine zj rfl (zb (jT rfl (oR 1 rfl (oW rfl rfl acs Tryz.call185 (total_c l (allR_1 hc1) (allR_2 hc1)) (oW rfl rfl acs Tryz.call114 (within_c (tot l)) (oR 4 rfl (oZ rfl (jk [2, 3] rfl (zm rfl ?_)))))))))
    exact zl Tryz.results150 (.cons (zx (zh rfl) (Cv.eq (congrArg (fun n => D.v (.int .i64 n)) (by unfold sumE; first | rw [if_pos hc1] | rw [if_neg (by rw [hc1]; simp)])))) (.cons (zx (zh rfl) (Cv.eq (congrArg (fun n => D.v (.int .i64 n)) (by unfold sumE; first | rw [if_pos hc1] | rw [if_neg (by rw [hc1]; simp)])))) .nil)) rfl HSub.none ⟨rfl, rfl⟩

theorem mean_c (l : List Int)  :
    CD Tryz.prog 148 [] [.sh 1 (l.map dI)] (isR (.tup [dI ((zdp l).1), dI ((zdp l).2)])) := by
  refine zq Tryz.func148 rfl (N := 17) rfl rfl (fun C => ?_)
  refine jk [0] rfl ?_
  refine JD.bd 0 rfl (fun bd0 => ?_)
  have nl0 := zS bd0
  refine jT rfl (oR 2 rfl (oZ rfl (jS rfl (jB rfl (jT rfl (oR 1 rfl (oP rfl (z6 (n := l.length) rfl Tryz.runUnderlying122 (by simp only [lm, lc, ln])) (oP rfl (zR rfl rfl rfl) (oR 1 rfl (oZ rfl ?_))))))))))
  refine jD rfl (fun hc1 => ?_) (fun hc1 => ?_)
  · skip
    refine jT rfl (oR 2 rfl (oZ rfl (zm rfl (zf (zd ?_)))))
    exact zl Tryz.results148 (.cons (zx (zh rfl) (Cv.eq (congrArg (fun n => D.v (.int .i64 n)) (by unfold zdp; rw [if_pos (by omega)])))) (.cons (zx (zh rfl) (Cv.eq (congrArg (fun n => D.v (.int .i64 n)) (by unfold zdp; rw [if_pos (by omega)])))) .nil)) rfl HSub.none ⟨rfl, rfl⟩
  · skip
    refine jT rfl (oR 1 rfl (oW rfl rfl acs Tryz.call184 (all_c l) (oP rfl (zbc rfl) (oR 1 rfl (oZ rfl ?_)))))
    refine jC rfl (fun hc2 => ?_) (fun hc2 => ?_)
    · simp only [bA, bB, bC, bD, bE, bF, bG, bH, bI, bJ] at hc2
      refine jT rfl (oR 2 rfl (oZ rfl (zm rfl (zf (zd ?_)))))
      exact zl Tryz.results148 (.cons (zx (zh rfl) (Cv.eq (congrArg (fun n => D.v (.int .i64 n)) (by unfold zdp; rw [if_neg (by omega)]; first | rw [if_pos hc2] | rw [if_neg (by rw [hc2]; simp)])))) (.cons (zx (zh rfl) (Cv.eq (congrArg (fun n => D.v (.int .i64 n)) (by unfold zdp; rw [if_neg (by omega)]; first | rw [if_pos hc2] | rw [if_neg (by rw [hc2]; simp)])))) .nil)) rfl HSub.none ⟨rfl, rfl⟩
    · simp only [bA, bB, bC, bD, bE, bF, bG, bH, bI, bJ] at hc2
      refine zj rfl (zp (zb (jT rfl (oR 1 rfl (oW rfl rfl acs Tryz.call185 (total_c l (allR_1 hc2) (allR_2 hc2)) (oR 1 rfl (oP rfl (z6 (n := l.length) rfl Tryz.runUnderlying122 (by simp only [lm, lc, ln])) ?_)))))))
      have hb0 := tot_bd (allR_1 hc2)
      have hb1 := allR_2 hc2
      have hb2 := tdiv_bd (tot l) (l.length : Int) (by omega)
      refine oP rfl (zdO (c := (Int.tdiv (tot l) ((l.length : Nat) : Int))) rfl rfl (by omega) (zB rfl (by omega))) (oR 2 rfl (oZ rfl (jk [2, 3] rfl (zm rfl ?_))))
      exact zl Tryz.results148 (.cons (zx (zh rfl) (Cv.eq (congrArg (fun n => D.v (.int .i64 n)) (by unfold zdp; rw [if_neg (by omega)]; first | rw [if_pos hc2] | rw [if_neg (by rw [hc2]; simp)])))) (.cons (zx (zh rfl) (Cv.eq (congrArg (fun n => D.v (.int .i64 n)) (by unfold zdp; rw [if_neg (by omega)]; first | rw [if_pos hc2] | rw [if_neg (by rw [hc2]; simp)])))) .nil)) rfl HSub.none ⟨rfl, rfl⟩

theorem min_c (l : List Int) (h0 : 0 < l.length) :
    CD Tryz.prog 172 [] [.sh 1 (l.map dI)] (isR (dI (minL l))) := by
  refine zq Tryz.func172 rfl (N := 25) rfl rfl (fun C => ?_)
  refine jk [0] rfl ?_
  refine JD.bd 0 rfl (fun bd0 => ?_)
  have nl0 := zS bd0
  refine jT rfl (oR 1 rfl (oZ rfl (jS rfl (jT rfl (oR 1 rfl (oP rfl (z6 (n := l.length) rfl Tryz.runUnderlying122 (by simp only [lm, lc, ln])) (oP rfl (zQ rfl rfl rfl) (oZ rfl ?_))))))))
  refine jD rfl (fun hc1 => ?_) (fun hc1 => ?_)
  · skip
    exfalso; omega
  · skip
    refine zj rfl (zb (jT rfl (oR 1 rfl ?_)))
    obtain ⟨x1, hx1⟩ := zy l 0 (by omega)
    refine oP rfl (zr (k := 0) rfl rfl Tryz.runUnderlying122 Tryz.sizeOf3 (by first | rfl | omega) (zg hx1)) (oP rfl (zH rfl Tryz.isAgg3 rfl) (oR 1 rfl (oZ rfl (jS rfl (jT rfl (oR 1 rfl (oZ rfl (jB rfl (jl1 (fun (a_ : Nat) => [(0, .sh 1 (l.map dI)), (2, dI 0), (4, dN a_), (3, dI (minL (l.take a_)))]) (fun a_ => []) (fun a_ => (1 ≤ a_) ∧ (a_ ≤ l.length)) (fun a_ => l.length - a_) 1 rfl ⟨sk rfl, sk rfl, sk rfl, sc rfl (Cv.eq (congrArg dI (minL_one hx1).symm)), trivial⟩ HSub.rfl' ⟨Nat.le_refl _, by show 1 ≤ l.length; omega⟩ ?_)))))))))
    rintro k ⟨hk1, hk⟩
    refine ja rfl (jn rfl (jS rfl (jT rfl (oR 2 rfl (oP rfl (z6 (n := l.length) rfl Tryz.runUnderlying122 (by simp only [lm, lc, ln])) (oP rfl (zQ rfl rfl rfl) (oZ rfl ?_)))))))
    refine jD rfl (fun hc2 => ?_) (fun hc2 => ?_)
    · skip
      refine zj rfl (zb (jS rfl (jB rfl (za rfl (oR 3 rfl ?_)))))
      obtain ⟨x2, hx2⟩ := zy l k (by omega)
      refine oP rfl (zr (k := k) rfl rfl Tryz.runUnderlying122 Tryz.sizeOf3 (by first | rfl | omega) (zg hx2)) (oP rfl (zH rfl Tryz.isAgg3 rfl) (oP rfl (p_min rfl rfl rfl) (oR 1 rfl (ze rfl (zp (zb (za rfl (oR 1 rfl (oP rfl (zO (c := ((k + 1 : Nat) : Int)) rfl rfl (zB (by omega) (by omega))) (oR 1 rfl (ze rfl ?_)))))))))))
      exact pl1 (k + 1) ⟨sk rfl, sk rfl, sk rfl, sc rfl (Cv.eq (congrArg dI (minL_snoc (by omega) hx2).symm)), trivial⟩ HSub.rfl' ⟨by show 1 ≤ k + 1; omega, by show k + 1 ≤ l.length; omega⟩ (by omega)
    · skip
      refine zL rfl (zo (zn (zk (zb (jT rfl (oR 2 rfl (oZ rfl (zm rfl ?_))))))))
      exact zl Tryz.results172 (.cons (zx (zh rfl) (Cv.eq (congrArg (fun n => D.v (.int .i64 n)) (by rw [List.take_of_length_le (by omega)])))) .nil) rfl HSub.none ⟨rfl, rfl⟩

theorem max_c (l : List Int) (h0 : 0 < l.length) :
    CD Tryz.prog 173 [] [.sh 1 (l.map dI)] (isR (dI (maxL l))) := by
  refine zq Tryz.func173 rfl (N := 25) rfl rfl (fun C => ?_)
  refine jk [0] rfl ?_
  refine JD.bd 0 rfl (fun bd0 => ?_)
  have nl0 := zS bd0
  refine jT rfl (oR 1 rfl (oZ rfl (jS rfl (jT rfl (oR 1 rfl (oP rfl (z6 (n := l.length) rfl Tryz.runUnderlying122 (by simp only [lm, lc, ln])) (oP rfl (zQ rfl rfl rfl) (oZ rfl ?_))))))))
  refine jD rfl (fun hc1 => ?_) (fun hc1 => ?_)
  · skip
    exfalso; omega
  · skip
    refine zj rfl (zb (jT rfl (oR 1 rfl ?_)))
    obtain ⟨x1, hx1⟩ := zy l 0 (by omega)
    refine oP rfl (zr (k := 0) rfl rfl Tryz.runUnderlying122 Tryz.sizeOf3 (by first | rfl | omega) (zg hx1)) (oP rfl (zH rfl Tryz.isAgg3 rfl) (oR 1 rfl (oZ rfl (jS rfl (jT rfl (oR 1 rfl (oZ rfl (jB rfl (jl1 (fun (a_ : Nat) => [(0, .sh 1 (l.map dI)), (2, dI 0), (4, dN a_), (3, dI (maxL (l.take a_)))]) (fun a_ => []) (fun a_ => (1 ≤ a_) ∧ (a_ ≤ l.length)) (fun a_ => l.length - a_) 1 rfl ⟨sk rfl, sk rfl, sk rfl, sc rfl (Cv.eq (congrArg dI (maxL_one hx1).symm)), trivial⟩ HSub.rfl' ⟨Nat.le_refl _, by show 1 ≤ l.length; omega⟩ ?_)))))))))
    rintro k ⟨hk1, hk⟩
    refine ja rfl (jn rfl (jS rfl (jT rfl (oR 2 rfl (oP rfl (z6 (n := l.length) rfl Tryz.runUnderlying122 (by simp only [lm, lc, ln])) (oP rfl (zQ rfl rfl rfl) (oZ rfl ?_)))))))
    refine jD rfl (fun hc2 => ?_) (fun hc2 => ?_)
    · skip
      refine zj rfl (zb (jS rfl (jB rfl (za rfl (oR 3 rfl ?_)))))
      obtain ⟨x2, hx2⟩ := zy l k (by omega)
      refine oP rfl (zr (k := k) rfl rfl Tryz.runUnderlying122 Tryz.sizeOf3 (by first | rfl | omega) (zg hx2)) (oP rfl (zH rfl Tryz.isAgg3 rfl) (oP rfl (p_max rfl rfl rfl) (oR 1 rfl (ze rfl (zp (zb (za rfl (oR 1 rfl (oP rfl (zO (c := ((k + 1 : Nat) : Int)) rfl rfl (zB (by omega) (by omega))) (oR 1 rfl (ze rfl ?_)))))))))))
      exact pl1 (k + 1) ⟨sk rfl, sk rfl, sk rfl, sc rfl (Cv.eq (congrArg dI (maxL_snoc (by omega) hx2).symm)), trivial⟩ HSub.rfl' ⟨by show 1 ≤ k + 1; omega, by show k + 1 ≤ l.length; omega⟩ (by omega)
    · skip
      refine zL rfl (zo (zn (zk (zb (jT rfl (oR 2 rfl (oZ rfl (zm rfl ?_))))))))
      exact zl Tryz.results173 (.cons (zx (zh rfl) (Cv.eq (congrArg (fun n => D.v (.int .i64 n)) (by rw [List.take_of_length_le (by omega)])))) .nil) rfl HSub.none ⟨rfl, rfl⟩

theorem least_c (l : List Int) (h0 : 0 < l.length) :
    CD Tryz.prog 140 [] [.sh 1 (l.map dI)] (isR (dI (minL l))) := by
  refine zq Tryz.func140 rfl (N := 5) rfl rfl (fun C => ?_)
  refine jk [0] rfl ?_
  refine JD.bd 0 rfl (fun bd0 => ?_)
  have nl0 := zS bd0
  refine jT rfl (oR 1 rfl (oZ rfl (jT rfl (oR 1 rfl (oW rfl rfl acs Tryz.call172 (min_c l h0) (oR 1 rfl (oZ rfl (zm rfl ?_))))))))
  exact zl Tryz.results140 (.cons (zh rfl) .nil) rfl HSub.none ⟨rfl, rfl⟩

theorem most_c (l : List Int) (h0 : 0 < l.length) :
    CD Tryz.prog 141 [] [.sh 1 (l.map dI)] (isR (dI (maxL l))) := by
  refine zq Tryz.func141 rfl (N := 5) rfl rfl (fun C => ?_)
  refine jk [0] rfl ?_
  refine JD.bd 0 rfl (fun bd0 => ?_)
  have nl0 := zS bd0
  refine jT rfl (oR 1 rfl (oZ rfl (jT rfl (oR 1 rfl (oW rfl rfl acs Tryz.call173 (max_c l h0) (oR 1 rfl (oZ rfl (zm rfl ?_))))))))
  exact zl Tryz.results141 (.cons (zh rfl) .nil) rfl HSub.none ⟨rfl, rfl⟩

theorem many_c (l : List Int)  :
    CD Tryz.prog 142 [] [.sh 1 (l.map dI)] (isR (dI ((l.length : Nat) : Int))) := by
  refine zq Tryz.func142 rfl (N := 5) rfl rfl (fun C => ?_)
  refine jk [0] rfl ?_
  refine JD.bd 0 rfl (fun bd0 => ?_)
  have nl0 := zS bd0
  refine jT rfl (oR 1 rfl (oZ rfl (jT rfl (oR 1 rfl (oP rfl (z6 (n := l.length) rfl Tryz.runUnderlying122 (by simp only [lm, lc, ln])) (oR 1 rfl (oZ rfl (zm rfl ?_))))))))
  exact zl Tryz.results142 (.cons (zh rfl) .nil) rfl HSub.none ⟨rfl, rfl⟩

theorem zcf (l : List RowD) (hl : l.length ≤ 1000000) :
    CD Tryz.prog 149 [] [.sh 2 (l.map RowD.d)] (zcU 1 3 ((l.map (·.v)).map dI)) := by
  refine zq Tryz.func149 rfl (N := 19) rfl rfl (fun C => ?_)
  refine jk [0] rfl ?_
  refine JD.bd 0 rfl (fun bd0 => ?_)
  have nl0 := zS bd0
  refine jT rfl (oR 1 rfl (oZ rfl (jT rfl (oR 1 rfl (oZ rfl (jS rfl (jT rfl (oR 1 rfl (oP rfl (z6 (n := l.length) rfl Tryz.runUnderlying22 (by simp only [lm, lc, ln])) (oR 1 rfl (oZ rfl (jB rfl (jl3 (fun (a_ : Nat) (b_ : Value) (c_ : List Int) => [(2, dZ), (6, .sh 2 (l.map RowD.d)), (7, dN l.length), (8, dN a_), (3, .ov b_)]) (fun a_ b_ c_ => [.sl b_ 1 3 (c_.map dI)]) (fun a_ b_ c_ => (a_ ≤ l.length) ∧ (c_ = (l.take a_).map (·.v))) (fun a_ b_ c_ => l.length - a_) 0 (.slice none 0 0) [] rfl ⟨sk rfl, sk rfl, sk rfl, sk rfl, sc rfl (Cv.ov rfl), trivial⟩ (HSub.nil 1 3) ⟨Nat.zero_le _, rfl⟩ ?_)))))))))))))
  rintro k ov o ⟨hk, ho⟩
  refine ja rfl (jn rfl ?_)
  have hol : o.length ≤ 1000000 := by rw [ho, List.length_map, List.length_take]; omega
  refine jT rfl (oP rfl (zQ rfl rfl rfl) (oZ rfl (jS rfl ?_)))
  refine jD rfl (fun hc1 => ?_) (fun hc1 => ?_)
  · skip
    refine zj rfl (zb (jS rfl (jB rfl (jT rfl ?_))))
    obtain ⟨x1, hx1⟩ := zy l k (by omega)
    refine oP rfl (zr (k := k) rfl rfl Tryz.runUnderlying22 Tryz.sizeOf53 (by first | rfl | omega) (zg hx1)) (oP rfl (zaJ (d := RowD.d x1) rfl Tryz.isAgg53 Tryz.sizeOf53 rfl rfl) (oE rfl (zar (zv := (.agg #[(.slice none 0 0), (.int .i64 0)])) Tryz.zeroValue53 ⟨rfl, rfl, trivial⟩ (Cv.vagg (by decide))) ?_))
    rintro _ _ ⟨g2, rfl, rfl⟩
    refine oE rfl (zY (i := 0) (X' := RowD.d x1) rfl rfl rfl (CellD.agg) Tryz.sizeOf53 rfl rfl rfl) ?_
    rintro _ _ ⟨rfl, rfl⟩
    refine on rfl (oZ rfl (za rfl (oR 1 rfl (oP rfl (zw rfl zam rfl) (oP rfl (zK rfl (i := 0) rfl Tryz.isAgg3 rfl) (oE rfl (zap [.tmp 14] rfl rfl (.cons (CellD.v rfl) .nil) rfl Tryz.runUnderlying122 Tryz.sizeOf3 Tryz.zeroValue3 rfl rfl rfl rfl) ?_))))))
    rintro _ _ ⟨g3, rfl, rfl⟩
    refine oE rfl (zac (f := dI) (l := o) (l' := [x1.v]) (i := 2) rfl rfl rfl (SrcD.own (j := 0) rfl rfl) und_122 infz_3 rfl rfl (by unfold maxLen; (try simp only [la, lc, ln, lm, lt', ld, ls, lr]); omega) (by (try simp only [la, lc, ln, lm, lt', ld, ls, lr]); omega)) ?_
    rintro _ _ ⟨v4, rfl, rfl⟩
    refine on rfl (oR 1 rfl (ze rfl (zp (zb (za rfl (oP rfl (zO (c := ((k + 1 : Nat) : Int)) rfl rfl (zB (by omega) (by omega))) (oR 1 rfl (ze rfl (PD.subH (HSub.perm (z2 (i := 2) rfl)) (pn rfl (PD.subH (HSub.fst 1 rfl) (pn rfl ?_))))))))))))
    exact pl3 (k + 1) v4 (o ++ [x1.v]) (sa rfl) HSub.rfl' ⟨by show k + 1 ≤ l.length; omega, by rw [ho, zab hx1]; simp⟩ (by omega)
  · skip
    refine zL rfl (zo (zn (zk (zb (jT rfl (oR 2 rfl (oZ rfl (zm rfl (PD.subH (HSub.less (zbr (i := 0) rfl)) (PD.subH (HSub.turn (h' := .sl ov 1 3 ((l.map (·.v)).map dI)) rfl (Hp.eq_sl (show List.map dI o = List.map dI (l.map (·.v)) from congrArg _ (by rw [ho, List.take_of_length_le (by omega)])))) ?_))))))))))
    exact zbn Tryz.results149 (.cons (zh rfl) .nil) rfl ⟨_, rfl, rfl⟩

theorem aggs_c   :
    CD Tryz.prog 143 [] [] (zcU 1 9 (aggN.map D.s)) := by
  refine zq Tryz.func143 rfl (N := 2) rfl rfl (fun C => ?_)
  refine jk [] rfl (jT rfl (oR 1 rfl (oZ rfl (jT rfl (oE rfl (zap [.const (.string (⟨#[115, 117, 109]⟩ : ByteArray)), .const (.string (⟨#[109, 105, 110]⟩ : ByteArray)), .const (.string (⟨#[109, 97, 120]⟩ : ByteArray)), .const (.string (⟨#[99, 111, 117, 110, 116]⟩ : ByteArray)), .const (.string (⟨#[97, 118, 103]⟩ : ByteArray)), .const (.string (⟨#[116, 111, 112, 107]⟩ : ByteArray)), .const (.string (⟨#[113, 117, 97, 110, 116, 105, 108, 101]⟩ : ByteArray))] rfl rfl (.cons (CellD.v rfl) (.cons (CellD.v rfl) (.cons (CellD.v rfl) (.cons (CellD.v rfl) (.cons (CellD.v rfl) (.cons (CellD.v rfl) (.cons (CellD.v rfl) .nil))))))) rfl Tryz.runUnderlying23 Tryz.sizeOf9 Tryz.zeroValue9 rfl rfl rfl rfl) ?_)))))
  rintro _ _ ⟨g1, rfl, rfl⟩
  refine oR 1 rfl (oZ rfl (zm rfl (PD.subH (HSub.turn (h' := .sl (vS g1 7 7) 1 9 ([(⟨#[115, 117, 109]⟩ : ByteArray), (⟨#[109, 105, 110]⟩ : ByteArray), (⟨#[109, 97, 120]⟩ : ByteArray), (⟨#[99, 111, 117, 110, 116]⟩ : ByteArray), (⟨#[97, 118, 103]⟩ : ByteArray), (⟨#[116, 111, 112, 107]⟩ : ByteArray), (⟨#[113, 117, 97, 110, 116, 105, 108, 101]⟩ : ByteArray)].map D.s)) rfl (Hp.cvs_sl (.cons (Cv.str (by first | decide | (unfold maxLen; omega))) (.cons (Cv.str (by first | decide | (unfold maxLen; omega))) (.cons (Cv.str (by first | decide | (unfold maxLen; omega))) (.cons (Cv.str (by first | decide | (unfold maxLen; omega))) (.cons (Cv.str (by first | decide | (unfold maxLen; omega))) (.cons (Cv.str (by first | decide | (unfold maxLen; omega))) (.cons (Cv.str (by first | decide | (unfold maxLen; omega))) .nil))))))))) (PD.subH (HSub.less (zbr (i := 0) rfl)) (PD.subH (HSub.turn (h' := .sl (vS g1 7 7) 1 9 (aggN.map D.s)) rfl (Hp.eq_sl (show List.map D.s [(⟨#[115, 117, 109]⟩ : ByteArray), (⟨#[109, 105, 110]⟩ : ByteArray), (⟨#[109, 97, 120]⟩ : ByteArray), (⟨#[99, 111, 117, 110, 116]⟩ : ByteArray), (⟨#[97, 118, 103]⟩ : ByteArray), (⟨#[116, 111, 112, 107]⟩ : ByteArray), (⟨#[113, 117, 97, 110, 116, 105, 108, 101]⟩ : ByteArray)] = List.map D.s aggN from congrArg _ (by rfl)))) ?_)))))
  exact zbn Tryz.results143 (.cons (zh rfl) .nil) rfl ⟨_, rfl, rfl⟩

theorem Agg_c (name : ByteArray)  :
    CD Tryz.prog 99 [] [.s name] (isR (dB (hasN aggN name))) := by
  refine zq Tryz.func99 rfl (N := 6) rfl rfl (fun C => ?_)
  refine jk [0] rfl ?_
  refine JD.bd 0 rfl (fun bd0 => ?_)
  have sz0 : name.size ≤ 9223372036854775807 := bd0
  refine jT rfl (oR 1 rfl (oZ rfl (jT rfl (oE rfl (zN [] _ [] rfl rfl (.nil) zz Tryz.call143 (aggs_c) (.inl rfl)) ?_))))
  rintro _ _ ⟨_, ⟨v1, rfl, rfl⟩, rfl⟩
  refine on rfl (oR 1 rfl (oE rfl (zN [] _ [.sl v1 1 9 (aggN.map D.s)] rfl rfl (.cons (ArgC.own (j := 0) rfl rfl) (.cons ArgC.id .nil)) (zaV (j := 0) rfl zz) Tryz.call117 (containsS_c aggN name) (.inr (zbO rfl))) ?_))
  rintro _ _ ⟨_, ⟨rfl, rfl⟩, rfl⟩
  refine on rfl (oR 1 rfl (oZ rfl (zm rfl ?_)))
  exact zl Tryz.results99 (.cons (zh rfl) .nil) rfl HSub.none ⟨rfl, rfl⟩

def wayD : Option Way → D
  | none => .v .nilIface
  | some (.sums m) => .ifc 156 (.agg [dB m])
  | some .least => .ifc 159 (.agg [.fn 140 [] []])
  | some .most => .ifc 159 (.agg [.fn 141 [] []])
  | some .many => .ifc 159 (.agg [.fn 142 [] []])
  | some (.rank p) => .ifc 161 (.agg [dI p])
  | some (.top n) => .ifc 105 (.agg [dI n])

theorem way_c (name : ByteArray) (n : Int)  :
    CD Tryz.prog 98 [] [.s name, dI n] (isR (wayD (wayO name n))) := by
  refine zq Tryz.func98 rfl (N := 59) rfl rfl (fun C => ?_)
  refine jk [0, 1] rfl ?_
  refine JD.bd 0 rfl (fun bd0 => ?_)
  have sz0 : name.size ≤ 9223372036854775807 := bd0
  refine jT rfl (oR 1 rfl (oZ rfl (jS rfl (jB rfl (jS rfl (jk [0, 1, 4] rfl ?_))))))
  refine zal 5 ((decide (name = (⟨#[115, 117, 109]⟩ : ByteArray)) || decide (name = (⟨#[97, 118, 103]⟩ : ByteArray)))) [] (fun _ hQ1 => ?_) ?_
  · skip
    by_cases hg2 : name = (⟨#[115, 117, 109]⟩ : ByteArray)
    · skip
      refine za rfl (oR 1 rfl (oP rfl (zbo rfl rfl (decide_eq_true hg2)) (oR 5 rfl (ze rfl ?_))))
      exact PD.sub ((5, dB (decide (name = (⟨#[115, 117, 109]⟩ : ByteArray)) || decide (name = (⟨#[97, 118, 103]⟩ : ByteArray)))) :: [(0, .s name), (1, dI n), (4, .v .nilIface)]) ⟨sc rfl (Cv.eq (congrArg (fun b => D.v (.bool b)) (by first | (simp [hg2]; done) | (simp_all; done)))), sk rfl, sk rfl, sk rfl, trivial⟩ hQ1
    · skip
      refine za rfl (oR 1 rfl (oP rfl (zbo rfl rfl (decide_eq_false hg2)) (oR 2 rfl (oG rfl (zbo rfl rfl rfl) (oR 2 rfl (ze rfl ?_))))))
      exact PD.sub ((5, dB (decide (name = (⟨#[115, 117, 109]⟩ : ByteArray)) || decide (name = (⟨#[97, 118, 103]⟩ : ByteArray)))) :: [(0, .s name), (1, dI n), (4, .v .nilIface)]) ⟨sc rfl (Cv.eq (congrArg (fun b => D.v (.bool b)) (by first | (simp [hg2]; done) | (simp_all; done)))), sk rfl, sk rfl, sk rfl, trivial⟩ hQ1
  · skip
    refine zb ?_
    refine jC rfl (fun hc3 => ?_) (fun hc3 => ?_)
    · simp only [bA, bB, bC, bD, bE, bF, bG, bH, bI, bJ] at hc3
      refine jT rfl (oR 1 rfl (oP rfl (zbo rfl rfl rfl) (oP rfl (za2 [0] [.tmp 13] (zv := (.agg #[(.bool false)])) rfl rfl (.cons (CellD.v rfl) .nil) (Tryz.runUnderlying156) Tryz.zeroValue156 bd_156 ⟨rfl, trivial⟩ rfl) (oP rfl (zce rfl (fun _ _ => by kernel_rfl)) (oR 1 rfl (oZ rfl (zm rfl (zf (zd ?_)))))))))
      exact zl Tryz.results98 (.cons (zx (zh rfl) (Cv.eq (congrArg wayD (show (some (.sums (decide (name = (⟨#[97, 118, 103]⟩ : ByteArray))))) = wayO name n from (by unfold wayO; (repeat' split) <;> first | rfl | (simp_all; done) | (exfalso; simp_all; omega)))))) .nil) rfl HSub.none ⟨rfl, rfl⟩
    · simp only [bA, bB, bC, bD, bE, bF, bG, bH, bI, bJ] at hc3
      refine jT rfl (oR 1 rfl (oP rfl (zbo rfl rfl rfl) (oR 1 rfl (oZ rfl ?_))))
      refine jD rfl (fun hc4 => ?_) (fun hc4 => ?_)
      · skip
        refine jT rfl (oP rfl (za2 [0] [.func 140] (zv := (.agg #[.nilFunc])) rfl rfl (.cons CellD.fn .nil) (Tryz.runUnderlying159) Tryz.zeroValue159 bd_159 ⟨rfl, trivial⟩ rfl) (oP rfl (zce rfl (fun _ _ => by kernel_rfl)) (oR 1 rfl (oZ rfl (zm rfl (zf (zd ?_)))))))
        exact zl Tryz.results98 (.cons (zx (zh rfl) (Cv.eq (congrArg wayD (show (some .least) = wayO name n from (by unfold wayO; (repeat' split) <;> first | rfl | (simp_all; done) | (exfalso; simp_all; omega)))))) .nil) rfl HSub.none ⟨rfl, rfl⟩
      · skip
        refine jT rfl (oR 1 rfl (oP rfl (zbo rfl rfl rfl) (oR 1 rfl (oZ rfl ?_))))
        refine jD rfl (fun hc5 => ?_) (fun hc5 => ?_)
        · skip
          refine jT rfl (oP rfl (za2 [0] [.func 141] (zv := (.agg #[.nilFunc])) rfl rfl (.cons CellD.fn .nil) (Tryz.runUnderlying159) Tryz.zeroValue159 bd_159 ⟨rfl, trivial⟩ rfl) (oP rfl (zce rfl (fun _ _ => by kernel_rfl)) (oR 1 rfl (oZ rfl (jk [4] rfl (zm rfl (zf (zd ?_))))))))
          exact zl Tryz.results98 (.cons (zx (zh rfl) (Cv.eq (congrArg wayD (show (some .most) = wayO name n from (by unfold wayO; (repeat' split) <;> first | rfl | (simp_all; done) | (exfalso; simp_all; omega)))))) .nil) rfl HSub.none ⟨rfl, rfl⟩
        · skip
          refine jT rfl (oR 1 rfl (oP rfl (zbo rfl rfl rfl) (oR 1 rfl (oZ rfl (jk [0, 1, 4, 26] rfl ?_)))))
          refine jD rfl (fun hc6 => ?_) (fun hc6 => ?_)
          · skip
            refine jT rfl (oP rfl (za2 [0] [.func 142] (zv := (.agg #[.nilFunc])) rfl rfl (.cons CellD.fn .nil) (Tryz.runUnderlying159) Tryz.zeroValue159 bd_159 ⟨rfl, trivial⟩ rfl) (oP rfl (zce rfl (fun _ _ => by kernel_rfl)) (oR 1 rfl (oZ rfl (zm rfl (zf (zd ?_)))))))
            exact zl Tryz.results98 (.cons (zx (zh rfl) (Cv.eq (congrArg wayD (show (some .many) = wayO name n from (by unfold wayO; (repeat' split) <;> first | rfl | (simp_all; done) | (exfalso; simp_all; omega)))))) .nil) rfl HSub.none ⟨rfl, rfl⟩
          · skip
            refine jS rfl (jk [0, 1, 4] rfl ?_)
            refine zal 31 (((decide (name = (⟨#[113, 117, 97, 110, 116, 105, 108, 101]⟩ : ByteArray)) && decide ((0 : Int) ≤ n)) && decide (n ≤ (100 : Int)))) [] (fun _ hQ7 => ?_) ?_
            · skip
              by_cases hg8 : name = (⟨#[113, 117, 97, 110, 116, 105, 108, 101]⟩ : ByteArray)
              · skip
                by_cases hg9 : (0 : Int) ≤ n
                · skip
                  refine za rfl (oR 1 rfl (oP rfl (zbo rfl rfl (decide_eq_true hg8)) (oR 2 rfl (oG rfl (zV rfl rfl (decide_eq_true hg9)) (oR 3 rfl (oG rfl (zaA rfl rfl rfl) (oR 2 rfl (ze rfl ?_))))))))
                  exact PD.sub ((31, dB ((decide (name = (⟨#[113, 117, 97, 110, 116, 105, 108, 101]⟩ : ByteArray)) && decide ((0 : Int) ≤ n)) && decide (n ≤ (100 : Int)))) :: [(0, .s name), (1, dI n), (4, .v .nilIface)]) ⟨sc rfl (Cv.eq (congrArg (fun b => D.v (.bool b)) (by first | (simp [hc4, hc5, hc6, hg8, hg9]; done) | (simp_all; done)))), sk rfl, sk rfl, sk rfl, trivial⟩ hQ7
                · skip
                  refine za rfl (oR 1 rfl (oP rfl (zbo rfl rfl (decide_eq_true hg8)) (oR 2 rfl (oG rfl (zV rfl rfl (decide_eq_false hg9)) (oR 6 rfl (ze rfl ?_))))))
                  exact PD.sub ((31, dB ((decide (name = (⟨#[113, 117, 97, 110, 116, 105, 108, 101]⟩ : ByteArray)) && decide ((0 : Int) ≤ n)) && decide (n ≤ (100 : Int)))) :: [(0, .s name), (1, dI n), (4, .v .nilIface)]) ⟨sc rfl (Cv.eq (congrArg (fun b => D.v (.bool b)) (by first | (simp [hc4, hc5, hc6, hg8, hg9]; done) | (simp_all; done)))), sk rfl, sk rfl, sk rfl, trivial⟩ hQ7
              · skip
                refine za rfl (oR 1 rfl (oP rfl (zbo rfl rfl (decide_eq_false hg8)) (oR 9 rfl (ze rfl ?_))))
                exact PD.sub ((31, dB ((decide (name = (⟨#[113, 117, 97, 110, 116, 105, 108, 101]⟩ : ByteArray)) && decide ((0 : Int) ≤ n)) && decide (n ≤ (100 : Int)))) :: [(0, .s name), (1, dI n), (4, .v .nilIface)]) ⟨sc rfl (Cv.eq (congrArg (fun b => D.v (.bool b)) (by first | (simp [hc4, hc5, hc6, hg8]; done) | (simp_all; done)))), sk rfl, sk rfl, sk rfl, trivial⟩ hQ7
            · skip
              refine zb ?_
              refine jC rfl (fun hc10 => ?_) (fun hc10 => ?_)
              · simp only [bA, bB, bC, bD, bE, bF, bG, bH, bI, bJ] at hc10
                refine jT rfl (oR 1 rfl (oP rfl (za2 [0] [.tmp 42] (zv := (.agg #[(.int .i64 0)])) rfl rfl (.cons (CellD.v rfl) .nil) (Tryz.runUnderlying161) Tryz.zeroValue161 bd_161 ⟨rfl, trivial⟩ rfl) (oP rfl (zce rfl (fun _ _ => by kernel_rfl)) (oR 1 rfl (oZ rfl (zm rfl (zf (zd ?_))))))))
                exact zl Tryz.results98 (.cons (zx (zh rfl) (Cv.eq (congrArg wayD (show (some (.rank n)) = wayO name n from (by unfold wayO; (repeat' split) <;> first | rfl | (simp_all; done) | (exfalso; simp_all; omega)))))) .nil) rfl HSub.none ⟨rfl, rfl⟩
              · simp only [bA, bB, bC, bD, bE, bF, bG, bH, bI, bJ] at hc10
                refine jS rfl (jk [0, 1, 4] rfl ?_)
                refine zal 45 (((decide (name = (⟨#[116, 111, 112, 107]⟩ : ByteArray)) && decide ((1 : Int) ≤ n)) && decide (n ≤ (2000 : Int)))) [] (fun _ hQ11 => ?_) ?_
                · skip
                  by_cases hg12 : name = (⟨#[116, 111, 112, 107]⟩ : ByteArray)
                  · skip
                    by_cases hg13 : (1 : Int) ≤ n
                    · skip
                      refine za rfl (oR 1 rfl (oP rfl (zbo rfl rfl (decide_eq_true hg12)) (oR 2 rfl (oG rfl (zV rfl rfl (decide_eq_true hg13)) (oR 3 rfl (oG rfl (zaA rfl rfl rfl) (oR 2 rfl (ze rfl ?_))))))))
                      exact PD.sub ((45, dB ((decide (name = (⟨#[116, 111, 112, 107]⟩ : ByteArray)) && decide ((1 : Int) ≤ n)) && decide (n ≤ (2000 : Int)))) :: [(0, .s name), (1, dI n), (4, .v .nilIface)]) ⟨sc rfl (Cv.eq (congrArg (fun b => D.v (.bool b)) (by first | (simp [hc4, hc5, hc6, hg12, hg13]; done) | (simp_all; done)))), sk rfl, sk rfl, sk rfl, trivial⟩ hQ11
                    · skip
                      refine za rfl (oR 1 rfl (oP rfl (zbo rfl rfl (decide_eq_true hg12)) (oR 2 rfl (oG rfl (zV rfl rfl (decide_eq_false hg13)) (oR 6 rfl (ze rfl ?_))))))
                      exact PD.sub ((45, dB ((decide (name = (⟨#[116, 111, 112, 107]⟩ : ByteArray)) && decide ((1 : Int) ≤ n)) && decide (n ≤ (2000 : Int)))) :: [(0, .s name), (1, dI n), (4, .v .nilIface)]) ⟨sc rfl (Cv.eq (congrArg (fun b => D.v (.bool b)) (by first | (simp [hc4, hc5, hc6, hg12, hg13]; done) | (simp_all; done)))), sk rfl, sk rfl, sk rfl, trivial⟩ hQ11
                  · skip
                    refine za rfl (oR 1 rfl (oP rfl (zbo rfl rfl (decide_eq_false hg12)) (oR 9 rfl (ze rfl ?_))))
                    exact PD.sub ((45, dB ((decide (name = (⟨#[116, 111, 112, 107]⟩ : ByteArray)) && decide ((1 : Int) ≤ n)) && decide (n ≤ (2000 : Int)))) :: [(0, .s name), (1, dI n), (4, .v .nilIface)]) ⟨sc rfl (Cv.eq (congrArg (fun b => D.v (.bool b)) (by first | (simp [hc4, hc5, hc6, hg12]; done) | (simp_all; done)))), sk rfl, sk rfl, sk rfl, trivial⟩ hQ11
                · skip
                  refine zb ?_
                  refine jC rfl (fun hc14 => ?_) (fun hc14 => ?_)
                  · simp only [bA, bB, bC, bD, bE, bF, bG, bH, bI, bJ] at hc14
                    refine jT rfl (oR 1 rfl (oP rfl (za2 [0] [.tmp 56] (zv := (.agg #[(.int .i64 0)])) rfl rfl (.cons (CellD.v rfl) .nil) (Tryz.runUnderlying105) Tryz.zeroValue105 bd_105 ⟨rfl, trivial⟩ rfl) (oP rfl (zce rfl (fun _ _ => by kernel_rfl)) (oR 1 rfl (oZ rfl (zm rfl (zf (zd ?_))))))))
                    exact zl Tryz.results98 (.cons (zx (zh rfl) (Cv.eq (congrArg wayD (show (some (.top n)) = wayO name n from (by unfold wayO; (repeat' split) <;> first | rfl | (simp_all; done) | (exfalso; simp_all; omega)))))) .nil) rfl HSub.none ⟨rfl, rfl⟩
                  · simp only [bA, bB, bC, bD, bE, bF, bG, bH, bI, bJ] at hc14
                    refine zj rfl (zp (zb (jT rfl (oR 1 rfl (oZ rfl (zm rfl ?_))))))
                    exact zl Tryz.results98 (.cons (zx (zh rfl) (Cv.eq (congrArg wayD (show none = wayO name n from (by unfold wayO; (repeat' split) <;> first | rfl | (simp_all; done) | (exfalso; simp_all; omega)))))) .nil) rfl HSub.none ⟨rfl, rfl⟩
end Lp
/-
  NUMBERS OF THE CALL's OWN, SORTED BY THE LIBRARY (slices.Sort at int).
-/
set_option linter.unusedVariables false
namespace Lp
open Go Go.RowKit Go.Sort
theorem repI {w : World} {F : Nat → Prop} : ∀ {l : List Int} {us : List Value}, RepE w F 1 (l.map (fun n => D.v (.int .i64 n))) us → us = l.map (Value.int .i64)
  | [], us, h => h
  | x :: l, us, ⟨u, t, e, h1, _, _, h2⟩ => by rw [e, show u = Value.int .i64 x from h1, repI h2]; rfl
theorem repI_mk {w : World} {F : Nat → Prop} : ∀ (l : List Int), RepE w F 1 (l.map (fun n => D.v (.int .i64 n))) (l.map (Value.int .i64))
  | [] => rfl
  | x :: l => ⟨_, _, rfl, rfl, One.one rfl, rfl, repI_mk l⟩
theorem flatI (l : List Int) : (l.map (Value.int .i64)).flatMap vcs = l.map (Value.int .i64) := by
  induction l with
  | nil => rfl
  | cons x l ih => rw [List.map_cons, List.flatMap_cons, ih]; rfl
abbrev SortInt (P : Program) (f : FuncId) : Prop := ∀ (blk off cap : Nat) (zs : List Int) (w : World), Holds (Value.int .i64) w blk off zs.toArray → blk < w.heap.size → zs.length < 4611686018427387904 →
  Calls P f #[.slice (some ⟨blk, off, none⟩) zs.length cap] w fun e w' => e = .returned (.tuple #[]) ∧ ∃ n os, w' = grow (putRow (Value.int .i64) (Sort.ahead w n) blk off (zs.mergeSort fun x y => decide (x ≤ y)).toArray) os
theorem sortI_cd {P : Program} {f : FuncId} (hS : SortInt P f) (v : Value) (T : TypeId) (l : List Int) (h0 : 0 < l.length) (hl : l.length ≤ 1000000) :
    CD P f [.sl v 1 T (l.map (fun n => D.v (.int .i64 n)))] [.ov v] (fun r H' => r = .tup [] ∧ H' = [.sl v 1 T ((srtI l).map (fun n => D.v (.int .i64 n)))]) := by
  refine ⟨fun w F vs hr hF hH => ?_⟩
  obtain ⟨u, us', rfl, ⟨rfl, hu1⟩, hr'⟩ := hr
  obtain rfl : us' = [] := hr'
  have gd := Good.start hF hH
  obtain ⟨us, hu, ho⟩ := hH.ok _ List.mem_cons_self
  obtain rfl := repI hu
  have ho1 := ho.1
  rw [flatI, List.length_map] at ho1
  rcases ho1.2 with ⟨_, hz⟩ | ⟨g, cap, cur, hv, hb, hg, hnc, hmx, hsz, htake⟩
  · omega
  subst hv
  rw [Nat.mul_one] at htake
  have hlt : g < w.heap.size := (Array.getElem?_eq_some_iff.1 hg).1
  refine (hS g 0 cap l w (holds_of_blockI hg htake) hlt (by omega)).mono fun e w' he => ?_
  obtain ⟨rfl, n, os, rfl⟩ := he
  have hgb := grownBy_sortedI (w := w) (g := g) (n := n) (os := os) (srtI l).toArray
  have U : Upd g (g + 1) w (grow (putRow (Value.int .i64) (Sort.ahead w n) g 0 (srtI l).toArray) os) := ⟨hgb.os, hgb.tape, hgb.output, hgb.size, fun k hk hh => hgb.block k hk (fun e => by injection e with e; omega), Nat.le_add_right _ _⟩
  have hown := ownsRow_sortedI (w := w) (base := 0) (g := g) (cap := cap) (n := n) (e := T) (os := os) (cur := cur) (ss := l) (ts := srtI l) (srtI_len l) (Nat.zero_le _) hg hnc hmx hsz
  have key := gd.row (i := 0) (v' := .slice (some ⟨g, 0, none⟩) l.length cap) (xs' := (srtI l).map (fun n => D.v (.int .i64 n))) rfl rfl rfl U (fun kp => ⟨_, repI_mk _, by
    refine ⟨?_, fun x hx => ?_⟩
    · rw [flatI, List.length_map, srtI_len]; exact hown
    · obtain ⟨y, _, rfl⟩ := List.mem_map.1 hx; rfl⟩)
  exact ⟨_, rfl, F, _, _, ⟨rfl, rfl⟩, ⟨[], rfl, rfl⟩, key.1⟩
end Lp
