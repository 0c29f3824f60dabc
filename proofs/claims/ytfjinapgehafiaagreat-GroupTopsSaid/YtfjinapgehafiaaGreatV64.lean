/- Walks, printed by a program of mine. -/
import Derived.ProofKit
import Derived.OpenShut
import Derived.Stop.Joined
import Derived.Test.YtfjinapgehafiaaGreatV77
set_option linter.unusedSimpArgs false
set_option linter.unusedVariables false
set_option maxHeartbeats 4000000
set_option maxRecDepth 100000
namespace Lp
open Go Go.RowKit Go.Proofs

namespace HdYtfjinapgehafiaaGreatV78
theorem fa_105_0 (b o : Nat) : ∀ w, (Instr.fieldAt 105 (.pointer (some ⟨b, o, none⟩)) 0).run Tryz.prog w = .ok (.pointer (some ⟨b, o + 0, none⟩)) w := fun _ => by kernel_rfl
theorem zaO : ∃ i, Tryz.prog.info? 53 = some i ∧ i.zero = some (.agg #[(.slice none 0 0), (.int .i64 0)]) ∧ i.size = 2 ∧ i.bytes = 32 := za3 (by kernel_rfl)
theorem zbf : Tryz.prog.underlying 22 = some (.slice 53) := by kernel_rfl
end HdYtfjinapgehafiaaGreatV78
open HdYtfjinapgehafiaaGreatV78

theorem drop_at' {α β : Type} {G : List α} {k : Nat} {x : α} {gs : List β} {f : α → β} (h : (G.drop k).map f = gs.drop k) (hx : G[k]? = some x) : gs[k]? = some (f x) := by
  have h2 := congrArg (fun m => m[0]?) h
  simp only [List.getElem?_map, List.getElem?_drop, Nat.add_zero, hx] at h2
  exact h2.symm
theorem set_v {G : List (Kp RowD)} {k : Nat} {x : Kp RowD} {l : List RowD} (hx : G[k]? = some x) : (G.set k ⟨x.v, l⟩).map Kp.d = G.map Kp.d := by
  rw [List.map_set]
  exact tl_same (x := Kp.d x) (by rw [List.getElem?_map, hx]; rfl)
theorem top_take {n : Int} {x l : List RowD} (hn : 0 ≤ n) (hl : x.length = l.length) : ((x.take (min n ((x.length : Nat) : Int)).toNat).drop 0) = x.take (min n.toNat l.length) := by
  rw [List.drop_zero]; congr 1; omega
theorem gt_bad {n : Int} {mode : Int} {names : List ByteArray} {l : List RowD} (h : zT l = false) : [] = gtL n mode names l ∧ 1 = gtE n mode names l := by unfold gtL gtE; rw [if_neg (by rw [h]; simp), if_neg (by rw [h]; simp)]; exact ⟨rfl, rfl⟩
theorem gt_ok {n : Int} {mode : Int} {names : List ByteArray} {l : List RowD} (h : zT l = true) {k : Nat} (hk : (zu mode names l).length ≤ k) : rtL (topR n ((zu mode names l).take k)) = gtL n mode names l ∧ rtE (topR n ((zu mode names l).take k)) = gtE n mode names l := by
  rw [List.take_of_length_le hk]; unfold gtL gtE; rw [if_pos h, if_pos h]; exact ⟨rfl, rfl⟩
theorem topR_len {n : Int} {gs : List (List RowD)} : (topR n gs).length ≤ gs.flatten.length := by
  unfold topR
  induction gs with
  | nil => simp
  | cons g gs ih => simp only [List.flatMap_cons, List.flatten_cons, la, lt']; have := zbL (c := grC) _ g rfl; omega
theorem flat_ins {κ : RowD → List Lbl} {r : RowD} : ∀ gs : List (List RowD), (insG κ gs r).flatten.length = gs.flatten.length + 1
  | [] => rfl
  | g :: gs => by
    unfold insG; split
    · simp only [List.flatten_cons, la, flat_ins gs]; omega
    · split <;> simp only [List.flatten_cons, la, lc, ln] <;> omega
theorem flat_split {κ : RowD → List Lbl} (l : List RowD) : (zaT κ l).flatten.length = l.length := by
  unfold zaT
  have : ∀ s : List (List RowD), (l.foldl (insG κ) s).flatten.length = s.flatten.length + l.length := by
    induction l with
    | nil => intro s; simp
    | cons x l ih => intro s; rw [List.foldl_cons, ih, flat_ins]; simp only [lc]; omega
  simpa using this []
theorem take_flat {α : Type} (gs : List (List α)) (k : Nat) : (gs.take k).flatten.length ≤ gs.flatten.length := by
  have h : gs = gs.take k ++ gs.drop k := (List.take_append_drop k gs).symm
  have := congrArg (fun m => m.flatten.length) h
  simp only [List.flatten_append, la] at this
  omega
abbrev SortG (N : Nat) : Prop := ∀ (v : Value) (l : List RowD), l.length ≤ N → CD Tryz.prog 100 [.sl v 2 53 (l.map RowD.d)] [.ov v, .fn 101 [] []] (fun r H' => r = .tup [] ∧ H' = [.sl v 2 53 ((zt grC l).map RowD.d)])
theorem sortG12 : SortG 12 := fun v l h => sortG_c v l h

theorem gs_le {mode : Int} {names : List ByteArray} {l : List RowD} {k : Nat} {g : List RowD} (hg : zT l = true) (hx : (zu mode names l)[k]? = some g) : g.length ≤ l.length := by
  unfold zu at hx; rw [if_pos hg] at hx
  exact splitG_rows (κ := kapB mode names) l g (zae hx)

theorem nil_2 {a : Hp} {T : List Hp} {z : Nat} {t : TypeId} : HSub ([a] ++ T) ([a, .sl (.slice none 0 0) z t []] ++ T) := (HSub.nil z t).trans (HSub.perm (List.Perm.swap _ _ _))
theorem drop3 {a b c : Hp} {T : List Hp} : HSub (a :: b :: c :: T) (a :: b :: T) := HSub.less (((List.sublist_cons_self c T).cons_cons b).cons_cons a)
theorem drop_next {α β : Type} {G : List α} {k : Nat} {gs : List β} {f : α → β} (h : (G.drop k).map f = gs.drop k) : (G.drop (k + 1)).map f = gs.drop (k + 1) := by
  have := congrArg (List.drop 1) h
  rwa [← List.map_drop, List.drop_drop, List.drop_drop] at this

theorem doT_c (name : ByteArray) (n : Int) (mode : Int) (names : List ByteArray) (l : List RowD) (N : Nat) (hS : SortG N) (hN : l.length ≤ N) (hw : wayO name n = some (.top n)) (hn : 1 ≤ n) (hl : l.length ≤ 1000000) :
    CD Tryz.prog 31 [] [.s name, dI n, dI mode, .sh 1 (names.map D.s), .sh 2 (l.map RowD.d)] (fun r H' => ∃ v0_, r = .tup [.ov v0_, dI (gtE n mode names l)] ∧ H' = [.sl v0_ 2 53 ((gtL n mode names l).map RowD.d)]) := by
  refine zq Tryz.func31 rfl (N := 87) rfl rfl (fun C => ?_)
  refine jk [0, 1, 2, 3, 4] rfl ?_
  refine JD.bd 0 rfl (fun bd0 => ?_)
  have sz0 : name.size ≤ 9223372036854775807 := bd0
  refine JD.bd 3 rfl (fun bd3 => ?_)
  have nl3 := zS bd3
  refine JD.bd 4 rfl (fun bd4 => ?_)
  have nl4 := zS bd4
  have hag := way_agg hw
  refine jT rfl (oR 2 rfl (oZ rfl (jT rfl (oR 2 rfl (oW rfl rfl acs Tryz.call98 (way_of name n hw) (oR 1 rfl (oZ rfl (jS rfl (jS rfl (jk [0, 2, 3, 4, 10, 11, 12] rfl ?_))))))))))
  refine zal 34 (!(zT l)) [] (fun _ hQ1 => ?_) ?_
  · skip
    refine za rfl (oR 1 rfl (oP rfl (p_way_nil (w := .top n) rfl rfl rfl) (oR 2 rfl (oV rfl rfl acs Tryz.call99 (Agg_c name) (os 27 rfl (congrArg (fun b => D.v (.bool b)) hag) (oR 4 rfl (oV rfl rfl acs Tryz.call26 (vRight_c l) (oG rfl (zbc rfl) (oR 1 rfl (ze rfl ?_))))))))))
    exact PD.sub ((34, dB (!(zT l))) :: [(0, .s name), (2, dI mode), (3, .sh 1 (names.map D.s)), (4, .sh 2 (l.map RowD.d)), (10, dZ), (11, dI 0), (12, .ifc 105 (.agg [dI n]))]) ⟨sc rfl (Cv.eq (congrArg (fun b => D.v (.bool b)) (by first | (simp [hag]; done) | (simp_all; done)))), sk rfl, sk rfl, sk rfl, sk rfl, sk rfl, sk rfl, sk rfl, trivial⟩ hQ1
  · skip
    refine zb ?_
    refine jC rfl (fun hc2 => ?_) (fun hc2 => ?_)
    · simp only [bA, bB, bC, bD, bE, bF, bG, bH, bI, bJ] at hc2
      have hbd : zT l = false := by simpa using hc2
      refine jT rfl (oR 2 rfl (oZ rfl (zm rfl (zd (PD.subH (HSub.nil 2 53) (PD.norm [.sl (.slice none 0 0) 2 53 ((gtL n mode names l).map RowD.d)] (by have hw : [] = gtL n mode names l := (by first | exact (gt_bad hbd).1 | exact (gt_bad hbd).2); rw [show ([] : List D) = List.map RowD.d (gtL n mode names l) from congrArg (List.map RowD.d) hw]) ?_))))))
      exact zl Tryz.results31 (.cons (zx (zh rfl) (Cv.ov rfl)) (.cons (zx (zh rfl) (Cv.eq (congrArg (fun n => D.v (.int .i64 n)) (by first | exact (gt_bad hbd).1 | exact (gt_bad hbd).2)))) .nil)) rfl (HSub.fst 1 rfl) ⟨(.slice none 0 0), rfl, rfl⟩
    · simp only [bA, bB, bC, bD, bE, bF, bG, bH, bI, bJ] at hc2
      have hgd : zT l = true := by simpa using hc2
      have hvl := (zay.1 hgd).1
      refine zj rfl (zb (jT rfl (oR 1 rfl (oZ rfl (jS rfl (jT rfl (oR 3 rfl (oE rfl (zN [] [] [] rfl rfl acs zz Tryz.call33 (split_c mode names l (by omega)) (.inl rfl)) ?_))))))))
      rintro _ _ ⟨_, ⟨v0, G, rfl, rfl, hG⟩, rfl⟩
      refine OpsD.norm ([.sl v0 1 22 (G.map Kp.d)] ++ (G.map RH)) (by rw [List.append_nil]) ?_
      have hGn : G.length ≤ 2000 := by have h := gs_len (mode := mode) (names := names) hgd; rw [← hG, List.length_map] at h; exact h
      refine oP rfl (zU (n := G.length) (j := 0) rfl rfl Tryz.runUnderlying36 (List.length_map _)) (oR 1 rfl (oZ rfl (jB rfl (jl4 (fun (a_ : Nat) (b_ : Value) (c_ : List RowD) (d_ : List (Kp RowD)) => [(2, dI mode), (3, .sh 1 (names.map D.s)), (12, .ifc 105 (.agg [dI n])), (38, .ov v0), (39, dN G.length), (40, dN a_), (13, .ov b_)]) (fun a_ b_ c_ d_ => ([.sl v0 1 22 (d_.map Kp.d), .sl b_ 2 53 (c_.map RowD.d)] ++ (d_.map RH))) (fun a_ b_ c_ d_ => (a_ ≤ G.length) ∧ (d_.length = G.length) ∧ ((d_.drop a_).map (·.l) = (zu mode names l).drop a_) ∧ (c_ = topR n ((zu mode names l).take a_))) (fun a_ b_ c_ d_ => G.length - a_) 0 (.slice none 0 0) [] G rfl ⟨sk rfl, sk rfl, sk rfl, sk rfl, sk rfl, sk rfl, sc rfl (Cv.ov rfl), trivial⟩ nil_2 ⟨Nat.zero_le _, rfl, by rw [List.drop_zero, List.drop_zero]; exact hG, rfl⟩ ?_))))
      rintro k ov o G2 ⟨hkl, hGl, hGd, ho⟩
      refine ja rfl ?_
      refine JD.norm ([.sl v0 1 22 (G2.map Kp.d), .sl ov 2 53 (o.map RowD.d)] ++ (G2.map RH)) rfl ?_
      have hol : o.length ≤ 2000 := by have h1 := @topR_len n ((zu mode names l).take k); have h2 := take_flat (zu mode names l) k; have h3 := flat_split (κ := kapB mode names) l; rw [← ho] at h1; rw [show (zu mode names l) = zaT (kapB mode names) l from if_pos hgd] at h1 h2; omega
      refine jT rfl (oP rfl (zQ rfl rfl rfl) (oZ rfl (jS rfl ?_)))
      refine jD rfl (fun hc3 => ?_) (fun hc3 => ?_)
      · skip
        refine zj rfl (zb (jS rfl (jB rfl (jT rfl ?_))))
        obtain ⟨x1, hx1⟩ := zy G2 k (by omega)
        refine oP rfl (zi (k := k) (j := 0) rfl rfl rfl Tryz.runUnderlying36 Tryz.sizeOf22 (by first | rfl | omega) (zg hx1)) (oP rfl (z8 rfl (i := 0) rfl (zg hx1) Tryz.isAgg22 rfl) (oR 1 rfl (oZ rfl (jS rfl (jT rfl (oR 1 rfl (oP rfl (p_assert_t rfl (fun _ _ => by kernel_rfl)) (oR 3 rfl (oE rfl (zar (zv := (.agg #[(.int .i64 0)])) Tryz.zeroValue105 ⟨rfl, trivial⟩ (Cv.vagg (by decide))) ?_)))))))))
        rintro _ _ ⟨g4, rfl, rfl⟩
        refine oE rfl (zY (i := 0) (X' := .agg [dI n]) rfl rfl rfl (CellD.agg) Tryz.sizeOf105 rfl rfl rfl) ?_
        rintro _ _ ⟨rfl, rfl⟩
        refine OpsD.norm ([.bx g4 105 (.agg [dI n]), .sl v0 1 22 (G2.map Kp.d), .sl ov 2 53 (o.map RowD.d)] ++ (G2.map RH)) rfl ?_
        refine oR 1 rfl (oZ rfl (jT rfl (oR 1 rfl (oZ rfl (jCt rfl (jT rfl (oR 1 rfl (OpsD.subH (tl_out (A := [.bx g4 105 (.agg [dI n]), .sl v0 1 22 (G2.map Kp.d), .sl ov 2 53 (o.map RowD.d)]) (h := RH) (G := G2) hx1) ?_))))))))
        refine OpsD.norm ([.sl x1.v 2 53 (x1.l.map RowD.d), .bx g4 105 (.agg [dI n]), .sl v0 1 22 (G2.map Kp.d), .sl ov 2 53 (o.map RowD.d)] ++ ((G2.eraseIdx k).map RH)) rfl ?_
        have hgk := drop_at' hGd hx1
        have hgx := gs_facts hgd hgk
        have hgl2 := gs_le hgd hgk
        refine oE rfl (zN [.sl x1.v 2 53 (x1.l.map RowD.d)] ([.bx g4 105 (.agg [dI n]), .sl v0 1 22 (G2.map Kp.d), .sl ov 2 53 (o.map RowD.d)] ++ ((G2.eraseIdx k).map RH)) [] rfl rfl acs zz Tryz.call100 (hS x1.v x1.l (by omega)) (.inl rfl)) ?_
        rintro _ _ ⟨_, ⟨rfl, rfl⟩, rfl⟩
        refine OpsD.norm ([.sl x1.v 2 53 ((zt grC x1.l).map RowD.d), .bx g4 105 (.agg [dI n]), .sl v0 1 22 (G2.map Kp.d), .sl ov 2 53 (o.map RowD.d)] ++ ((G2.eraseIdx k).map RH)) rfl ?_
        have hil := zbL (c := grC) _ x1.l rfl
        refine oZ rfl (jT rfl (oR 2 rfl (oP rfl (zw rfl fa_105_0 rfl) (oP rfl (zK rfl (i := 1) rfl Tryz.isAgg3 rfl) (oR 1 rfl (oP rfl (zU (n := (zt grC x1.l).length) (j := 0) rfl rfl Tryz.runUnderlying22 (List.length_map _)) (oP rfl (p_min rfl rfl rfl) (oP rfl (zan (a := 0) (b := ((min n (((zt grC x1.l).length : Nat) : Int))).toNat) (j := 0) rfl rfl rfl rfl (by first | rfl | (show _ = _; (try simp only [lm]); omega) | exact List.length_map _) (by first | rfl | (show _ = _; (try simp only [lm]); omega) | exact List.length_map _) Tryz.runUnderlying22 Tryz.sizeOf53 (by omega) (by (try simp only [lm, la, lc, ln]); first | omega | decide)) (oE rfl (zac (f := RowD.d) (l := o) (l' := (((zt grC x1.l).take (((min n (((zt grC x1.l).length : Nat) : Int))).toNat)).drop 0)) (i := 3) rfl rfl rfl ((by rw [List.map_drop, List.map_take]; exact SrcD.cut (j := 0) rfl (by omega) (by (try simp only [lm]); omega))) zbf zaO rfl rfl (by unfold maxLen; (try simp only [la, lc, ln, lm, lt', ld, ls, lr]); omega) (by (try simp only [la, lc, ln, lm, lt', ld, ls, lr]); omega)) ?_)))))))))
        rintro _ _ ⟨v5, rfl, rfl⟩
        refine OpsD.norm ([.sl x1.v 2 53 ((zt grC x1.l).map RowD.d), .bx g4 105 (.agg [dI n]), .sl v0 1 22 (G2.map Kp.d), .sl v5 2 53 ((o ++ (((zt grC x1.l).take (((min n (((zt grC x1.l).length : Nat) : Int))).toNat)).drop 0)).map RowD.d)] ++ ((G2.eraseIdx k).map RH)) rfl ?_
        refine oR 1 rfl (oZ rfl (zL rfl (zo (zk (zb (za rfl (oP rfl (zO (c := ((k + 1 : Nat) : Int)) rfl rfl (zB (by omega) (by omega))) (oR 1 rfl (ze rfl (PD.subH (HSub.perm (z2 (i := 1) rfl)) ?_))))))))))
        refine PD.norm ([.bx g4 105 (.agg [dI n]), .sl x1.v 2 53 ((zt grC x1.l).map RowD.d), .sl v0 1 22 (G2.map Kp.d), .sl v5 2 53 ((o ++ (((zt grC x1.l).take (((min n (((zt grC x1.l).length : Nat) : Int))).toNat)).drop 0)).map RowD.d)] ++ ((G2.eraseIdx k).map RH)) rfl ?_
        refine PD.subH (HSub.perm (z2 (i := 3) rfl)) ?_
        refine PD.norm ([.sl v5 2 53 ((o ++ (((zt grC x1.l).take (((min n (((zt grC x1.l).length : Nat) : Int))).toNat)).drop 0)).map RowD.d), .bx g4 105 (.agg [dI n]), .sl x1.v 2 53 ((zt grC x1.l).map RowD.d), .sl v0 1 22 (G2.map Kp.d)] ++ ((G2.eraseIdx k).map RH)) rfl ?_
        refine PD.subH (HSub.perm (z2 (i := 3) rfl)) ?_
        refine PD.norm ([.sl v0 1 22 (G2.map Kp.d), .sl v5 2 53 ((o ++ (((zt grC x1.l).take (((min n (((zt grC x1.l).length : Nat) : Int))).toNat)).drop 0)).map RowD.d), .bx g4 105 (.agg [dI n]), .sl x1.v 2 53 ((zt grC x1.l).map RowD.d)] ++ ((G2.eraseIdx k).map RH)) rfl ?_
        refine PD.subH (HSub.perm (z2 (i := 3) rfl)) ?_
        refine PD.norm ([.sl x1.v 2 53 ((zt grC x1.l).map RowD.d), .sl v0 1 22 (G2.map Kp.d), .sl v5 2 53 ((o ++ (((zt grC x1.l).take (((min n (((zt grC x1.l).length : Nat) : Int))).toNat)).drop 0)).map RowD.d), .bx g4 105 (.agg [dI n])] ++ ((G2.eraseIdx k).map RH)) rfl ?_
        refine PD.subH (tl_in (A := [.sl v0 1 22 (G2.map Kp.d), .sl v5 2 53 ((o ++ (((zt grC x1.l).take (((min n (((zt grC x1.l).length : Nat) : Int))).toNat)).drop 0)).map RowD.d), .bx g4 105 (.agg [dI n])]) (h := RH) (G := G2) (y := (Kp.mk x1.v (zt grC x1.l))) hx1) (PD.subH drop3 ?_)
        refine PD.norm ([.sl v0 1 22 ((G2.set k (Kp.mk x1.v (zt grC x1.l))).map Kp.d), .sl v5 2 53 ((o ++ (((zt grC x1.l).take (((min n (((zt grC x1.l).length : Nat) : Int))).toNat)).drop 0)).map RowD.d)] ++ ((G2.set k (Kp.mk x1.v (zt grC x1.l))).map RH)) (by rw [set_v hx1]; rfl) ?_
        exact pl4 (k + 1) v5 (o ++ (((zt grC x1.l).take (((min n (((zt grC x1.l).length : Nat) : Int))).toNat)).drop 0)) (G2.set k (Kp.mk x1.v (zt grC x1.l))) (sa rfl) HSub.rfl' ⟨by show k + 1 ≤ G.length; omega, by rw [List.length_set]; exact hGl, by rw [List.drop_set_of_lt (by omega)]; exact drop_next hGd, by rw [ho, topR_snoc hgk]; congr 1; exact top_take (by omega) hil⟩ (by omega)
      · skip
        refine zL rfl (zo (zn (zk (zb (jS rfl (JD.mv (Mv.subH (HSub.perm (z2 (i := 1) rfl))) ?_))))))
        refine JD.norm ([.sl ov 2 53 (o.map RowD.d), .sl v0 1 22 (G2.map Kp.d)] ++ (G2.map RH)) rfl ?_
        refine JD.mv (Mv.freeze (K' := [(2, dI mode), (3, .sh 1 (names.map D.s)), (12, .ifc 105 (.agg [dI n])), (13, .sh 2 (o.map RowD.d)), (38, .ov v0), (39, dN G.length), (40, dN k), (41, dB (decide (((k : Nat) : Int) < ((G.length : Nat) : Int))))]) [.sl ov 2 53 (o.map RowD.d)] (H1 := ([.sl v0 1 22 (G2.map Kp.d)] ++ (G2.map RH))) (H1' := ([.sl v0 1 22 (G2.map Kp.d)] ++ (G2.map RH))) ⟨⟨_, rfl, ArgC.id⟩, ⟨_, rfl, ArgC.id⟩, ⟨_, rfl, ArgC.id⟩, ⟨_, rfl, ArgC.own (j := 0) rfl rfl⟩, ⟨_, rfl, ArgC.id⟩, ⟨_, rfl, ArgC.id⟩, ⟨_, rfl, ArgC.id⟩, ⟨_, rfl, ArgC.id⟩, trivial⟩ (.same HL.refl)) (za rfl (oR 1 rfl (oE rfl (zN [] _ [] rfl rfl (.cons ArgC.id .nil) zz Tryz.call14 (vTidy_c o) (.inl rfl)) ?_)))
        rintro _ _ ⟨_, ⟨v6, rfl, rfl⟩, rfl⟩
        refine OpsD.norm ([.sl v6 2 53 ((rtL o).map RowD.d), .sl v0 1 22 (G2.map Kp.d)] ++ (G2.map RH)) rfl ?_
        refine oR 4 rfl (oZ rfl (jk [10, 11] rfl (zm rfl ?_)))
        refine PD.norm ([.sl v6 2 53 ((gtL n mode names l).map RowD.d), .sl v0 1 22 (G2.map Kp.d)] ++ (G2.map RH)) (by have hw : rtL o = gtL n mode names l := (by first | (rw [ho]; exact (gt_ok hgd (by rw [← hG, List.length_map]; omega)).1) | (rw [ho]; exact (gt_ok hgd (by rw [← hG, List.length_map]; omega)).2)); rw [hw]) ?_
        exact zl Tryz.results31 (.cons (zh rfl) (.cons (zx (zh rfl) (Cv.eq (congrArg (fun n => D.v (.int .i64 n)) (by first | (rw [ho]; exact (gt_ok hgd (by rw [← hG, List.length_map]; omega)).1) | (rw [ho]; exact (gt_ok hgd (by rw [← hG, List.length_map]; omega)).2))))) .nil)) rfl (HSub.fst 1 rfl) ⟨v6, rfl, rfl⟩
end Lp
/- Walks, printed by a program of mine. -/
set_option linter.unusedSimpArgs false
set_option linter.unusedVariables false
set_option maxHeartbeats 4000000
set_option maxRecDepth 100000
namespace Lp
open Go Go.RowKit Go.Proofs

namespace HdYtfjinapgehafiaaGreatV63
theorem zcu : ∀ w, ((#[⟨"Labels", 50, 0, false, "", "", 0⟩, ⟨"V", 3, 1, false, "", "", 24⟩] : Array Field).mapM fun f => do pure (f.offset, ← Go.sizeOf f.type) : Sem (Array (Nat × Nat))).run Tryz.prog w = .ok ([(0, 1), (1, 1)] : List (Nat × Nat)).toArray w := fun _ => by kernel_rfl
theorem zad (b o : Nat) : ∀ w, (Instr.fieldAt 53 (.pointer (some ⟨b, o, none⟩)) 0).run Tryz.prog w = .ok (.pointer (some ⟨b, o + 0, none⟩)) w := fun _ => by kernel_rfl
theorem zam (b o : Nat) : ∀ w, (Instr.fieldAt 53 (.pointer (some ⟨b, o, none⟩)) 1).run Tryz.prog w = .ok (.pointer (some ⟨b, o + 1, none⟩)) w := fun _ => by kernel_rfl
theorem zaO : ∃ i, Tryz.prog.info? 53 = some i ∧ i.zero = some (.agg #[(.slice none 0 0), (.int .i64 0)]) ∧ i.size = 2 ∧ i.bytes = 32 := za3 (by kernel_rfl)
theorem zbf : Tryz.prog.underlying 22 = some (.slice 53) := by kernel_rfl
end HdYtfjinapgehafiaaGreatV63
open HdYtfjinapgehafiaaGreatV63

end Lp
/- Walks, printed by a program of mine. -/
set_option linter.unusedSimpArgs false
set_option linter.unusedVariables false
set_option maxHeartbeats 4000000
set_option maxRecDepth 100000
namespace Lp
open Go Go.RowKit Go.Proofs

namespace HdYtfjinapgehafiaaGreatV9
theorem zak (b o : Nat) : ∀ w, (Instr.fieldAt 62 (.pointer (some ⟨b, o, none⟩)) 0).run Tryz.prog w = .ok (.pointer (some ⟨b, o + 0, none⟩)) w := fun _ => by kernel_rfl
theorem zaC (b o : Nat) : ∀ w, (Instr.fieldAt 62 (.pointer (some ⟨b, o, none⟩)) 1).run Tryz.prog w = .ok (.pointer (some ⟨b, o + 1, none⟩)) w := fun _ => by kernel_rfl
end HdYtfjinapgehafiaaGreatV9
open HdYtfjinapgehafiaaGreatV9

end Lp
/-
  Maps with texts as keys: what is looked up, what is stored.
-/
set_option linter.unusedVariables false
namespace Lp
open Go Go.RowKit
variable {P : Program} {w : World} {t kt et : TypeId} {r clock : Nat} {es : Array MapEntry} {k : ByteArray}
theorem run_find (hk : P.underlying kt = some .string) (hs : ∀ x ∈ es.toList, ∃ b, x.key = .string b) :
    ((Instr.findKey kt (.string k) es.toList).run P w = .ok none w ∧ ∀ x ∈ es.toList, x.key ≠ .string k) ∨
    ∃ (j : Nat) (e : MapEntry), (Instr.findKey kt (.string k) es.toList).run P w = .ok (some (j, e.val)) w ∧ es.toList[j]? = some e ∧ e.key = .string k := by
  rcases MapKept.findNow_spec (d := .string) (k := .string k) trivial es.toList 0 (fun x hx => by obtain ⟨b, e⟩ := hs x hx; rw [e]; trivial) with ⟨h1, h2⟩ | ⟨j, e, h1, h2, h3⟩
  · exact .inl ⟨MapKept.run_findKey hk h1, h2⟩
  · rw [Nat.zero_add] at h1
    exact .inr ⟨j, e, MapKept.run_findKey hk h1, h2, h3⟩
/-- a look-up that only asks for what stands there -/
theorem run_look0 {z : Value} (ht : P.underlying t = some (.map kt et)) (hk : P.underlying kt = some .string) (hz : (zeroValue et).run P w = .ok z w) (hr : w.heap[r]? = some (.map es clock)) (hs : ∀ x ∈ es.toList, ∃ b, x.key = .string b) :
    ((Instr.lookup t (.map (some r)) (.string k) false).run P w = .ok z w ∧ ∀ x ∈ es.toList, x.key ≠ .string k) ∨
    ∃ (j : Nat) (e : MapEntry), (Instr.lookup t (.map (some r)) (.string k) false).run P w = .ok e.val w ∧ es.toList[j]? = some e ∧ e.key = .string k := by
  have hc : ∀ b, (Instr.checkKey b 10000 kt (.string k)).run P w = .ok () w := fun b => MapKept.run_checkKey (k := .string k) hk trivial b 9999
  rcases run_find (w := w) (k := k) hk hs with ⟨h1, h2⟩ | ⟨j, e, h1, h2, h3⟩
  · refine .inl ⟨?_, h2⟩
    unfold Instr.lookup
    simp [run_underlying ht, run_getObj_map _ _ _ _ hr, hc, h1, hz]
  · refine .inr ⟨j, e, ?_, h2, h3⟩
    unfold Instr.lookup
    simp [run_underlying ht, run_getObj_map _ _ _ _ hr, hc, h1]
/-- what is stored under a key that there is not -/
theorem run_put {v : Value} (ht : P.underlying t = some (.map kt et)) (hk : P.underlying kt = some .string) (hr : w.heap[r]? = some (.map es clock)) (hs : ∀ x ∈ es.toList, ∃ b, x.key = .string b) (hn : ∀ x ∈ es.toList, x.key ≠ .string k) :
    (Instr.mapUpdate t (.map (some r)) (.string k) v).run P w = .ok () { w with heap := w.heap.setIfInBounds r (.map (es.push ⟨.string k, v, clock⟩) (clock + 1)) } := by
  have hc : ∀ b, (Instr.checkKey b 10000 kt (.string k)).run P w = .ok () w := fun b => MapKept.run_checkKey (k := .string k) hk trivial b 9999
  rcases run_find (w := w) (k := k) hk hs with ⟨h1, h2⟩ | ⟨j, e, h1, h2, h3⟩
  · unfold Instr.mapUpdate
    simp [run_underlying ht, run_getObj_map _ _ _ _ hr, hc, h1, MapKept.run_setObj_map _ hr]
  · exact absurd h3 (hn e (List.mem_of_getElem? h2))
end Lp
/-
  Maps of the call's own, with texts as keys, over data.
-/
set_option linter.unusedVariables false
namespace Lp
open Go Go.RowKit
variable {P : Program} {ty : TypeId} {K : Kd} {H : List Hp}
theorem ef_makeMap {t : TypeId} : Ef P (.makeMap t none) ty K H (fun d H' => ∃ g, d = .v (.map (some g)) ∧ H' = .mp g [] [] :: H) :=
  ⟨fun C ρ w F hk gd => by
    refine EOp.of_run (v := .map (some w.heap.size)) (w' := w.alloc (.map #[] 0)) ?_ ?_
    · have h := zbt (run_makeMap (P := P) t w)
      simpa [execOp, zao] using h
    have E := Ext.alloc w (.map #[] 0)
    have g' := gd.ext E
    refine ⟨F, _, _, ⟨w.heap.size, rfl, rfl⟩, rfl, g'.more ⟨#[], 0, [], heap_alloc_new w _, rfl, rfl, rfl⟩ (fun b hb => ?_), Keep.ext E⟩
    cases hb
    exact ⟨gd.size, fun hF => by have := gd.flt _ hF; omega, fun hB => by have := zdd gd.h hB; omega⟩⟩
theorem mp_keys {es : Array MapEntry} {ks : List ByteArray} (h : es.toList.map (·.key) = ks.map Value.string) : ∀ x ∈ es.toList, ∃ b, x.key = .string b := fun x hx => by
  have : x.key ∈ ks.map Value.string := by rw [← h]; exact List.mem_map_of_mem hx
  obtain ⟨b, _, e⟩ := List.mem_map.1 this
  exact ⟨b, e.symm⟩
theorem repA_snoc {w : World} {F : Nat → Prop} : ∀ {xs : List D} {us : List Value} {x : D} {u : Value}, D.repA w F xs us → D.rep w F x u → D.repA w F (xs ++ [x]) (us ++ [u])
  | [], _, x, u, rfl, h => ⟨u, [], rfl, h, rfl⟩
  | y :: r, _, x, u, ⟨v, vs, rfl, h1, h2⟩, h => ⟨v, vs ++ [u], rfl, h1, repA_snoc h2 h⟩
theorem repA_all {α : Type} {w : World} {F : Nat → Prop} {d : D} : ∀ {ks : List α} {us : List Value}, D.repA w F (ks.map fun _ => d) us → ∀ u ∈ us, D.rep w F d u
  | [], _, rfl, _, h => by cases h
  | _ :: _, _, ⟨v, vs, rfl, h1, h2⟩, u, h => by
    rcases List.mem_cons.1 h with e | e
    · rw [e]; exact h1
    · exact repA_all h2 u e
/-- is a text in a set -/
theorem p_seen {t kt et : TypeId} {x y : Operand} {g i : Nat} {ks : List ByteArray} {k : ByteArray} (hx : opD K x = some (.v (.map (some g)))) (hy : opS K y = some k) (hm : nth H i = some (.mp g ks (ks.map fun _ => dB true)))
    (ht : P.underlying t = some (.map kt et)) (hkt : P.underlying kt = some .string) (hz : ∀ w, (zeroValue et).run P w = .ok (.bool false) w) : Pu P (.lookup t x y false) ty K H (.v (.bool (ks.any fun m => decide (m = k)))) :=
  ⟨fun ρ w F hk _ hH => by
    obtain ⟨es, c, us, h, h1, h2, h3⟩ := hH _ (zZ hm)
    have e1 : ev ρ x = .map (some g) := hk.op hx
    have e2 := hk.opS hy
    rcases run_look0 (k := k) ht hkt (hz w) h (mp_keys h1) with ⟨hr, hno⟩ | ⟨j, e, hr, hj, he⟩
    · have hn : ¬ k ∈ ks := fun hk' => by
        have : Value.string k ∈ es.toList.map (·.key) := by rw [h1]; exact List.mem_map_of_mem hk'
        obtain ⟨e, he, hk'⟩ := List.mem_map.1 this
        exact hno e he hk'
      refine EOp.of_run (v := .bool false) (w' := w) ?_ ⟨rfl, by rw [show (ks.any fun m => decide (m = k)) = false from by rw [List.any_eq_false]; intro m hm e; exact hn (of_decide_eq_true e ▸ hm)]; rfl⟩
      have hv := zbt hr
      simpa [execOp, zao, e1, e2] using hv
    · have hmem : k ∈ ks := by
        have : Value.string k ∈ ks.map Value.string := by rw [← h1, ← he]; exact List.mem_map_of_mem (List.mem_of_getElem? hj)
        obtain ⟨b, hb, e'⟩ := List.mem_map.1 this
        injection e' with e'
        exact e' ▸ hb
      have hval' : D.rep w F (dB true) e.val := repA_all (ks := ks) h3 e.val (h2 ▸ List.mem_map_of_mem (List.mem_of_getElem? hj))
      have hval : e.val = .bool true := hval'
      refine EOp.of_run (v := .bool true) (w' := w) ?_ ⟨rfl, by rw [show (ks.any fun m => decide (m = k)) = true from List.any_eq_true.2 ⟨k, hmem, decide_eq_true rfl⟩]; rfl⟩
      have hv := zbt hr
      rw [hval] at hv
      simpa [execOp, zao, e1, e2] using hv⟩
/-- what is stored under a key that there is not -/
theorem ef_put {t kt et : TypeId} {x y v : Operand} {g i : Nat} {ks : List ByteArray} {xs : List D} {k : ByteArray} {d : D} (hx : opD K x = some (.v (.map (some g)))) (hy : opS K y = some k) (hv : opD K v = some d) (hm : nth H i = some (.mp g ks xs))
    (ht : P.underlying t = some (.map kt et)) (hkt : P.underlying kt = some .string) (hn : k ∉ ks) : Ef P (.mapUpdate t x y v) ty K H (fun r H' => r = .v undef ∧ H' = H.set i (.mp g (ks ++ [k]) (xs ++ [d]))) :=
  ⟨fun C ρ w F hk gd => by
    obtain ⟨es, c, us, h, h1, h2, h3⟩ := gd.h.ok _ (zZ hm)
    have e1 : ev ρ x = .map (some g) := hk.op hx
    have e2 := hk.opS hy
    have e3 := hk.op hv
    have hno : ∀ a ∈ es.toList, a.key ≠ .string k := fun a ha he => by
      have : Value.string k ∈ ks.map Value.string := by rw [← h1, ← he]; exact List.mem_map_of_mem ha
      obtain ⟨b, hb, e'⟩ := List.mem_map.1 this
      injection e' with e'
      exact hn (e' ▸ hb)
    have hr := run_put (P := P) (v := ev ρ v) ht hkt h (mp_keys h1) hno
    have hlt := (Array.getElem?_eq_some_iff.1 h).1
    have tn := gd.turn (h' := .mp g (ks ++ [k]) (xs ++ [d])) (w' := { w with heap := w.heap.setIfInBounds g (.map (es.push ⟨.string k, ev ρ v, c⟩) (c + 1)) }) hm (fun b _ hn' => by
        have : ¬ g = b := hn'
        simp only [Array.getElem?_setIfInBounds]; rw [if_neg this]) (by simp) rfl rfl rfl (Nat.le_refl _) (fun b hb => .inl hb) (fun kp => by
        refine ⟨_, _, us ++ [ev ρ v], by simp only [Array.getElem?_setIfInBounds, if_true, hlt]; rfl, ?_, ?_, ?_⟩
        · simp [h1]
        · simp [h2]
        · exact repA_snoc (D.keepA kp _ _ h3) (D.keep kp _ _ e3))
    refine EOp.of_skip (w' := { w with heap := w.heap.setIfInBounds g (.map (es.push ⟨.string k, ev ρ v, c⟩) (c + 1)) }) ?_ ⟨F, _, _, ⟨rfl, rfl⟩, rfl, tn.1, tn.2⟩
    have hv2 := run_u hr
    simpa [execOp, zao, e1, e2] using hv2⟩
end Lp
/- Walks, printed by a program of mine. -/
set_option linter.unusedSimpArgs false
set_option linter.unusedVariables false
set_option maxHeartbeats 4000000
set_option maxRecDepth 100000
namespace Lp
open Go Go.RowKit Go.Proofs

namespace HdYtfjinapgehafiaaGreatV64
theorem zcu : ∀ w, ((#[⟨"Labels", 50, 0, false, "", "", 0⟩, ⟨"V", 3, 1, false, "", "", 24⟩] : Array Field).mapM fun f => do pure (f.offset, ← Go.sizeOf f.type) : Sem (Array (Nat × Nat))).run Tryz.prog w = .ok ([(0, 1), (1, 1)] : List (Nat × Nat)).toArray w := fun _ => by kernel_rfl
theorem zad (b o : Nat) : ∀ w, (Instr.fieldAt 53 (.pointer (some ⟨b, o, none⟩)) 0).run Tryz.prog w = .ok (.pointer (some ⟨b, o + 0, none⟩)) w := fun _ => by kernel_rfl
theorem zam (b o : Nat) : ∀ w, (Instr.fieldAt 53 (.pointer (some ⟨b, o, none⟩)) 1).run Tryz.prog w = .ok (.pointer (some ⟨b, o + 1, none⟩)) w := fun _ => by kernel_rfl
theorem zaO : ∃ i, Tryz.prog.info? 53 = some i ∧ i.zero = some (.agg #[(.slice none 0 0), (.int .i64 0)]) ∧ i.size = 2 ∧ i.bytes = 32 := za3 (by kernel_rfl)
theorem zbf : Tryz.prog.underlying 22 = some (.slice 53) := by kernel_rfl
end HdYtfjinapgehafiaaGreatV64
open HdYtfjinapgehafiaaGreatV64

end Lp
