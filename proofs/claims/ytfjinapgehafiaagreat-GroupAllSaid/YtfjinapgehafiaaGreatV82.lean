/- Walks, printed by a program of mine. -/
import Derived.Test.YtfjinapgehafiaaGreatPLaw11b
set_option linter.unusedSimpArgs false
set_option linter.unusedVariables false
set_option maxHeartbeats 4000000
set_option maxRecDepth 100000
namespace Lp
open Go Go.RowKit Go.Proofs

namespace HdYtfjinapgehafiaaGreatV82
theorem zX (b o : Nat) : ∀ w, (Instr.fieldAt 53 (.pointer (some ⟨b, o, none⟩)) 0).run Tryz.prog w = .ok (.pointer (some ⟨b, o + 0, none⟩)) w := fun _ => by kernel_rfl
theorem z5 (b o : Nat) : ∀ w, (Instr.fieldAt 53 (.pointer (some ⟨b, o, none⟩)) 1).run Tryz.prog w = .ok (.pointer (some ⟨b, o + 1, none⟩)) w := fun _ => by kernel_rfl
theorem zac (b o : Nat) : ∀ w, (Instr.fieldAt 62 (.pointer (some ⟨b, o, none⟩)) 0).run Tryz.prog w = .ok (.pointer (some ⟨b, o + 0, none⟩)) w := fun _ => by kernel_rfl
theorem infz_9 : ∃ i, Tryz.prog.info? 9 = some i ∧ i.zero = some (.string ByteArray.empty) ∧ i.size = 1 ∧ i.bytes = 16 := zaQ (by kernel_rfl)
theorem und_23 : Tryz.prog.underlying 23 = some (.slice 9) := by kernel_rfl
end HdYtfjinapgehafiaaGreatV82
open HdYtfjinapgehafiaaGreatV82

theorem groupAll_c (l : List RowD)  :
    CD Tryz.prog 7 [] [.sh 2 (l.map RowD.d)] (isR (dB true)) := by
  refine zq Tryz.func7 rfl (N := 116) rfl rfl (fun C => ?_)
  refine jk [0] rfl ?_
  refine JD.bd 0 rfl (fun bd0 => ?_)
  have nl0 := zO bd0
  refine jT rfl (oR 1 rfl (oZ rfl (jS rfl (jS rfl (jk [0, 2] rfl ?_)))))
  refine zai 19 (!(zbi l)) [] (fun _ hQ1 => ?_) ?_
  · skip
    rcases Bool.eq_false_or_eq_true (zbi l) with hg2 | hg2
    · skip
      refine za rfl (oR 1 rfl (oW rfl rfl acs Tryz.call10 (Light10_c l) (os 14 rfl (congrArg (fun b => D.v (.bool b)) hg2) (oR 2 rfl (oV rfl rfl acs Tryz.call30 (alive11_c) (oR 2 rfl (zi rfl ?_)))))))
      exact PD.sub ((19, dB (!(zbi l))) :: [(0, .sh 2 (l.map RowD.d)), (2, dB false)]) ⟨sc rfl (Cv.eq (congrArg (fun b => D.v (.bool b)) (by first | (simp [hg2]; done) | (simp_all; done)))), sk rfl, sk rfl, trivial⟩ hQ1
    · skip
      refine za rfl (oR 1 rfl (oW rfl rfl acs Tryz.call10 (Light10_c l) (os 14 rfl (congrArg (fun b => D.v (.bool b)) hg2) (oR 5 rfl (zi rfl ?_)))))
      exact PD.sub ((19, dB (!(zbi l))) :: [(0, .sh 2 (l.map RowD.d)), (2, dB false)]) ⟨sc rfl (Cv.eq (congrArg (fun b => D.v (.bool b)) (by first | (simp [hg2]; done) | (simp_all; done)))), sk rfl, sk rfl, trivial⟩ hQ1
  · skip
    refine zd ?_
    refine jC rfl (fun hc3 => ?_) (fun hc3 => ?_)
    · simp only [bA, bB, bC, bD, bE, bF, bG, bH, bI, bJ] at hc3
      refine jT rfl (oW rfl rfl acs Tryz.call30 (alive11_c) (oR 1 rfl (oZ rfl (zm rfl (zc ?_)))))
      exact zj Tryz.results7 (.cons (zg rfl) .nil) rfl HSub.none ⟨rfl, rfl⟩
    · simp only [bA, bB, bC, bD, bE, bF, bG, bH, bI, bJ] at hc3
      have hlr : zbi l = true := by have h := hc3; first | exact h | exact h.1 | exact h.1.1 | exact h.1.1.1
      have hll := lightR_len hlr
      have hli : ∀ r ∈ l, zam r.ls = true := fun r hr => lightR_row hlr hr
      have htv := vr_tidy hlr
      have hts := tidyRs_trs hli
      have htl := hts.len
      have hr8 : ∀ r ∈ zR l, r.ls.length ≤ 8 := fun r hr => okRow_len (zcD htv r hr)
      have hn8 := namesA_take hr8 (show (zR l).length ≤ 60 by omega)
      refine zk rfl (zd (jT rfl (oR 1 rfl (oW rfl rfl acs Tryz.call12 (tidy10_c l (by omega) hli) (oR 1 rfl (oZ rfl (jT rfl (oR 1 rfl (oZ rfl (jS rfl (jT rfl (oR 1 rfl (oZ rfl (jB rfl (jl3 (fun (a_ : Nat) (b_ : Value) (c_ : List ByteArray) => [(2, dB false), (3, .sh 2 ((zR l).map RowD.d)), (5, dN a_), (4, .ov b_)]) (fun a_ b_ c_ => [.sl b_ 1 9 (c_.map D.s)]) (fun a_ b_ c_ => (a_ ≤ (zR l).length) ∧ (c_ = zbQ ((zR l).take a_))) (fun a_ b_ c_ => (zR l).length - a_) 0 (.slice none 0 0) [] rfl ⟨sk rfl, sk rfl, sk rfl, sc rfl (Cv.ov rfl), trivial⟩ (HSub.nil 1 9) ⟨Nat.zero_le _, rfl⟩ ?_)))))))))))))))
      rintro k ov o ⟨hkl, ho⟩
      refine ja rfl (jn rfl ?_)
      have hol : o.length ≤ 480 := by rw [ho]; exact hn8 _
      refine jS rfl (jT rfl (oR 2 rfl (oP rfl (z1 (n := (zR l).length) rfl Tryz.runUnderlying22 (by simp only [lm, lc, ln])) (oP rfl (zP rfl rfl rfl) (oZ rfl ?_)))))
      refine jD rfl (fun hc4 => ?_) (fun hc4 => ?_)
      · skip
        obtain ⟨x1, hx1⟩ := zy (zR l) k (by omega)
        have hk8 := hr8 x1 (zal hx1)
        refine zk rfl (zd (jS rfl (jB rfl (jT rfl (oR 1 rfl (oZ rfl (jB rfl (jl3 (fun (a_ : Nat) (b_ : Value) (c_ : List ByteArray) => [(2, dB false), (3, .sh 2 ((zR l).map RowD.d)), (5, dN k), (23, dN k), (24, .sh 2 ((zR l).map RowD.d)), (25, dN ((zR l).length)), (26, dB (decide (((k : Nat) : Int) < (((zR l).length : Nat) : Int)))), (6, dN a_), (4, .ov b_)]) (fun a_ b_ c_ => [.sl b_ 1 9 (c_.map D.s)]) (fun a_ b_ c_ => (a_ ≤ x1.ls.length) ∧ (c_ = zbQ ((zR l).take k) ++ (x1.ls.map (·.n)).take a_)) (fun a_ b_ c_ => x1.ls.length - a_) 0 ov o rfl (sa rfl) HSub.rfl' ⟨Nat.zero_le _, by rw [ho]; simp⟩ ?_))))))))
        rintro j pv p ⟨hjl, hp⟩
        refine ja rfl (jn rfl ?_)
        have hpl : p.length ≤ 488 := by rw [hp, List.length_append, List.length_take]; have := hn8 k; omega
        refine jS rfl (jT rfl (oR 3 rfl (oP rfl (zo (k := k) rfl rfl Tryz.runUnderlying22 Tryz.sizeOf53 (by first | rfl | omega) (zf hx1)) (oP rfl (zx rfl zX rfl) (oP rfl (zz rfl Tryz.isAgg50 rfl) (oP rfl (z1 (n := x1.ls.length) rfl Tryz.runUnderlying50 (by simp only [lm, lc, ln])) (oP rfl (zP rfl rfl rfl) (oZ rfl ?_))))))))
        refine jD rfl (fun hc5 => ?_) (fun hc5 => ?_)
        · skip
          refine zk rfl (zd (jS rfl (jB rfl (za rfl (oR 3 rfl (oP rfl (zo (k := k) rfl rfl Tryz.runUnderlying22 Tryz.sizeOf53 (by first | rfl | omega) (zf hx1)) (oP rfl (zx rfl zX rfl) (oP rfl (zz rfl Tryz.isAgg50 rfl) (oR 1 rfl ?_)))))))))
          obtain ⟨x2, hx2⟩ := zy x1.ls j (by omega)
          refine oP rfl (zo (k := j) rfl rfl Tryz.runUnderlying50 Tryz.sizeOf62 (by first | rfl | omega) (zf hx2)) (oP rfl (zx rfl zac rfl) (oP rfl (zz rfl Tryz.isAgg9 rfl) (oE rfl (zab [.tmp 48] rfl rfl (.cons CellD.s .nil) rfl Tryz.runUnderlying23 Tryz.sizeOf9 Tryz.zeroValue9 rfl rfl rfl rfl) ?_)))
          rintro _ _ ⟨g6, rfl, rfl⟩
          refine oE rfl (z3 (f := D.s) (l := p) (l' := [x2.n]) (i := 1) rfl rfl rfl (SrcD.own (j := 0) rfl rfl) und_23 infz_9 rfl rfl (by unfold maxLen; (try simp only [la, lc, ln, lm, lt', ld, ls, lr]); omega) (by (try simp only [la, lc, ln, lm, lt', ld, ls, lr]); omega)) ?_
          rintro _ _ ⟨v7, rfl, rfl⟩
          refine on rfl (oR 1 rfl (zi rfl (zw (zd (za rfl (oR 1 rfl (oP rfl (zQ (c := ((j + 1 : Nat) : Int)) rfl rfl (zD (by omega) (by omega))) (oR 1 rfl (zi rfl (PD.subH (HSub.perm (zay (i := 1) rfl)) (pn rfl (PD.subH (HSub.fst 1 rfl) (pn rfl ?_)))))))))))))
          exact pl3 (j + 1) v7 (p ++ [x2.n]) (sa rfl) HSub.rfl' ⟨by show j + 1 ≤ x1.ls.length; omega, by rw [hp, zaa (zf (f := fun q : Lbl => q.n) hx2)]; simp⟩ (by omega)
        · skip
          refine zK rfl (zp (zn (zl (zw (zd (za rfl (oR 1 rfl (oP rfl (zQ (c := ((k + 1 : Nat) : Int)) rfl rfl (zD (by omega) (by omega))) (oR 1 rfl (zi rfl (pn rfl ?_)))))))))))
          exact pl3 (k + 1) pv p (sa rfl) HSub.rfl' ⟨by show k + 1 ≤ (zR l).length; omega, by rw [hp, List.take_of_length_le (l := x1.ls.map (·.n)) (i := j) (by rw [List.length_map]; omega), namesA_snoc hx1]⟩ (by omega)
      · skip
        have hF : AllF (zR l) o := by rw [ho, List.take_of_length_le (by omega)]; exact allF htv
        have hen := hF.en
        have hem := hF.em
        have hes := hF.es
        have hln := hF.ln
        have hlm := hF.lm
        have hls := hF.ls
        have hnl := hF.nl
        have hs0 : (gdL (.sums false) 0 [] []).length = 0 := by rw [hls]; rfl
        refine zK rfl (zp (zn (zl (zd (jT rfl (oR 1 rfl (oE rfl (zH [] _ [] rfl rfl (.cons (ArgC.cv (Cv.str (by first | decide | (unfold maxLen; omega)))) (.cons ArgC.id (.cons ArgC.id (.cons (ArgC.cv Cv.nil) (.cons ArgC.id .nil))))) zu Tryz.call31 (do_c (⟨#[99, 111, 117, 110, 116]⟩ : ByteArray) 0 0 [] (zR l) (.many) (way_count _) rfl (by first | decide | omega)) (.inl rfl)) ?_)))))))
        rintro _ _ ⟨_, ⟨v8, rfl, rfl⟩, rfl⟩
        refine on rfl (oR 5 rfl (oZ rfl (jk [2, 3, 4, 7, 8] rfl (jS rfl (JD.mv (Mv.subH (HSub.perm (zay (i := 1) rfl))) (jn rfl (JD.mv (Mv.freeze (K' := [(2, dB false), (3, .sh 2 ((zR l).map RowD.d)), (4, .sh 1 (o.map D.s)), (7, .ov v8), (8, dI (gdE (.many) 0 [] (zR l)))]) [.sl ov 1 9 (o.map D.s)] (H1 := [.sl v8 2 53 ((gdL (.many) 0 [] (zR l)).map RowD.d)]) (H1' := [.sl v8 2 53 ((gdL (.many) 0 [] (zR l)).map RowD.d)]) ⟨⟨_, rfl, ArgC.id⟩, ⟨_, rfl, ArgC.id⟩, ⟨_, rfl, ArgC.own (j := 0) rfl rfl⟩, ⟨_, rfl, ArgC.id⟩, ⟨_, rfl, ArgC.id⟩, trivial⟩ (.same .nil)) (za rfl (oR 2 rfl (oE rfl (zH [] _ [] rfl rfl (.cons (ArgC.cv (Cv.str (by first | decide | (unfold maxLen; omega)))) (.cons ArgC.id (.cons ArgC.id (.cons ArgC.id (.cons ArgC.id .nil))))) zu Tryz.call31 (do_c (⟨#[109, 97, 120]⟩ : ByteArray) 0 1 o (zR l) (.most) (way_max _) rfl (by first | decide | omega)) (.inl rfl)) ?_))))))))))
        rintro _ _ ⟨_, ⟨v9, rfl, rfl⟩, rfl⟩
        refine on rfl (oR 5 rfl (oZ rfl (jT rfl (oE rfl (zH [] _ [] rfl rfl (.cons (ArgC.cv (Cv.str (by first | decide | (unfold maxLen; omega)))) (.cons ArgC.id (.cons ArgC.id (.cons (ArgC.cv Cv.nil) (.cons (ArgC.cv Cv.nil) .nil))))) zu Tryz.call31 (do_c (⟨#[115, 117, 109]⟩ : ByteArray) 0 0 [] [] (.sums false) (way_sum _) rfl (by first | decide | omega)) (.inl rfl)) ?_))))
        rintro _ _ ⟨_, ⟨v10, rfl, rfl⟩, rfl⟩
        refine on rfl (oR 5 rfl (oZ rfl (jk [2, 3, 7, 8, 9, 10, 11, 12] rfl (jS rfl ?_))))
        have hTl : (zR l).length ≤ 60 := by omega
        have hs1 : (((gdL (.sums false) 0 [] []).length : Nat) : Int) = (0 : Int) := by omega
        have hn1 : (((gdL (.many) 0 [] (zR l)).length : Nat) : Int) = (min (((zR l).length : Nat) : Int) (1 : Int)) := by omega
        by_cases hz0 : (((gdL (.many) 0 [] (zR l)).length : Nat) : Int) = (0 : Int)
        · skip
          refine za rfl (oR 1 rfl (oP rfl (zL rfl rfl (decide_eq_true hen)) (oR 2 rfl (oG rfl (zL rfl rfl (decide_eq_true hem)) (oR 3 rfl (oG rfl (zL rfl rfl (decide_eq_true hes)) (oR 3 rfl (oG rfl (zN (n := (gdL (.sums false) 0 [] []).length) (j := 0) rfl rfl Tryz.runUnderlying22 (List.length_map _)) (oG rfl (zL rfl rfl (decide_eq_true hs1)) (oR 3 rfl (oG rfl (zN (n := (gdL (.many) 0 [] (zR l)).length) (j := 2) rfl rfl Tryz.runUnderlying22 (List.length_map _)) (oR 1 rfl (oG rfl (z1 (n := (zR l).length) rfl Tryz.runUnderlying22 (by simp only [lm, lc, ln])) (oG rfl (p_min rfl rfl rfl) (oG rfl (zL rfl rfl (decide_eq_true hn1)) (oR 3 rfl (oG rfl (zN (n := (gdL (.many) 0 [] (zR l)).length) (j := 2) rfl rfl Tryz.runUnderlying22 (List.length_map _)) (oG rfl (zL rfl rfl (decide_eq_true hz0)) (oR 21 rfl (oF rfl (zH [] _ [.sl v9 2 53 ((gdL (.most) 1 o (zR l)).map RowD.d)] rfl rfl (.cons (ArgC.own (j := 0) rfl rfl) (.cons ArgC.id .nil)) (zav (j := 1) rfl zu) Tryz.call22 (SameRows_c (gdL (.most) 1 o (zR l)) (zR l)) (.inr (za7 rfl))) ?_))))))))))))))))))))
          rintro _ _ ⟨_, ⟨rfl, rfl⟩, rfl⟩
          refine on rfl (oR 2 rfl (oZ rfl (jk [2] rfl (zm rfl ?_))))
          exact zj Tryz.results7 (.cons (zr (zg rfl) (Cv.eq (congrArg (fun b => D.v (.bool b)) (by first | exact decide_eq_true hlm | (exfalso; omega) | (simp_all; done) | (exfalso; simp_all; done) | (exfalso; omega))))) .nil) rfl HSub.none ⟨rfl, rfl⟩
        · skip
          have hnz : 0 < (gdL (.many) 0 [] (zR l)).length := by omega
          obtain ⟨x3, hx3⟩ := zy (gdL (.many) 0 [] (zR l)) 0 (by omega)
          have hvx3 := (all_get hF hx3).1
          have hlx3 := (all_get hF hx3).2
          have hzx3 : x3.ls.length = 0 := by rw [hlx3]; rfl
          have hlx : ((x3.ls.length : Nat) : Int) = (0 : Int) := by rw [hlx3]; rfl
          refine za rfl (oR 1 rfl (oP rfl (zL rfl rfl (decide_eq_true hen)) (oR 2 rfl (oG rfl (zL rfl rfl (decide_eq_true hem)) (oR 3 rfl (oG rfl (zL rfl rfl (decide_eq_true hes)) (oR 3 rfl (oG rfl (zN (n := (gdL (.sums false) 0 [] []).length) (j := 0) rfl rfl Tryz.runUnderlying22 (List.length_map _)) (oG rfl (zL rfl rfl (decide_eq_true hs1)) (oR 3 rfl (oG rfl (zN (n := (gdL (.many) 0 [] (zR l)).length) (j := 2) rfl rfl Tryz.runUnderlying22 (List.length_map _)) (oR 1 rfl (oG rfl (z1 (n := (zR l).length) rfl Tryz.runUnderlying22 (by simp only [lm, lc, ln])) (oG rfl (p_min rfl rfl rfl) (oG rfl (zL rfl rfl (decide_eq_true hn1)) (oR 3 rfl (oG rfl (zN (n := (gdL (.many) 0 [] (zR l)).length) (j := 2) rfl rfl Tryz.runUnderlying22 (List.length_map _)) (oG rfl (zL rfl rfl (decide_eq_false hz0)) (oR 2 rfl (oG rfl (zh (k := 0) (j := 2) rfl rfl rfl Tryz.runUnderlying22 Tryz.sizeOf53 (by first | rfl | omega) (zf hx3)) (oG rfl (zs rfl z5 rfl) (oG rfl (zZ rfl (i := 2) rfl (zf hx3) Tryz.isAgg3 rfl) (oR 1 rfl (oG rfl (z1 (n := (zR l).length) rfl Tryz.runUnderlying22 (by simp only [lm, lc, ln])) (oG rfl (zL rfl rfl (decide_eq_true hvx3)) (oR 2 rfl ?_))))))))))))))))))))))))))
          refine oG rfl (zh (k := 0) (j := 2) rfl rfl rfl Tryz.runUnderlying22 Tryz.sizeOf53 (by first | rfl | omega) (zf hx3)) (oG rfl (zs rfl zX rfl) (oG rfl (zZ rfl (i := 2) rfl (zf hx3) Tryz.isAgg50 rfl) (oG rfl (z1 (n := x3.ls.length) rfl Tryz.runUnderlying50 (by simp only [lm, lc, ln])) (oG rfl (zL rfl rfl (decide_eq_true hlx)) (oR 6 rfl (oF rfl (zH [] _ [.sl v9 2 53 ((gdL (.most) 1 o (zR l)).map RowD.d)] rfl rfl (.cons (ArgC.own (j := 0) rfl rfl) (.cons ArgC.id .nil)) (zav (j := 1) rfl zu) Tryz.call22 (SameRows_c (gdL (.most) 1 o (zR l)) (zR l)) (.inr (za7 rfl))) ?_))))))
          rintro _ _ ⟨_, ⟨rfl, rfl⟩, rfl⟩
          refine on rfl (oR 2 rfl (oZ rfl (jk [2] rfl (zm rfl ?_))))
          exact zj Tryz.results7 (.cons (zr (zg rfl) (Cv.eq (congrArg (fun b => D.v (.bool b)) (by first | exact decide_eq_true hlm | (exfalso; omega) | (simp_all; done) | (exfalso; simp_all; done) | (exfalso; omega))))) .nil) rfl HSub.none ⟨rfl, rfl⟩
end Lp
