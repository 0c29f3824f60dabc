/- Walks, printed by a program of mine. -/
import Derived.Test.YtoanlikkhjohpaaDoorPLexS
set_option linter.unusedSimpArgs false
set_option linter.unusedVariables false
namespace Lp
open Go Go.RowKit Go.Proofs

namespace HdYtoanlikkhjohpaaDoorV44
theorem zaV : ∀ w, ((#[⟨"Kind", 3, 0, false, "", "", 0⟩, ⟨"At", 3, 1, false, "", "", 8⟩, ⟨"Text", 9, 2, false, "", "", 16⟩] : Array Field).mapM fun f => do pure (f.offset, ← Go.sizeOf f.type) : Sem (Array (Nat × Nat))).run Tryd.prog w = .ok ([(0, 1), (1, 1), (2, 1)] : List (Nat × Nat)).toArray w := fun _ => by kernel_rfl
theorem eqb_4_eql (x y : Operand) (a b : Bool) (w : World) : (do eqGuard .eql 4 x y (.bool a) (.bool b); binOp .eql 4 (.bool a) (.bool b) : Sem Value).run Tryd.prog w = .ok (.bool (a == b)) w := by cases a <;> cases b <;> kernel_rfl
theorem fa_28_0 (b o : Nat) : ∀ w, (Instr.fieldAt 28 (.pointer (some ⟨b, o, none⟩)) 0).run Tryd.prog w = .ok (.pointer (some ⟨b, o + 0, none⟩)) w := fun _ => by kernel_rfl
theorem zbN (b o : Nat) : ∀ w, (Instr.fieldAt 28 (.pointer (some ⟨b, o, none⟩)) 2).run Tryd.prog w = .ok (.pointer (some ⟨b, o + 2, none⟩)) w := fun _ => by kernel_rfl
theorem infz_9 : ∃ i, Tryd.prog.info? 9 = some i ∧ i.zero = some (.string ByteArray.empty) ∧ i.size = 1 ∧ i.bytes = 16 := zcB (by kernel_rfl)
theorem und_40 : Tryd.prog.underlying 40 = some (.slice 9) := by kernel_rfl
end HdYtoanlikkhjohpaaDoorV44
open HdYtoanlikkhjohpaaDoorV44

set_option maxHeartbeats 4000000 in
set_option maxRecDepth 100000 in
theorem lexJoin_c (l : List TokD) (hl : l.length ≤ 1000) (hz : ∀ x ∈ l, x.t.size ≤ 1000) :
    CD Tryd.prog 11 [] [.sh 3 (l.map TokD.d)] (isR (D.s (joinW l))) := by
  refine zD Tryd.func11 rfl (N := 38) rfl rfl (fun C => ?_)
  refine JD.keep [0] [(0, .sh 3 (l.map TokD.d))] rfl ?_
  refine JD.bd 0 rfl (fun bd0 => ?_)
  have nl0 := zcw bd0
  refine zg _ _ rfl rfl rfl (zb rfl (za rfl rfl (zd rfl) (ze rfl (zf (zg _ _ rfl rfl rfl (zb rfl (za rfl rfl (zd rfl) (ze rfl (zf (zg _ _ rfl rfl rfl (zg _ _ rfl rfl rfl (zb rfl (za rfl rfl (zc rfl) (za rfl rfl (zcy (n := l.length) rfl Tryd.runUnderlying23 (by simp only [lm, lc, ln])) (za rfl rfl (zc rfl) (ze rfl (zf (zL _ rfl rfl (zaW (fun (g : Nat × Value × List ByteArray) => [(2, .v (.string ByteArray.empty)), (6, .sh 3 (l.map TokD.d)), (7, dN l.length), (8, dN g.1), (3, .ov g.2.1)]) (fun (g : Nat × Value × List ByteArray) => [.sl g.2.1 1 9 (g.2.2.map D.s)]) (fun (g : Nat × Value × List ByteArray) => (g.2.2 = (l.take g.1).map zaX) ∧ (g.2.2.length ≤ g.1) ∧ (g.1 ≤ l.length)) (fun (g : Nat × Value × List ByteArray) => l.length - g.1) _ (0, .slice none 0 0, []) rfl rfl ⟨sk rfl, sk rfl, sk rfl, sk rfl, sc rfl (Cv.ov rfl), trivial⟩ (HSub.nil 1 9) ⟨rfl, Nat.le_refl _, Nat.zero_le _⟩ ?_)))))))))))))))))))
  rintro ⟨k, ov, o⟩ ⟨ho, hol, hkl⟩
  replace ho : o = (l.take k).map zaX := ho
  replace hol : o.length ≤ k := hol
  replace hkl : k ≤ l.length := hkl
  refine JD.keep [2, 6, 7, 8, 3] [(2, .v (.string ByteArray.empty)), (6, .sh 3 (l.map TokD.d)), (7, dN l.length), (8, dN k), (3, .ov ov)] rfl (JD.norm [.sl ov 1 9 (o.map D.s)] rfl ?_)
  have hsk := sumSz_joins hl hz k; rw [← ho] at hsk
  refine zg _ _ rfl rfl rfl (zb rfl (za rfl rfl (zbL rfl rfl rfl) (ze rfl (zf (zg _ _ rfl rfl rfl ?_)))))
  refine zy _ _ rfl rfl rfl rfl (fun hc1 => ?_) (fun hc1 => ?_)
  · replace hc1 := of_decide_eq_true hc1
    refine zF rfl (zf (zg _ _ rfl rfl rfl (zL _ rfl rfl (zg _ _ rfl rfl rfl (zb rfl ?_)))))
    obtain ⟨x1, hx1⟩ := zbr l k (by omega)
    have hzk := hz x1 (List.mem_of_getElem? hx1)
    have hqk := zce x1.t
    refine za rfl rfl (zaH (k := k) rfl rfl Tryd.runUnderlying23 Tryd.sizeOf28 (by first | rfl | omega) (zX hx1)) (za rfl rfl (p_load_el (d := TokD.d x1) rfl Tryd.isAgg28 Tryd.sizeOf28 rfl rfl) (zj rfl rfl (zaY (zv := (.agg #[(.int .i64 0), (.int .i64 0), (.string ByteArray.empty)])) Tryd.zeroValue28 ⟨rfl, rfl, rfl, trivial⟩ (Cv.vagg (by decide))) ?_))
    rintro _ _ ⟨g2, rfl, rfl⟩
    refine zj rfl rfl (zG (i := 0) (X' := TokD.d x1) rfl rfl rfl (CellD.agg) Tryd.sizeOf28 rfl rfl rfl) ?_
    rintro _ _ ⟨rfl, rfl⟩
    refine OpsD.norm [.bx g2 28 (TokD.d x1), .sl ov 1 9 (o.map D.s)] rfl (ze rfl (zf (zg _ _ rfl rfl rfl (zb rfl (za rfl rfl (zC rfl fa_28_0 rfl) (za rfl rfl (zW rfl (i := 0) rfl Tryd.isAgg3 rfl) (ze rfl (zf (zL _ rfl rfl (zg _ _ rfl rfl rfl (zb rfl (za rfl rfl (zM rfl rfl rfl) (za rfl rfl (zd rfl) (ze rfl (zf ?_)))))))))))))))
    refine zy _ _ rfl rfl rfl rfl (fun hc3 => ?_) (fun hc3 => ?_)
    · replace hc3 := of_decide_eq_true hc3
      refine zb rfl (za rfl rfl (zc rfl) (za rfl rfl (zC rfl zbN rfl) (za rfl rfl (zW rfl (i := 0) rfl Tryd.isAgg9 rfl) (zj rfl rfl (zt [] _ [] rfl rfl (.cons ArgC.id .nil) zm Tryd.call15 (Quote_c x1.t (by omega)) (.inl rfl)) ?_))))
      rintro _ _ ⟨_, ⟨rfl, rfl⟩, rfl⟩
      refine OpsD.norm [.bx g2 28 (TokD.d x1), .sl ov 1 9 (o.map D.s)] rfl (zj rfl rfl (zO [.tmp 24] rfl rfl (.cons CellD.s .nil) rfl Tryd.runUnderlying40 Tryd.sizeOf9 Tryd.zeroValue9 rfl rfl rfl rfl) ?_)
      rintro _ _ ⟨g4, rfl, rfl⟩
      refine zj rfl rfl (zaa (f := D.s) (l := o) (l' := [zu x1.t]) (i := 2) rfl rfl rfl (SrcD.own (j := 0) rfl rfl) und_40 infz_9 rfl rfl (by unfold maxLen; (try simp only [la, lc, ln, lm, lt', ld, ls, lr]); omega) (by (try simp only [la, lc, ln, lm, lt', ld, ls, lr]); omega)) ?_
      rintro _ _ ⟨v5, rfl, rfl⟩
      refine OpsD.norm [.sl (vS g4 1 1) 1 9 ([.s (zu x1.t)]), .bx g2 28 (TokD.d x1), .sl v5 1 9 ((o ++ [zu x1.t]).map D.s)] rfl (za rfl rfl (zd rfl) (ze rfl (zI (zI (zf (zb rfl (za rfl rfl (zbi (c := ((k + 1 : Nat) : Int)) rfl rfl (zau (by omega) (by omega))) (za rfl rfl (zc rfl) (ze rfl ?_)))))))))
      exact zai (k + 1, v5, (o ++ [zu x1.t])) ⟨sk rfl, sk rfl, sk rfl, sk rfl, sk rfl, trivial⟩ (HSub.lst 2 rfl) ⟨by rw [zbA hx1, List.map_append, ho]; show _ = _ ++ [zaX x1]; rw [joinT_3 (by have := hc3; omega)], by rw [List.length_append, List.length_singleton]; omega, by omega⟩ (by omega)
    · replace hc3 := of_decide_eq_false hc3
      refine zg _ _ rfl rfl rfl (zb rfl (za rfl rfl (zM rfl rfl rfl) (za rfl rfl (zd rfl) (ze rfl (zf ?_)))))
      refine zy _ _ rfl rfl rfl rfl (fun hc6 => ?_) (fun hc6 => ?_)
      · replace hc6 := of_decide_eq_true hc6
        refine zb rfl (za rfl rfl (zc rfl) (za rfl rfl (zC rfl zbN rfl) (za rfl rfl (zW rfl (i := 0) rfl Tryd.isAgg9 rfl) (za rfl rfl (p_cat rfl rfl (by unfold maxLen; (try simp only [ByteArray.size_append]); (try simp only [ByteArray.size_append]); have e1 : (⟨#[115]⟩ : ByteArray).size = 1 := rfl; omega)) (zj rfl rfl (zO [.tmp 32] rfl rfl (.cons CellD.s .nil) rfl Tryd.runUnderlying40 Tryd.sizeOf9 Tryd.zeroValue9 rfl rfl rfl rfl) ?_)))))
        rintro _ _ ⟨g7, rfl, rfl⟩
        refine zj rfl rfl (zaa (f := D.s) (l := o) (l' := [(x1.t ++ (⟨#[115]⟩ : ByteArray))]) (i := 2) rfl rfl rfl (SrcD.own (j := 0) rfl rfl) und_40 infz_9 rfl rfl (by unfold maxLen; (try simp only [la, lc, ln, lm, lt', ld, ls, lr]); omega) (by (try simp only [la, lc, ln, lm, lt', ld, ls, lr]); omega)) ?_
        rintro _ _ ⟨v8, rfl, rfl⟩
        refine OpsD.norm [.sl (vS g7 1 1) 1 9 ([.s (x1.t ++ (⟨#[115]⟩ : ByteArray))]), .bx g2 28 (TokD.d x1), .sl v8 1 9 ((o ++ [(x1.t ++ (⟨#[115]⟩ : ByteArray))]).map D.s)] rfl (za rfl rfl (zd rfl) (ze rfl (zI (zI (zf (zb rfl (za rfl rfl (zbi (c := ((k + 1 : Nat) : Int)) rfl rfl (zau (by omega) (by omega))) (za rfl rfl (zc rfl) (ze rfl ?_)))))))))
        exact zai (k + 1, v8, (o ++ [(x1.t ++ (⟨#[115]⟩ : ByteArray))])) ⟨sk rfl, sk rfl, sk rfl, sk rfl, sk rfl, trivial⟩ (HSub.lst 2 rfl) ⟨by rw [zbA hx1, List.map_append, ho]; show _ = _ ++ [zaX x1]; rw [joinT_4 (by have := hc3; omega) (by have := hc6; omega)], by rw [List.length_append, List.length_singleton]; omega, by omega⟩ (by omega)
      · replace hc6 := of_decide_eq_false hc6
        refine zb rfl (za rfl rfl (zc rfl) (za rfl rfl (zC rfl zbN rfl) (za rfl rfl (zW rfl (i := 0) rfl Tryd.isAgg9 rfl) (zj rfl rfl (zO [.tmp 16] rfl rfl (.cons CellD.s .nil) rfl Tryd.runUnderlying40 Tryd.sizeOf9 Tryd.zeroValue9 rfl rfl rfl rfl) ?_))))
        rintro _ _ ⟨g9, rfl, rfl⟩
        refine zj rfl rfl (zaa (f := D.s) (l := o) (l' := [x1.t]) (i := 2) rfl rfl rfl (SrcD.own (j := 0) rfl rfl) und_40 infz_9 rfl rfl (by unfold maxLen; (try simp only [la, lc, ln, lm, lt', ld, ls, lr]); omega) (by (try simp only [la, lc, ln, lm, lt', ld, ls, lr]); omega)) ?_
        rintro _ _ ⟨v10, rfl, rfl⟩
        refine OpsD.norm [.sl (vS g9 1 1) 1 9 ([.s x1.t]), .bx g2 28 (TokD.d x1), .sl v10 1 9 ((o ++ [x1.t]).map D.s)] rfl (za rfl rfl (zd rfl) (ze rfl (zI (zI (zf (zb rfl (za rfl rfl (zbi (c := ((k + 1 : Nat) : Int)) rfl rfl (zau (by omega) (by omega))) (za rfl rfl (zc rfl) (ze rfl ?_)))))))))
        exact zai (k + 1, v10, (o ++ [x1.t])) ⟨sk rfl, sk rfl, sk rfl, sk rfl, sk rfl, trivial⟩ (HSub.lst 2 rfl) ⟨by rw [zbA hx1, List.map_append, ho]; show _ = _ ++ [zaX x1]; rw [joinT_o (by have := hc3; omega) (by have := hc6; omega)], by rw [List.length_append, List.length_singleton]; omega, by omega⟩ (by omega)
  · replace hc1 := of_decide_eq_false hc1
    refine zaP rfl (z7 (z6 (zT (zf (zg _ _ rfl rfl rfl (zb rfl (za rfl rfl (zc rfl) (zj rfl rfl (zt [] _ [.sl ov 1 9 (o.map D.s)] rfl rfl (.cons (ArgC.own (j := 0) rfl rfl) (.cons (ArgC.cv (Cv.str (by first | decide | (unfold maxLen; omega)))) .nil)) (lend_cons (j := 0) rfl zm) Tryd.call16 (Join_c o (⟨#[32]⟩ : ByteArray) (by omega) (by omega) (by first | decide | omega) (by first | decide | omega)) (.inr (isR_flat rfl))) ?_))))))))
    rintro _ _ ⟨_, ⟨rfl, rfl⟩, rfl⟩
    refine OpsD.norm [.sl ov 1 9 (o.map D.s)] rfl (za rfl rfl (zd rfl) (ze rfl (zf (zx rfl ?_))))
    exact zp Tryd.results11 (.cons (zB (zr rfl) (Cv.eq (congrArg D.s (by rw [ho, List.take_of_length_le (by omega)]; rfl)))) .nil) rfl HSub.none ⟨rfl, rfl⟩

set_option maxHeartbeats 4000000 in
set_option maxRecDepth 100000 in
theorem law_strings_c (s more : ByteArray) (ev : Value) (hev : EvOk ev) :
    CD Tryd.prog 6 [HPow, HErr ev] [.s s, .s more] (fun r H' => r = dB true ∧ H' = [HPow, HErr ev]) := by
  refine zD Tryd.func6 rfl (N := 88) rfl rfl (fun C => ?_)
  refine JD.keep [0, 1] [(0, .s s), (1, .s more)] rfl ?_
  refine JD.bd 0 rfl (fun bd0 => ?_)
  have sz0 : s.size ≤ 9223372036854775807 := bd0
  refine JD.bd 1 rfl (fun bd1 => ?_)
  have sz1 : more.size ≤ 9223372036854775807 := bd1
  refine zg _ _ rfl rfl rfl (zb rfl (za rfl rfl (zd rfl) (ze rfl (zf (zg _ _ rfl rfl rfl (zg _ _ rfl rfl rfl (JD.keep [0, 1, 4] [(0, .s s), (1, .s more), (4, dB false)] rfl ?_)))))))
  refine zaC 23 ((decide ((100 : Int) < ((s.size : Nat) : Int)) || decide ((100 : Int) < ((more.size : Nat) : Int)))) [HPow, HErr ev] (fun _ hQ1 => ?_) ?_
  · skip
    by_cases hg2 : (100 : Int) < ((s.size : Nat) : Int)
    · skip
      refine zb rfl (za rfl rfl (zc rfl) (za rfl rfl (zJ rfl Tryd.runUnderlying9) (za rfl rfl (zbw rfl rfl (decide_eq_true hg2)) (za rfl rfl (zc rfl) (zi rfl rfl rfl rfl rfl (by decide) (zi rfl rfl rfl rfl rfl (by decide) (zi rfl rfl rfl rfl rfl (by decide) (za rfl rfl (zq rfl rfl) (za rfl rfl (zc rfl) (zi rfl rfl rfl rfl rfl (by decide) (zi rfl rfl rfl rfl rfl (by decide) (za rfl rfl (zq rfl rfl) (ze rfl ?_)))))))))))))
      exact PD.sub ((23, dB (decide ((100 : Int) < ((s.size : Nat) : Int)) || decide ((100 : Int) < ((more.size : Nat) : Int)))) :: [(0, .s s), (1, .s more), (4, dB false)]) ⟨sc rfl (Cv.eq (congrArg (fun b => D.v (.bool b)) (by first | (simp [hg2]; done) | (simp only [decide_eq_true hg2, Bool.or_true, Bool.true_or, Bool.or_false, Bool.false_or, Bool.and_true, Bool.true_and, Bool.and_false, Bool.false_and]; done) | (simp_all; done)))), sk rfl, sk rfl, sk rfl, trivial⟩ hQ1
    · skip
      by_cases hg3 : (100 : Int) < ((more.size : Nat) : Int)
      · skip
        refine zb rfl (za rfl rfl (zc rfl) (za rfl rfl (zJ rfl Tryd.runUnderlying9) (za rfl rfl (zbw rfl rfl (decide_eq_false hg2)) (za rfl rfl (zc rfl) (zh rfl rfl rfl rfl rfl (zc rfl) (zh rfl rfl rfl rfl rfl (zJ rfl Tryd.runUnderlying9) (zh rfl rfl rfl rfl rfl (zbw rfl rfl (decide_eq_true hg3)) (za rfl rfl (zn rfl rfl) (za rfl rfl (zc rfl) (zi rfl rfl rfl rfl rfl (by decide) (zi rfl rfl rfl rfl rfl (by decide) (za rfl rfl (zq rfl rfl) (ze rfl ?_)))))))))))))
        exact PD.sub ((23, dB (decide ((100 : Int) < ((s.size : Nat) : Int)) || decide ((100 : Int) < ((more.size : Nat) : Int)))) :: [(0, .s s), (1, .s more), (4, dB false)]) ⟨sc rfl (Cv.eq (congrArg (fun b => D.v (.bool b)) (by first | (simp [hg2, hg3]; done) | (simp only [decide_eq_false hg2, decide_eq_true hg3, Bool.or_true, Bool.true_or, Bool.or_false, Bool.false_or, Bool.and_true, Bool.true_and, Bool.and_false, Bool.false_and]; done) | (simp_all; done)))), sk rfl, sk rfl, sk rfl, trivial⟩ hQ1
      · skip
        refine zb rfl (za rfl rfl (zc rfl) (za rfl rfl (zJ rfl Tryd.runUnderlying9) (za rfl rfl (zbw rfl rfl (decide_eq_false hg2)) (za rfl rfl (zc rfl) (zh rfl rfl rfl rfl rfl (zc rfl) (zh rfl rfl rfl rfl rfl (zJ rfl Tryd.runUnderlying9) (zh rfl rfl rfl rfl rfl (zbw rfl rfl (decide_eq_false hg3)) (za rfl rfl (zn rfl rfl) (za rfl rfl (zc rfl) (zcG rfl rfl rfl rfl rfl (zt [HPow, HErr ev] [] [] rfl rfl (.nil) zm Tryd.call7 (alive7_c ev hev) (.inl rfl)) ?_))))))))))
        rintro _ _ ⟨_, ⟨rfl, rfl⟩, rfl⟩
        refine OpsD.norm [HPow, HErr ev] rfl (zh rfl rfl rfl rfl rfl (zcW (q := true) rfl) (za rfl rfl (zn rfl rfl) (ze rfl ?_)))
        exact PD.sub ((23, dB (decide ((100 : Int) < ((s.size : Nat) : Int)) || decide ((100 : Int) < ((more.size : Nat) : Int)))) :: [(0, .s s), (1, .s more), (4, dB false)]) ⟨sc rfl (Cv.eq (congrArg (fun b => D.v (.bool b)) (by first | (simp [hg2, hg3]; done) | (simp only [decide_eq_false hg2, decide_eq_false hg3, Bool.or_true, Bool.true_or, Bool.or_false, Bool.false_or, Bool.and_true, Bool.true_and, Bool.and_false, Bool.false_and]; done) | (simp_all; done)))), sk rfl, sk rfl, sk rfl, trivial⟩ hQ1
  · skip
    refine zf ?_
    refine zy _ _ rfl rfl rfl rfl (fun hc4 => ?_) (fun hc4 => ?_)
    · simp only [Bool.and_eq_true, Bool.or_eq_true, Bool.not_eq_true', Bool.not_eq_false', Bool.and_eq_false_iff, Bool.or_eq_false_iff, decide_eq_true_eq, decide_eq_false_iff_not, Decidable.not_not, ne_eq] at hc4
      refine zg _ _ rfl rfl rfl (zb rfl (zj rfl rfl (zt [HPow, HErr ev] [] [] rfl rfl (.nil) zm Tryd.call7 (alive7_c ev hev) (.inl rfl)) ?_))
      rintro _ _ ⟨_, ⟨rfl, rfl⟩, rfl⟩
      refine OpsD.norm [HPow, HErr ev] rfl (za rfl rfl (zd rfl) (ze rfl (zf (zx rfl (zw ?_)))))
      exact zp Tryd.results6 (.cons (zr rfl) .nil) rfl (HSub.fst 2 rfl) ⟨rfl, rfl⟩
    · simp only [Bool.and_eq_true, Bool.or_eq_true, Bool.not_eq_true', Bool.not_eq_false', Bool.and_eq_false_iff, Bool.or_eq_false_iff, decide_eq_true_eq, decide_eq_false_iff_not, Decidable.not_not, ne_eq] at hc4
      have hgd := hc4
      have hb1 : s.size ≤ 100 ∧ more.size ≤ 100 := by omega
      obtain ⟨hb1, hb2⟩ := hb1
      have hq4 := zce s
      have hml := lexL_len more
      refine zF rfl (zf (zg _ _ rfl rfl rfl (zb rfl (za rfl rfl (zc rfl) (za rfl rfl (zat [0, 2] [.const (.int .i64 3), .tmp 25] (zv := (.agg #[(.int .i64 0), (.int .i64 0), (.string ByteArray.empty)])) rfl rfl (.cons (CellD.v rfl) (.cons CellD.s .nil)) (Tryd.runUnderlying28) Tryd.zeroValue28 zaV ⟨rfl, rfl, rfl, trivial⟩ rfl) (zj rfl rfl (Qu.ef (d := .sh 3 ([(TokD.mk 3 0 s)].map TokD.d)) (zan [.tmp 26] rfl rfl (.cons CellD.agg .nil) rfl Tryd.runUnderlying23 Tryd.sizeOf28 Tryd.zeroValue28 rfl rfl rfl rfl)) ?_))))))
      rintro _ _ ⟨rfl, rfl⟩
      refine zj rfl rfl (zt [] _ [] rfl rfl (.cons ArgC.id .nil) zm Tryd.call11 (lexJoin_c [(TokD.mk 3 0 s)] (by first | omega | (simp only [lc, ln]; omega)) (by intro x hx; rw [List.mem_singleton.1 hx]; show s.size ≤ 1000; omega)) (.inl rfl)) ?_
      rintro _ _ ⟨_, ⟨rfl, rfl⟩, rfl⟩
      refine OpsD.norm [HPow, HErr ev] rfl (za rfl rfl (zd rfl) (ze rfl (zf (zg _ _ rfl rfl rfl (JD.sub [(0, .s s), (1, .s more), (4, dB false), (5, .s (zu s))] ⟨sk rfl, sk rfl, sk rfl, sc rfl (Cv.eq (congrArg D.s ((joinW_one _).trans (joinT_3 rfl)))), trivial⟩ (zb rfl (za rfl rfl (zc rfl) (zj rfl rfl (zt [HPow, HErr ev] [] [] rfl rfl (.cons ArgC.id .nil) zm Tryd.call8 (Words_c (zu s) ev hev) (.inl rfl)) ?_))))))))
      rintro _ _ ⟨_, ⟨wv5, rfl, rfl⟩, rfl⟩
      refine OpsD.norm [.sl wv5 3 28 ((lexL (zu s)).map TokD.d), HPow, HErr ev] rfl (za rfl rfl (zc rfl) (za rfl rfl (zA rfl rfl) (za rfl rfl (zA rfl rfl) (za rfl rfl (zd rfl) (za rfl rfl (zd rfl) (ze rfl (zf (zg _ _ rfl rfl rfl (zb rfl (za rfl rfl (zc rfl) (OpsD.subH (HSub.perm (zk (i := 2) rfl)) (OpsD.norm [HErr ev, .sl wv5 3 28 ((lexL (zu s)).map TokD.d), HPow] rfl (OpsD.subH (HSub.perm (zk (i := 2) rfl)) (OpsD.norm [HPow, HErr ev, .sl wv5 3 28 ((lexL (zu s)).map TokD.d)] rfl (zj rfl rfl (zt [HPow, HErr ev] [.sl wv5 3 28 ((lexL (zu s)).map TokD.d)] [] rfl rfl (.cons ArgC.id .nil) zm Tryd.call8 (Words_c more ev hev) (.inl rfl)) ?_)))))))))))))))
      rintro _ _ ⟨_, ⟨wv6, rfl, rfl⟩, rfl⟩
      refine OpsD.norm [.sl wv6 3 28 ((lexL more).map TokD.d), HPow, HErr ev, .sl wv5 3 28 ((lexL (zu s)).map TokD.d)] rfl (za rfl rfl (zc rfl) (za rfl rfl (zA rfl rfl) (za rfl rfl (zA rfl rfl) (za rfl rfl (zd rfl) (za rfl rfl (zd rfl) (ze rfl (zf (JD.keep [0, 1, 4, 5, 6, 7, 8, 9] [(0, .s s), (1, .s more), (4, dB false), (5, .s (zu s)), (6, .ov wv5), (7, dI (lexE (zu s))), (8, .ov wv6), (9, dI (lexE more))] rfl (zg _ _ rfl rfl rfl (zb rfl (za rfl rfl (zc rfl) (za rfl rfl (p_cat rfl rfl (by unfold maxLen; (try simp only [ByteArray.size_append]); (try simp only [ByteArray.size_append]); have h3 : (⟨#[32]⟩ : ByteArray).size = 1 := rfl; omega)) (za rfl rfl (zc rfl) (za rfl rfl (p_cat rfl rfl (by unfold maxLen; (try simp only [ByteArray.size_append]); (try simp only [ByteArray.size_append]); have h3 : (⟨#[32]⟩ : ByteArray).size = 1 := rfl; omega)) (OpsD.subH (HSub.perm (zk (i := 2) rfl)) (OpsD.norm [HErr ev, .sl wv6 3 28 ((lexL more).map TokD.d), HPow, .sl wv5 3 28 ((lexL (zu s)).map TokD.d)] rfl (OpsD.subH (HSub.perm (zk (i := 2) rfl)) (OpsD.norm [HPow, HErr ev, .sl wv6 3 28 ((lexL more).map TokD.d), .sl wv5 3 28 ((lexL (zu s)).map TokD.d)] rfl ?_))))))))))))))))))
      refine zj rfl rfl (zt [HPow, HErr ev] [.sl wv6 3 28 ((lexL more).map TokD.d), .sl wv5 3 28 ((lexL (zu s)).map TokD.d)] [] rfl rfl (.cons ArgC.id .nil) zm Tryd.call8 (Words_c (((zu s) ++ (⟨#[32]⟩ : ByteArray)) ++ more) ev hev) (.inl rfl)) ?_
      rintro _ _ ⟨_, ⟨wv7, rfl, rfl⟩, rfl⟩
      refine OpsD.norm [.sl wv7 3 28 ((lexL (((zu s) ++ (⟨#[32]⟩ : ByteArray)) ++ more)).map TokD.d), HPow, HErr ev, .sl wv6 3 28 ((lexL more).map TokD.d), .sl wv5 3 28 ((lexL (zu s)).map TokD.d)] rfl (za rfl rfl (zc rfl) (za rfl rfl (zA rfl rfl) (za rfl rfl (zA rfl rfl) (za rfl rfl (zd rfl) (za rfl rfl (zd rfl) (ze rfl (zf (JD.keep [0, 4, 6, 7, 8, 9, 10, 11] [(0, .s s), (4, dB false), (6, .ov wv5), (7, dI (lexE (zu s))), (8, .ov wv6), (9, dI (lexE more)), (10, .ov wv7), (11, dI (lexE (((zu s) ++ (⟨#[32]⟩ : ByteArray)) ++ more)))] rfl (zg _ _ rfl rfl rfl (zg _ _ rfl rfl rfl ?_))))))))))
      obtain ⟨hL, hE⟩ := lex_quote (s := s) hb1
      obtain ⟨hm1, hm2⟩ := lex_quote_more (s := s) (m := more) hb1 hb2
      obtain ⟨y, hy, ey⟩ : ∃ y, (lexL (zu s))[0]? = some y ∧ y = (TokD.mk 3 0 s) := ⟨_, by rw [hL]; rfl, rfl⟩
      have hl1 : (((lexL (zu s)).length : Nat) : Int) = (1 : Int) := by rw [hL]; rfl
      have hl2 : (lexL (zu s)).length = 1 := by omega
      have hf1 : ¬ ((lexE (zu s)) ≠ (0 : Int)) := fun e => e hE
      have hf2 : ¬ ((((lexL (zu s)).length : Nat) : Int) ≠ (1 : Int)) := fun e => e hl1
      have hf3 : ¬ (y ≠ (TokD.mk 3 0 s)) := fun e => e ey
      refine zb rfl (za rfl rfl (zc rfl) (za rfl rfl (zcs rfl rfl (decide_eq_false hf1)) (za rfl rfl (zc rfl) (zh rfl rfl rfl rfl rfl (zc rfl) (zh rfl rfl rfl rfl rfl (zao (n := (lexL (zu s)).length) (j := 4) rfl rfl Tryd.runUnderlying23 (List.length_map _)) (zh rfl rfl rfl rfl rfl (zcs rfl rfl (decide_eq_false hf2)) (za rfl rfl (zn rfl rfl) (za rfl rfl (zc rfl) (zh rfl rfl rfl rfl rfl (zc rfl) (zh rfl rfl rfl rfl rfl (zZ (k := 0) (j := 4) rfl rfl rfl Tryd.runUnderlying23 Tryd.sizeOf28 (by first | rfl | omega) (zX hy)) (zh rfl rfl rfl rfl rfl (zbm (d := TokD.d y) rfl (i := 4) rfl (zX hy) Tryd.isAgg28 Tryd.sizeOf28 rfl rfl) (zh rfl rfl rfl rfl rfl (zc rfl) (zh rfl rfl rfl rfl rfl (zat [0, 2] [.const (.int .i64 3), .tmp 58] (zv := (.agg #[(.int .i64 0), (.int .i64 0), (.string ByteArray.empty)])) rfl rfl (.cons (CellD.v rfl) (.cons CellD.s .nil)) (Tryd.runUnderlying28) Tryd.zeroValue28 zaV ⟨rfl, rfl, rfl, trivial⟩ rfl) (zh rfl rfl rfl rfl rfl (p_eqtok_neq (dx := TokD.d y) (dy := .agg [dI 3, dI 0, .s s]) (a := y) (b := (TokD.mk 3 0 s)) rfl (Cv.rfl') rfl (Cv.rfl') (decide_eq_false hf3)) (za rfl rfl (zn rfl rfl) (ze rfl (zf ?_)))))))))))))))))
      refine JD.keep [4, 6, 8, 9, 10, 11, 61] [(4, dB false), (6, .ov wv5), (8, .ov wv6), (9, dI (lexE more)), (10, .ov wv7), (11, dI (lexE (((zu s) ++ (⟨#[32]⟩ : ByteArray)) ++ more))), (61, dB false)] rfl (za7 _ rfl rfl rfl (zF rfl (zf (zg _ _ rfl rfl rfl ?_))))
      by_cases hE2 : (lexE more) = (0 : Int)
      · skip
        obtain ⟨hB, hBE⟩ := hm1 hE2
        obtain ⟨z, hz, ez⟩ : ∃ z, (lexL (((zu s) ++ (⟨#[32]⟩ : ByteArray)) ++ more))[0]? = some z ∧ z = (TokD.mk 3 0 s) := ⟨_, by rw [hB]; rfl, rfl⟩
        have hbl : (lexL (((zu s) ++ (⟨#[32]⟩ : ByteArray)) ++ more)).length = 1 + (lexL more).length := by rw [hB, List.length_cons, List.length_map]; omega
        have hzy : z = y := ez.trans ey.symm
        have hf4 : ¬ ((lexE more) ≠ (0 : Int)) := fun e => e hE2
        have hf5 : (((lexL (((zu s) ++ (⟨#[32]⟩ : ByteArray)) ++ more)).length : Nat) : Int) = ((1 + (lexL more).length : Nat) : Int) := by omega
        refine JD.keep [4, 6, 8, 9, 10, 11, 61] [(4, dB false), (6, .ov wv5), (8, .ov wv6), (9, dI (lexE more)), (10, .ov wv7), (11, dI (lexE (((zu s) ++ (⟨#[32]⟩ : ByteArray)) ++ more))), (61, dB false)] rfl (JD.norm [.sl wv7 3 28 ((lexL (((zu s) ++ (⟨#[32]⟩ : ByteArray)) ++ more)).map TokD.d), HPow, HErr ev, .sl wv6 3 28 ((lexL more).map TokD.d), .sl wv5 3 28 ((lexL (zu s)).map TokD.d)] rfl ?_)
        refine zcA 22 [(62, dI (lexE more), none), (63, dB true, none), (64, dI (lexE (((zu s) ++ (⟨#[32]⟩ : ByteArray)) ++ more)), none), (65, dB true, none), (66, dB true, none), (67, dB true, none), (68, dI (lexE more), none), (69, dB false, none), (70, dB false, none), (71, .ov wv7, none), (72, dN ((lexL (((zu s) ++ (⟨#[32]⟩ : ByteArray)) ++ more)).length), none), (73, .ov wv6, none), (74, dN ((lexL more).length), none), (75, dN (1 + ((lexL more).length)), none), (76, dB true, none), (77, dB true, none), (78, .ov wv7, none), (79, .v (.pointer (some ⟨bl wv7, 0 * 3 + 0, none⟩)), none), (80, TokD.d z, none), (81, .ov wv5, none), (82, .v (.pointer (some ⟨bl wv5, 0 * 3 + 0, none⟩)), none), (83, TokD.d y, none)] [.sl wv7 3 28 ((lexL (((zu s) ++ (⟨#[32]⟩ : ByteArray)) ++ more)).map TokD.d), HPow, HErr ev, .sl wv6 3 28 ((lexL more).map TokD.d), .sl wv5 3 28 ((lexL (zu s)).map TokD.d)] (Hn := [.sl wv7 3 28 ((lexL (((zu s) ++ (⟨#[32]⟩ : ByteArray)) ++ more)).map TokD.d), HPow, HErr ev, .sl wv6 3 28 ((lexL more).map TokD.d), .sl wv5 3 28 ((lexL (zu s)).map TokD.d)]) mixed rfl rfl rfl rfl HSub.rfl' rfl ⟨sa_p rfl rfl rfl (zc rfl), sa_p rfl rfl rfl (zM rfl rfl (decide_eq_true hE2)), sa_p rfl rfl rfl (zc rfl), sa_p rfl rfl rfl (zM rfl rfl (decide_eq_true hBE)), sa_p rfl rfl rfl (zci (r := .bool true) rfl rfl (eqb_4_eql _ _ _ _)), sa_p rfl rfl rfl (zc rfl), zbc rfl rfl rfl rfl rfl rfl (zc rfl).qu, zbc rfl rfl rfl rfl rfl rfl (zcs rfl rfl (decide_eq_false hf4)).qu, zbc rfl rfl rfl rfl rfl rfl (zc rfl).qu, zbc rfl rfl rfl rfl rfl rfl (zc rfl).qu, zbc rfl rfl rfl rfl rfl rfl (zao (n := (lexL (((zu s) ++ (⟨#[32]⟩ : ByteArray)) ++ more)).length) (j := 0) rfl rfl Tryd.runUnderlying23 (List.length_map _)).qu, zbc rfl rfl rfl rfl rfl rfl (zc rfl).qu, zbc rfl rfl rfl rfl rfl rfl (zao (n := (lexL more).length) (j := 3) rfl rfl Tryd.runUnderlying23 (List.length_map _)).qu, zbc rfl rfl rfl rfl rfl rfl (zbi (c := ((1 + ((lexL more).length) : Nat) : Int)) rfl rfl (zau (by omega) (by omega))).qu, zbc rfl rfl rfl rfl rfl rfl (zM rfl rfl (decide_eq_true hf5)).qu, zbc rfl rfl rfl rfl rfl rfl (zc rfl).qu, zbc rfl rfl rfl rfl rfl rfl (zc rfl).qu, zbc rfl rfl rfl rfl rfl rfl (zZ (k := 0) (j := 0) rfl rfl rfl Tryd.runUnderlying23 Tryd.sizeOf28 (by first | rfl | omega) (zX hz)).qu, zbc rfl rfl rfl rfl rfl rfl (zbm (d := TokD.d z) rfl (i := 0) rfl (zX hz) Tryd.isAgg28 Tryd.sizeOf28 rfl rfl).qu, zbc rfl rfl rfl rfl rfl rfl (zc rfl).qu, zbc rfl rfl rfl rfl rfl rfl (zZ (k := 0) (j := 4) rfl rfl rfl Tryd.runUnderlying23 Tryd.sizeOf28 (by first | rfl | omega) (zX hy)).qu, zbc rfl rfl rfl rfl rfl rfl (zbm (d := TokD.d y) rfl (i := 4) rfl (zX hy) Tryd.isAgg28 Tryd.sizeOf28 rfl rfl).qu, trivial⟩ ?_
        refine OpsD.keep [4, 6, 8, 9, 10, 11, 61, 62, 63, 64, 65, 66, 67, 68, 69, 70, 71, 72, 73, 74, 75, 76, 77, 78, 79, 80, 81, 82, 83] [(4, dB false), (6, .ov wv5), (8, .ov wv6), (9, dI (lexE more)), (10, .ov wv7), (11, dI (lexE (((zu s) ++ (⟨#[32]⟩ : ByteArray)) ++ more))), (61, dB false), (62, dI (lexE more)), (63, dB true), (64, dI (lexE (((zu s) ++ (⟨#[32]⟩ : ByteArray)) ++ more))), (65, dB true), (66, dB true), (67, dB true), (68, dI (lexE more)), (69, dB false), (70, dB false), (71, .ov wv7), (72, dN ((lexL (((zu s) ++ (⟨#[32]⟩ : ByteArray)) ++ more)).length)), (73, .ov wv6), (74, dN ((lexL more).length)), (75, dN (1 + ((lexL more).length))), (76, dB true), (77, dB true), (78, .ov wv7), (79, .v (.pointer (some ⟨bl wv7, 0 * 3 + 0, none⟩))), (80, TokD.d z), (81, .ov wv5), (82, .v (.pointer (some ⟨bl wv5, 0 * 3 + 0, none⟩))), (83, TokD.d y)] rfl (zh rfl rfl rfl rfl rfl (zbq (dx := TokD.d z) (dy := TokD.d y) (a := z) (b := y) rfl (Cv.rfl') rfl (Cv.rfl') (decide_eq_true hzy)) (zh rfl rfl rfl rfl rfl (zq rfl rfl) (zh rfl rfl rfl rfl rfl (zn rfl rfl) (za rfl rfl (zq rfl rfl) (za rfl rfl (zd rfl) (ze rfl (zf ?_)))))))
        refine JD.keep [4] [(4, dB true)] rfl (zx rfl (PD.subH (HSub.perm (zk (i := 2) rfl)) (PD.norm [HErr ev, .sl wv7 3 28 ((lexL (((zu s) ++ (⟨#[32]⟩ : ByteArray)) ++ more)).map TokD.d), HPow, .sl wv6 3 28 ((lexL more).map TokD.d), .sl wv5 3 28 ((lexL (zu s)).map TokD.d)] rfl (PD.subH (HSub.perm (zk (i := 2) rfl)) (PD.norm [HPow, HErr ev, .sl wv7 3 28 ((lexL (((zu s) ++ (⟨#[32]⟩ : ByteArray)) ++ more)).map TokD.d), .sl wv6 3 28 ((lexL more).map TokD.d), .sl wv5 3 28 ((lexL (zu s)).map TokD.d)] rfl ?_)))))
        exact zp Tryd.results6 (.cons (zr rfl) .nil) rfl (HSub.fst 2 rfl) ⟨rfl, rfl⟩
      · skip
        have hBE := hm2 hE2
        refine JD.keep [4, 6, 8, 9, 10, 11, 61] [(4, dB false), (6, .ov wv5), (8, .ov wv6), (9, dI (lexE more)), (10, .ov wv7), (11, dI (lexE (((zu s) ++ (⟨#[32]⟩ : ByteArray)) ++ more))), (61, dB false)] rfl (JD.norm [.sl wv7 3 28 ((lexL (((zu s) ++ (⟨#[32]⟩ : ByteArray)) ++ more)).map TokD.d), HPow, HErr ev, .sl wv6 3 28 ((lexL more).map TokD.d), .sl wv5 3 28 ((lexL (zu s)).map TokD.d)] rfl ?_)
        refine zcA 22 [(62, dI (lexE more), none), (63, dB false, none), (64, dI (lexE (((zu s) ++ (⟨#[32]⟩ : ByteArray)) ++ more)), none), (65, dB false, none), (66, dB true, none), (67, dB true, none), (68, dI (lexE more), none), (69, dB true, none), (70, dB true, none), (71, .v undef, none), (72, .v undef, none), (73, .v undef, none), (74, .v undef, none), (75, .v undef, none), (76, .v undef, none), (77, .v undef, none), (78, .v undef, none), (79, .v undef, none), (80, .v undef, none), (81, .v undef, none), (82, .v undef, none), (83, .v undef, none)] [.sl wv7 3 28 ((lexL (((zu s) ++ (⟨#[32]⟩ : ByteArray)) ++ more)).map TokD.d), HPow, HErr ev, .sl wv6 3 28 ((lexL more).map TokD.d), .sl wv5 3 28 ((lexL (zu s)).map TokD.d)] (Hn := [.sl wv7 3 28 ((lexL (((zu s) ++ (⟨#[32]⟩ : ByteArray)) ++ more)).map TokD.d), HPow, HErr ev, .sl wv6 3 28 ((lexL more).map TokD.d), .sl wv5 3 28 ((lexL (zu s)).map TokD.d)]) mixed rfl rfl rfl rfl HSub.rfl' rfl ⟨sa_p rfl rfl rfl (zc rfl), sa_p rfl rfl rfl (zM rfl rfl (decide_eq_false hE2)), sa_p rfl rfl rfl (zc rfl), sa_p rfl rfl rfl (zM rfl rfl (decide_eq_false hBE)), sa_p rfl rfl rfl (zci (r := .bool true) rfl rfl (eqb_4_eql _ _ _ _)), sa_p rfl rfl rfl (zc rfl), zbc rfl rfl rfl rfl rfl rfl (zc rfl).qu, zbc rfl rfl rfl rfl rfl rfl (zcs rfl rfl (decide_eq_true hE2)).qu, zbc rfl rfl rfl rfl rfl rfl (zc rfl).qu, sa_s rfl rfl rfl rfl rfl rfl (by decide), sa_s rfl rfl rfl rfl rfl rfl (by decide), sa_s rfl rfl rfl rfl rfl rfl (by decide), sa_s rfl rfl rfl rfl rfl rfl (by decide), sa_s rfl rfl rfl rfl rfl rfl (by decide), sa_s rfl rfl rfl rfl rfl rfl (by decide), sa_s rfl rfl rfl rfl rfl rfl (by decide), sa_s rfl rfl rfl rfl rfl rfl (by decide), sa_s rfl rfl rfl rfl rfl rfl (by decide), sa_s rfl rfl rfl rfl rfl rfl (by decide), sa_s rfl rfl rfl rfl rfl rfl (by decide), sa_s rfl rfl rfl rfl rfl rfl (by decide), sa_s rfl rfl rfl rfl rfl rfl (by decide), trivial⟩ ?_
        refine OpsD.keep [4, 6, 8, 9, 10, 11, 61, 62, 63, 64, 65, 66, 67, 68, 69, 70, 71, 72, 73, 74, 75, 76, 77, 78, 79, 80, 81, 82, 83] [(4, dB false), (6, .ov wv5), (8, .ov wv6), (9, dI (lexE more)), (10, .ov wv7), (11, dI (lexE (((zu s) ++ (⟨#[32]⟩ : ByteArray)) ++ more))), (61, dB false), (62, dI (lexE more)), (63, dB false), (64, dI (lexE (((zu s) ++ (⟨#[32]⟩ : ByteArray)) ++ more))), (65, dB false), (66, dB true), (67, dB true), (68, dI (lexE more)), (69, dB true), (70, dB true), (71, .v undef), (72, .v undef), (73, .v undef), (74, .v undef), (75, .v undef), (76, .v undef), (77, .v undef), (78, .v undef), (79, .v undef), (80, .v undef), (81, .v undef), (82, .v undef), (83, .v undef)] rfl (zi rfl rfl rfl rfl rfl (by decide) (zi rfl rfl rfl rfl rfl (by decide) (zh rfl rfl rfl rfl rfl (zq rfl rfl) (za rfl rfl (zq rfl rfl) (za rfl rfl (zd rfl) (ze rfl (zf (JD.keep [4] [(4, dB true)] rfl (zx rfl (PD.subH (HSub.perm (zk (i := 2) rfl)) (PD.norm [HErr ev, .sl wv7 3 28 ((lexL (((zu s) ++ (⟨#[32]⟩ : ByteArray)) ++ more)).map TokD.d), HPow, .sl wv6 3 28 ((lexL more).map TokD.d), .sl wv5 3 28 ((lexL (zu s)).map TokD.d)] rfl (PD.subH (HSub.perm (zk (i := 2) rfl)) ?_))))))))))))
        refine PD.norm [HPow, HErr ev, .sl wv7 3 28 ((lexL (((zu s) ++ (⟨#[32]⟩ : ByteArray)) ++ more)).map TokD.d), .sl wv6 3 28 ((lexL more).map TokD.d), .sl wv5 3 28 ((lexL (zu s)).map TokD.d)] rfl ?_
        exact zp Tryd.results6 (.cons (zr rfl) .nil) rfl (HSub.fst 2 rfl) ⟨rfl, rfl⟩
end Lp
