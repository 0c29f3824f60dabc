/- Walks, printed by a program of mine. -/
import Derived.Test.YtfjinapgehafiaaGreatPLaw11d
set_option linter.unusedSimpArgs false
set_option linter.unusedVariables false
set_option maxHeartbeats 4000000
set_option maxRecDepth 100000
namespace Lp
open Go Go.RowKit Go.Proofs

namespace HdYtfjinapgehafiaaGreatV85
theorem zbU (x y : Operand) (a b : Bool) (w : World) : (do eqGuard .eql 4 x y (.bool a) (.bool b); binOp .eql 4 (.bool a) (.bool b) : Sem Value).run Tryz.prog w = .ok (.bool (a == b)) w := by cases a <;> cases b <;> kernel_rfl
theorem z2 (b o : Nat) : ∀ w, (Instr.fieldAt 53 (.pointer (some ⟨b, o, none⟩)) 0).run Tryz.prog w = .ok (.pointer (some ⟨b, o + 0, none⟩)) w := fun _ => by kernel_rfl
theorem zab (b o : Nat) : ∀ w, (Instr.fieldAt 53 (.pointer (some ⟨b, o, none⟩)) 1).run Tryz.prog w = .ok (.pointer (some ⟨b, o + 1, none⟩)) w := fun _ => by kernel_rfl
end HdYtfjinapgehafiaaGreatV85
open HdYtfjinapgehafiaaGreatV85

theorem way_none (name : ByteArray) (n : Int) (hw : wayO name n = none) : CD Tryz.prog 98 [] [.s name, dI n] (isR (.v .nilIface)) := by
  have h := way_c name n
  rw [hw] at h; exact h

theorem p_nil_nil {ty t t' : TypeId} {K : Kd} {H : List Hp} {x y : Operand} {k : Nat} (hk0 : x = .tmp k) (hx : opD K x = some (.v .nilIface)) (hy : y = .const .nilIface) (ht : t = 20) : Pu Tryz.prog (.binOp .eql t x y t') ty K H (dB true) :=
  ⟨fun ρ F0 F hk _ _ => by
    subst hy; subst ht; subst hk0
    have e : ev ρ (.tmp k) = .nilIface := hk.op hx
    exact zbM (zz ρ [.tmp k, .const .nilIface]) (zbc ρ e) (zbb ρ rfl) (fun w => by kernel_rfl) ⟨rfl, rfl⟩⟩

theorem doN_c (name : ByteArray) (n : Int) (mode : Int) (names : List ByteArray) (l : List RowD) (hw : wayO name n = none) :
    CD Tryz.prog 31 [] [.s name, dI n, dI mode, .sh 1 (names.map D.s), .sh 2 (l.map RowD.d)] (fun r H' => ∃ v0_, r = .tup [.ov v0_, dI 1] ∧ H' = [.sl v0_ 2 53 (([] : List RowD).map RowD.d)]) := by
  refine zn Tryz.func31 rfl (N := 87) rfl rfl (fun C => ?_)
  refine jk [0, 1, 2, 3, 4] rfl ?_
  refine JD.bd 0 rfl (fun bd0 => ?_)
  have sz0 : name.size ≤ 9223372036854775807 := bd0
  refine JD.bd 3 rfl (fun bd3 => ?_)
  have nl3 := zQ bd3
  refine JD.bd 4 rfl (fun bd4 => ?_)
  have nl4 := zQ bd4
  refine jT rfl (oR 2 rfl (oZ rfl (jT rfl (oR 2 rfl (oW rfl rfl acs Tryz.call98 (way_none name n hw) (oR 1 rfl (oZ rfl (jS rfl (jT rfl (oR 1 rfl (oP rfl (p_nil_nil rfl rfl rfl rfl) (oR 10 rfl (oZ rfl (jk [2, 3, 4, 10, 11, 12, 34] rfl (jCt rfl (jT rfl (oR 2 rfl (oZ rfl (zl rfl (zb (PD.subH (HSub.nil 2 53) (PD.norm [.sl (.slice none 0 0) 2 53 (([] : List RowD).map RowD.d)] (by have hw : [] = ([] : List RowD) := (by rfl); rw [show ([] : List D) = List.map RowD.d ([] : List RowD) from congrArg (List.map RowD.d) hw]) ?_))))))))))))))))))))))
  exact zj Tryz.results31 (.cons (zr (zh rfl) (Cv.ov rfl)) (.cons (zh rfl) .nil)) rfl (HSub.fst 1 rfl) ⟨(.slice none 0 0), rfl, rfl⟩

theorem noneA_c (name : ByteArray) (n : Int) (r : RowD) (hw : wayO name n = none) :
    CD Tryz.prog 9 [] [.s name, dI n, RowD.d r] (isR (dB true)) := by
  refine zn Tryz.func9 rfl (N := 106) rfl rfl (fun C => ?_)
  refine jk [0, 1, 2] rfl ?_
  refine JD.bd 0 rfl (fun bd0 => ?_)
  have sz0 : name.size ≤ 9223372036854775807 := bd0
  refine JD.bd 2 rfl (fun bd2 => ?_)
  have hr1 : [r].length = 1 := rfl
  have h10 : ¬ (1 : Int) = (0 : Int) := by decide
  have hx0 : ((([] : List RowD).length : Nat) : Int) = (0 : Int) := rfl
  refine jT rfl (oE rfl (zbp rfl (CellD.agg)) ?_)
  rintro _ _ ⟨g1, rfl, rfl⟩
  refine oR 1 rfl (oZ rfl (jS rfl (jS rfl (jk [0, 1, 5, 6] rfl ?_))))
  refine zao 28 (((decide (n < (1 : Int)) || decide ((100 : Int) < n)) || !(zaq [r]))) [.bx g1 53 (RowD.d r)] (fun _ hQ2 => ?_) ?_
  · skip
    by_cases hg3 : n < (1 : Int)
    · skip
      refine za rfl (oR 1 rfl (oP rfl (zP rfl rfl (decide_eq_true hg3)) (oR 14 rfl (zi rfl ?_))))
      exact PD.sub ((28, dB ((decide (n < (1 : Int)) || decide ((100 : Int) < n)) || !(zaq [r]))) :: [(0, .s name), (1, dI n), (5, dP g1 0), (6, dB false)]) ⟨sc rfl (Cv.eq (congrArg (fun b => D.v (.bool b)) (by first | (simp [h10, hg3, hx0]; done) | (simp_all; done)))), sk rfl, sk rfl, sk rfl, sk rfl, trivial⟩ hQ2
    · skip
      by_cases hg4 : (100 : Int) < n
      · skip
        refine za rfl (oR 1 rfl (oP rfl (zP rfl rfl (decide_eq_false hg3)) (oR 2 rfl (oG rfl (zag rfl rfl (decide_eq_true hg4)) (oR 11 rfl (zi rfl ?_))))))
        exact PD.sub ((28, dB ((decide (n < (1 : Int)) || decide ((100 : Int) < n)) || !(zaq [r]))) :: [(0, .s name), (1, dI n), (5, dP g1 0), (6, dB false)]) ⟨sc rfl (Cv.eq (congrArg (fun b => D.v (.bool b)) (by first | (simp [h10, hg3, hg4, hx0]; done) | (simp_all; done)))), sk rfl, sk rfl, sk rfl, sk rfl, trivial⟩ hQ2
      · skip
        rcases Bool.eq_false_or_eq_true (zaq [r]) with hg5 | hg5
        · skip
          refine za rfl (oR 1 rfl (oP rfl (zP rfl rfl (decide_eq_false hg3)) (oR 2 rfl (oG rfl (zag rfl rfl (decide_eq_false hg4)) (oR 2 rfl (oG rfl (zam (d := RowD.d r) rfl (i := 0) rfl Tryz.isAgg53 Tryz.sizeOf53 rfl rfl) (oF rfl (Qu.ef (d := .sh 2 ([r].map RowD.d)) (zT [.tmp 20] rfl rfl (.cons CellD.agg .nil) rfl Tryz.runUnderlying22 Tryz.sizeOf53 Tryz.zeroValue53 rfl rfl rfl rfl)) ?_)))))))
          rintro _ _ ⟨rfl, rfl⟩
          refine oV rfl rfl acs Tryz.call10 (zbY [r]) (os 22 rfl (congrArg (fun b => D.v (.bool b)) hg5) (oR 3 rfl (oV rfl rfl acs Tryz.call30 (zbX) (oR 2 rfl (zi rfl ?_)))))
          exact PD.sub ((28, dB ((decide (n < (1 : Int)) || decide ((100 : Int) < n)) || !(zaq [r]))) :: [(0, .s name), (1, dI n), (5, dP g1 0), (6, dB false)]) ⟨sc rfl (Cv.eq (congrArg (fun b => D.v (.bool b)) (by first | (simp [h10, hg3, hg4, hg5, hx0]; done) | (simp_all; done)))), sk rfl, sk rfl, sk rfl, sk rfl, trivial⟩ hQ2
        · skip
          refine za rfl (oR 1 rfl (oP rfl (zP rfl rfl (decide_eq_false hg3)) (oR 2 rfl (oG rfl (zag rfl rfl (decide_eq_false hg4)) (oR 2 rfl (oG rfl (zam (d := RowD.d r) rfl (i := 0) rfl Tryz.isAgg53 Tryz.sizeOf53 rfl rfl) (oF rfl (Qu.ef (d := .sh 2 ([r].map RowD.d)) (zT [.tmp 20] rfl rfl (.cons CellD.agg .nil) rfl Tryz.runUnderlying22 Tryz.sizeOf53 Tryz.zeroValue53 rfl rfl rfl rfl)) ?_)))))))
          rintro _ _ ⟨rfl, rfl⟩
          refine oV rfl rfl acs Tryz.call10 (zbY [r]) (os 22 rfl (congrArg (fun b => D.v (.bool b)) hg5) (oR 6 rfl (zi rfl ?_)))
          exact PD.sub ((28, dB ((decide (n < (1 : Int)) || decide ((100 : Int) < n)) || !(zaq [r]))) :: [(0, .s name), (1, dI n), (5, dP g1 0), (6, dB false)]) ⟨sc rfl (Cv.eq (congrArg (fun b => D.v (.bool b)) (by first | (simp [h10, hg3, hg4, hg5, hx0]; done) | (simp_all; done)))), sk rfl, sk rfl, sk rfl, sk rfl, trivial⟩ hQ2
  · skip
    refine zc ?_
    refine jC rfl (fun hc6 => ?_) (fun hc6 => ?_)
    · simp only [bA, bB, bC, bD, bE, bF, bG, bH, bI, bJ] at hc6
      refine jT rfl (oW rfl rfl acs Tryz.call30 (zbX) (oR 1 rfl (oZ rfl (zl rfl (zb ?_)))))
      exact zj Tryz.results9 (.cons (zh rfl) .nil) rfl HSub.none ⟨rfl, rfl⟩
    · simp only [bA, bB, bC, bD, bE, bF, bG, bH, bI, bJ] at hc6
      have hlr : zaq [r] = true := by have h := hc6; first | exact h.2 | exact h.1.2 | exact h.1.1.2 | exact h.1 | exact h
      have hn1 : 1 ≤ n ∧ n ≤ 100 := by have h := hc6; omega
      have hli : ∀ x ∈ [r], zar x.ls = true := fun x hx => lightR_row hlr hx
      have htv := vr_tidy hlr
      have hts := zbZ hli
      have htl := hts.len
      rw [show [r].length = 1 from rfl] at htl
      refine zk rfl (zc (jT rfl (oR 2 rfl (oE rfl (zH [] _ [] rfl rfl (.cons ArgC.id (.cons ArgC.id (.cons ArgC.id (.cons (ArgC.cv Cv.nil) (.cons (ArgC.cv Cv.nil) .nil))))) zt Tryz.call31 (doN_c name n 0 [] [] hw) (.inl rfl)) ?_))))
      rintro _ _ ⟨_, ⟨v7, rfl, rfl⟩, rfl⟩
      refine on rfl (oR 5 rfl (oZ rfl (jT rfl (oP rfl (zam (d := RowD.d r) rfl (i := 1) rfl Tryz.isAgg53 Tryz.sizeOf53 rfl rfl) (oE rfl (Qu.ef (d := .sh 2 ([r].map RowD.d)) (zT [.tmp 36] rfl rfl (.cons CellD.agg .nil) rfl Tryz.runUnderlying22 Tryz.sizeOf53 Tryz.zeroValue53 rfl rfl rfl rfl)) ?_)))))
      rintro _ _ ⟨rfl, rfl⟩
      refine oW rfl rfl acs Tryz.call12 (tidy10_c [r] (by omega) hli) (oR 1 rfl (oZ rfl (jk [0, 1, 6, 7, 8, 9] rfl (jT rfl (oR 3 rfl (oE rfl (zH [] _ [] rfl rfl (.cons ArgC.id (.cons ArgC.id (.cons ArgC.id (.cons (ArgC.cv Cv.nil) (.cons ArgC.id .nil))))) zt Tryz.call31 (doN_c name n 0 [] (z8 [r]) hw) (.inl rfl)) ?_))))))
      rintro _ _ ⟨_, ⟨v8, rfl, rfl⟩, rfl⟩
      refine on rfl (oR 5 rfl (oZ rfl (jS rfl (jT rfl (oR 1 rfl (oP rfl (zbs rfl rfl (decide_eq_true h10)) (oR 5 rfl (oZ rfl (jk [0, 6, 7, 8, 9, 10, 11, 52] rfl (jCt rfl (jT rfl (oR 1 rfl (oP rfl (zL (n := ([] : List RowD).length) (j := 1) rfl rfl Tryz.runUnderlying22 (List.length_map _)) (oP rfl (zJ rfl rfl (decide_eq_true hx0)) (oR 2 rfl (oG rfl (zJ rfl rfl (decide_eq_false h10)) (oR 3 rfl (oG rfl (zJ rfl rfl (decide_eq_true (rfl : (1 : Int) = 1))) (oR 3 rfl (oZ rfl (jk [0, 6, 7, 9, 10, 11] rfl (zl rfl (zb ?_)))))))))))))))))))))))
      exact zj Tryz.results9 (.cons (zh rfl) .nil) rfl HSub.none ⟨rfl, rfl⟩

theorem noneB_c (name : ByteArray) (n : Int) (r : RowD) (w : Way) (hw : wayO name n = some w) (hr : w.red = true) :
    CD Tryz.prog 9 [] [.s name, dI n, RowD.d r] (isR (dB true)) := by
  refine zn Tryz.func9 rfl (N := 106) rfl rfl (fun C => ?_)
  refine jk [0, 1, 2] rfl ?_
  refine JD.bd 0 rfl (fun bd0 => ?_)
  have sz0 : name.size ≤ 9223372036854775807 := bd0
  refine JD.bd 2 rfl (fun bd2 => ?_)
  have hr1 : [r].length = 1 := rfl
  have he0 : gdE w 0 [] [] = (0 : Int) := (none_w w).1
  have he1 : ¬ gdE w 0 [] [] ≠ (0 : Int) := fun h => h he0
  have hx0 : (((gdL w 0 [] []).length : Nat) : Int) = (0 : Int) := by rw [(none_w w).2]; rfl
  refine jT rfl (oE rfl (zbp rfl (CellD.agg)) ?_)
  rintro _ _ ⟨g1, rfl, rfl⟩
  refine oR 1 rfl (oZ rfl (jS rfl (jS rfl (jk [0, 1, 5, 6] rfl ?_))))
  refine zao 28 (((decide (n < (1 : Int)) || decide ((100 : Int) < n)) || !(zaq [r]))) [.bx g1 53 (RowD.d r)] (fun _ hQ2 => ?_) ?_
  · skip
    by_cases hg3 : n < (1 : Int)
    · skip
      refine za rfl (oR 1 rfl (oP rfl (zP rfl rfl (decide_eq_true hg3)) (oR 14 rfl (zi rfl ?_))))
      exact PD.sub ((28, dB ((decide (n < (1 : Int)) || decide ((100 : Int) < n)) || !(zaq [r]))) :: [(0, .s name), (1, dI n), (5, dP g1 0), (6, dB false)]) ⟨sc rfl (Cv.eq (congrArg (fun b => D.v (.bool b)) (by first | (simp [he0, he1, hg3, hx0]; done) | (simp_all; done)))), sk rfl, sk rfl, sk rfl, sk rfl, trivial⟩ hQ2
    · skip
      by_cases hg4 : (100 : Int) < n
      · skip
        refine za rfl (oR 1 rfl (oP rfl (zP rfl rfl (decide_eq_false hg3)) (oR 2 rfl (oG rfl (zag rfl rfl (decide_eq_true hg4)) (oR 11 rfl (zi rfl ?_))))))
        exact PD.sub ((28, dB ((decide (n < (1 : Int)) || decide ((100 : Int) < n)) || !(zaq [r]))) :: [(0, .s name), (1, dI n), (5, dP g1 0), (6, dB false)]) ⟨sc rfl (Cv.eq (congrArg (fun b => D.v (.bool b)) (by first | (simp [he0, he1, hg3, hg4, hx0]; done) | (simp_all; done)))), sk rfl, sk rfl, sk rfl, sk rfl, trivial⟩ hQ2
      · skip
        rcases Bool.eq_false_or_eq_true (zaq [r]) with hg5 | hg5
        · skip
          refine za rfl (oR 1 rfl (oP rfl (zP rfl rfl (decide_eq_false hg3)) (oR 2 rfl (oG rfl (zag rfl rfl (decide_eq_false hg4)) (oR 2 rfl (oG rfl (zam (d := RowD.d r) rfl (i := 0) rfl Tryz.isAgg53 Tryz.sizeOf53 rfl rfl) (oF rfl (Qu.ef (d := .sh 2 ([r].map RowD.d)) (zT [.tmp 20] rfl rfl (.cons CellD.agg .nil) rfl Tryz.runUnderlying22 Tryz.sizeOf53 Tryz.zeroValue53 rfl rfl rfl rfl)) ?_)))))))
          rintro _ _ ⟨rfl, rfl⟩
          refine oV rfl rfl acs Tryz.call10 (zbY [r]) (os 22 rfl (congrArg (fun b => D.v (.bool b)) hg5) (oR 3 rfl (oV rfl rfl acs Tryz.call30 (zbX) (oR 2 rfl (zi rfl ?_)))))
          exact PD.sub ((28, dB ((decide (n < (1 : Int)) || decide ((100 : Int) < n)) || !(zaq [r]))) :: [(0, .s name), (1, dI n), (5, dP g1 0), (6, dB false)]) ⟨sc rfl (Cv.eq (congrArg (fun b => D.v (.bool b)) (by first | (simp [he0, he1, hg3, hg4, hg5, hx0]; done) | (simp_all; done)))), sk rfl, sk rfl, sk rfl, sk rfl, trivial⟩ hQ2
        · skip
          refine za rfl (oR 1 rfl (oP rfl (zP rfl rfl (decide_eq_false hg3)) (oR 2 rfl (oG rfl (zag rfl rfl (decide_eq_false hg4)) (oR 2 rfl (oG rfl (zam (d := RowD.d r) rfl (i := 0) rfl Tryz.isAgg53 Tryz.sizeOf53 rfl rfl) (oF rfl (Qu.ef (d := .sh 2 ([r].map RowD.d)) (zT [.tmp 20] rfl rfl (.cons CellD.agg .nil) rfl Tryz.runUnderlying22 Tryz.sizeOf53 Tryz.zeroValue53 rfl rfl rfl rfl)) ?_)))))))
          rintro _ _ ⟨rfl, rfl⟩
          refine oV rfl rfl acs Tryz.call10 (zbY [r]) (os 22 rfl (congrArg (fun b => D.v (.bool b)) hg5) (oR 6 rfl (zi rfl ?_)))
          exact PD.sub ((28, dB ((decide (n < (1 : Int)) || decide ((100 : Int) < n)) || !(zaq [r]))) :: [(0, .s name), (1, dI n), (5, dP g1 0), (6, dB false)]) ⟨sc rfl (Cv.eq (congrArg (fun b => D.v (.bool b)) (by first | (simp [he0, he1, hg3, hg4, hg5, hx0]; done) | (simp_all; done)))), sk rfl, sk rfl, sk rfl, sk rfl, trivial⟩ hQ2
  · skip
    refine zc ?_
    refine jC rfl (fun hc6 => ?_) (fun hc6 => ?_)
    · simp only [bA, bB, bC, bD, bE, bF, bG, bH, bI, bJ] at hc6
      refine jT rfl (oW rfl rfl acs Tryz.call30 (zbX) (oR 1 rfl (oZ rfl (zl rfl (zb ?_)))))
      exact zj Tryz.results9 (.cons (zh rfl) .nil) rfl HSub.none ⟨rfl, rfl⟩
    · simp only [bA, bB, bC, bD, bE, bF, bG, bH, bI, bJ] at hc6
      have hlr : zaq [r] = true := by have h := hc6; first | exact h.2 | exact h.1.2 | exact h.1.1.2 | exact h.1 | exact h
      have hn1 : 1 ≤ n ∧ n ≤ 100 := by have h := hc6; omega
      have hli : ∀ x ∈ [r], zar x.ls = true := fun x hx => lightR_row hlr hx
      have htv := vr_tidy hlr
      have hts := zbZ hli
      have htl := hts.len
      rw [show [r].length = 1 from rfl] at htl
      refine zk rfl (zc (jT rfl (oR 2 rfl (oE rfl (zH [] _ [] rfl rfl (.cons ArgC.id (.cons ArgC.id (.cons ArgC.id (.cons (ArgC.cv Cv.nil) (.cons (ArgC.cv Cv.nil) .nil))))) zt Tryz.call31 (do_c name n 0 [] [] w hw hr (by first | decide | omega)) (.inl rfl)) ?_))))
      rintro _ _ ⟨_, ⟨v7, rfl, rfl⟩, rfl⟩
      refine on rfl (oR 5 rfl (oZ rfl (jT rfl (oP rfl (zam (d := RowD.d r) rfl (i := 1) rfl Tryz.isAgg53 Tryz.sizeOf53 rfl rfl) (oE rfl (Qu.ef (d := .sh 2 ([r].map RowD.d)) (zT [.tmp 36] rfl rfl (.cons CellD.agg .nil) rfl Tryz.runUnderlying22 Tryz.sizeOf53 Tryz.zeroValue53 rfl rfl rfl rfl)) ?_)))))
      rintro _ _ ⟨rfl, rfl⟩
      refine oW rfl rfl acs Tryz.call12 (tidy10_c [r] (by omega) hli) (oR 1 rfl (oZ rfl (jk [0, 1, 6, 7, 8, 9] rfl (jT rfl (oR 3 rfl (oE rfl (zH [] _ [] rfl rfl (.cons ArgC.id (.cons ArgC.id (.cons ArgC.id (.cons (ArgC.cv Cv.nil) (.cons ArgC.id .nil))))) zt Tryz.call31 (do_c name n 0 [] (z8 [r]) w hw hr (by first | decide | omega)) (.inl rfl)) ?_))))))
      rintro _ _ ⟨_, ⟨v8, rfl, rfl⟩, rfl⟩
      refine on rfl (oR 5 rfl (oZ rfl (jS rfl (jT rfl (oR 1 rfl (oP rfl (zbs rfl rfl (decide_eq_false he1)) (oR 2 rfl (oG rfl (zaa (n := (z8 [r]).length) rfl Tryz.runUnderlying22 (by simp only [lm, lc, ln])) (oG rfl (zJ rfl rfl rfl) (oR 1 rfl (oZ rfl (jk [0, 6, 7, 8, 9, 10, 11, 52] rfl ?_))))))))))))
      refine jD rfl (fun hc9 => ?_) (fun hc9 => ?_)
      · skip
        refine jT rfl (oR 1 rfl (oP rfl (zL (n := (gdL w 0 [] []).length) (j := 1) rfl rfl Tryz.runUnderlying22 (List.length_map _)) (oP rfl (zJ rfl rfl (decide_eq_true hx0)) (oR 2 rfl (oG rfl (zJ rfl rfl (decide_eq_true he0)) (oR 7 rfl (oZ rfl (jk [0, 6, 7, 9, 10, 11] rfl (zl rfl (zb ?_))))))))))
        exact zj Tryz.results9 (.cons (zh rfl) .nil) rfl HSub.none ⟨rfl, rfl⟩
      · skip
        refine zk rfl (zc (jT rfl (oR 1 rfl ?_)))
        obtain ⟨x1, hx1⟩ := zx (z8 [r]) 0 (by omega)
        have hA1 := one_of htl hx1
        refine oP rfl (zu (k := 0) rfl rfl Tryz.runUnderlying22 Tryz.sizeOf53 (by first | rfl | omega) (ze hx1)) (oP rfl (zF rfl zab rfl) (oP rfl (zG rfl Tryz.isAgg3 rfl) (oR 1 rfl (oZ rfl (jS rfl (jT rfl (oR 1 rfl (oP rfl (zaH rfl rfl rfl) (oZ rfl ?_)))))))))
        refine jD rfl (fun hc10 => ?_) (fun hc10 => ?_)
        · skip
          refine za rfl (oR 1 rfl (oZ rfl (jk [0, 6, 7, 10, 11, 12] rfl (jS rfl ?_))))
          have hvx : zV [x1] = true := by have h := htv; rw [hA1] at h; exact h
          have hb := one_w hr (x := x1) hvx
          have fe : gdE w 0 [] (z8 [r]) = 0 := by rw [hA1]; exact hb.1
          have fl : gdL w 0 [] (z8 [r]) = [⟨[], valW w x1.v⟩] := by rw [hA1]; exact hb.2
          have fn1 : (((gdL w 0 [] (z8 [r])).length : Nat) : Int) = (1 : Int) := by rw [fl]; rfl
          have fp : 0 < (gdL w 0 [] (z8 [r])).length := by omega
          obtain ⟨x2, hx2⟩ := zx (gdL w 0 [] (z8 [r])) 0 (by omega)
          have fy : x2 = ⟨[], valW w x1.v⟩ := by have h := hx2; rw [fl] at h; injection h with h; exact h.symm
          have fyv : x2.v = (1 : Int) := by rw [fy]; exact (way_many hw hr _).trans (by rw [if_pos hc10])
          have fyl : ¬ (0 : Int) < ((x2.ls.length : Nat) : Int) := by rw [fy]; simp
          refine za rfl (oR 1 rfl (oP rfl (zL (n := (gdL w 0 [] []).length) (j := 1) rfl rfl Tryz.runUnderlying22 (List.length_map _)) (oP rfl (zJ rfl rfl (decide_eq_true hx0)) (oR 2 rfl (oG rfl (zJ rfl rfl (decide_eq_true fe)) (oR 3 rfl (oG rfl (zL (n := (gdL w 0 [] (z8 [r])).length) (j := 0) rfl rfl Tryz.runUnderlying22 (List.length_map _)) (oG rfl (zJ rfl rfl (decide_eq_true fn1)) (oR 3 rfl (oG rfl (zg (k := 0) (j := 0) rfl rfl rfl Tryz.runUnderlying22 Tryz.sizeOf53 (by first | rfl | omega) (ze hx2)) (oG rfl (zo rfl zab rfl) (oG rfl (zR rfl (i := 0) rfl (ze hx2) Tryz.isAgg3 rfl) (oR 1 rfl (oG rfl (zJ rfl rfl (decide_eq_true fyv)) (oR 3 rfl (oG rfl (zaH rfl rfl rfl) (oR 1 rfl (oG rfl (zg (k := 0) (j := 0) rfl rfl rfl Tryz.runUnderlying22 Tryz.sizeOf53 (by first | rfl | omega) (ze hx2)) (oG rfl (zo rfl z2 rfl) (oG rfl (zR rfl (i := 0) rfl (ze hx2) Tryz.isAgg50 rfl) (oG rfl (zaa (n := x2.ls.length) rfl Tryz.runUnderlying50 (by simp only [lm, lc, ln])) (oG rfl (zag rfl rfl (decide_eq_false fyl)) (oR 2 rfl (oG rfl (zaH rfl rfl rfl) (oR 1 rfl (oG rfl (zdj (r := .bool (decide (name = (⟨#[116, 111, 112, 107]⟩ : ByteArray)) == decide (name = (⟨#[116, 111, 112, 107]⟩ : ByteArray)))) rfl rfl (zbU _ _ _ _)) (oR 2 rfl (oZ rfl (jk [6] rfl (zl rfl ?_))))))))))))))))))))))))))))))
          exact zj Tryz.results9 (.cons (zr (zh rfl) (Cv.eq (congrArg (fun b => D.v (.bool b)) (by first | rfl | (simp; done) | (simp_all; done))))) .nil) rfl HSub.none ⟨rfl, rfl⟩
        · skip
          refine zk rfl (zc (jk [0, 6, 7, 10, 11, 12] rfl (jS rfl ?_)))
          have hvx : zV [x1] = true := by have h := htv; rw [hA1] at h; exact h
          have hb := one_w hr (x := x1) hvx
          have fe : gdE w 0 [] (z8 [r]) = 0 := by rw [hA1]; exact hb.1
          have fl : gdL w 0 [] (z8 [r]) = [⟨[], valW w x1.v⟩] := by rw [hA1]; exact hb.2
          have fn1 : (((gdL w 0 [] (z8 [r])).length : Nat) : Int) = (1 : Int) := by rw [fl]; rfl
          have fp : 0 < (gdL w 0 [] (z8 [r])).length := by omega
          obtain ⟨x2, hx2⟩ := zx (gdL w 0 [] (z8 [r])) 0 (by omega)
          have fy : x2 = ⟨[], valW w x1.v⟩ := by have h := hx2; rw [fl] at h; injection h with h; exact h.symm
          have fyv : x2.v = x1.v := by rw [fy]; exact (way_many hw hr _).trans (by rw [if_neg hc10])
          have fyl : ¬ (0 : Int) < ((x2.ls.length : Nat) : Int) := by rw [fy]; simp
          refine za rfl (oR 1 rfl (oP rfl (zL (n := (gdL w 0 [] []).length) (j := 1) rfl rfl Tryz.runUnderlying22 (List.length_map _)) (oP rfl (zJ rfl rfl (decide_eq_true hx0)) (oR 2 rfl (oG rfl (zJ rfl rfl (decide_eq_true fe)) (oR 3 rfl (oG rfl (zL (n := (gdL w 0 [] (z8 [r])).length) (j := 0) rfl rfl Tryz.runUnderlying22 (List.length_map _)) (oG rfl (zJ rfl rfl (decide_eq_true fn1)) (oR 3 rfl (oG rfl (zg (k := 0) (j := 0) rfl rfl rfl Tryz.runUnderlying22 Tryz.sizeOf53 (by first | rfl | omega) (ze hx2)) (oG rfl (zo rfl zab rfl) (oG rfl (zR rfl (i := 0) rfl (ze hx2) Tryz.isAgg3 rfl) (oR 1 rfl (oG rfl (zJ rfl rfl (decide_eq_true fyv)) (oR 3 rfl (oG rfl (zaH rfl rfl rfl) (oR 1 rfl (oG rfl (zg (k := 0) (j := 0) rfl rfl rfl Tryz.runUnderlying22 Tryz.sizeOf53 (by first | rfl | omega) (ze hx2)) (oG rfl (zo rfl z2 rfl) (oG rfl (zR rfl (i := 0) rfl (ze hx2) Tryz.isAgg50 rfl) (oG rfl (zaa (n := x2.ls.length) rfl Tryz.runUnderlying50 (by simp only [lm, lc, ln])) (oG rfl (zag rfl rfl (decide_eq_false fyl)) (oR 2 rfl (oG rfl (zaH rfl rfl rfl) (oR 1 rfl (oG rfl (zdj (r := .bool (decide (name = (⟨#[116, 111, 112, 107]⟩ : ByteArray)) == decide (name = (⟨#[116, 111, 112, 107]⟩ : ByteArray)))) rfl rfl (zbU _ _ _ _)) (oR 2 rfl (oZ rfl (jk [6] rfl (zl rfl ?_))))))))))))))))))))))))))))))
          exact zj Tryz.results9 (.cons (zr (zh rfl) (Cv.eq (congrArg (fun b => D.v (.bool b)) (by first | rfl | (simp; done) | (simp_all; done))))) .nil) rfl HSub.none ⟨rfl, rfl⟩

theorem noneC_c (name : ByteArray) (n : Int) (r : RowD) (hw : wayO name n = some (.top n)) :
    CD Tryz.prog 9 [] [.s name, dI n, RowD.d r] (isR (dB true)) := by
  refine zn Tryz.func9 rfl (N := 106) rfl rfl (fun C => ?_)
  refine jk [0, 1, 2] rfl ?_
  refine JD.bd 0 rfl (fun bd0 => ?_)
  have sz0 : name.size ≤ 9223372036854775807 := bd0
  refine JD.bd 2 rfl (fun bd2 => ?_)
  have hr1 : [r].length = 1 := rfl
  have he0 : gtE n 0 [] [] = (0 : Int) := (none_t n).1
  have he1 : ¬ gtE n 0 [] [] ≠ (0 : Int) := fun h => h he0
  have hx0 : (((gtL n 0 [] []).length : Nat) : Int) = (0 : Int) := by rw [(none_t n).2]; rfl
  have hnm := (way_top_name hw).2
  refine jT rfl (oE rfl (zbp rfl (CellD.agg)) ?_)
  rintro _ _ ⟨g1, rfl, rfl⟩
  refine oR 1 rfl (oZ rfl (jS rfl (jS rfl (jk [0, 1, 5, 6] rfl ?_))))
  refine zao 28 (((decide (n < (1 : Int)) || decide ((100 : Int) < n)) || !(zaq [r]))) [.bx g1 53 (RowD.d r)] (fun _ hQ2 => ?_) ?_
  · skip
    by_cases hg3 : n < (1 : Int)
    · skip
      refine za rfl (oR 1 rfl (oP rfl (zP rfl rfl (decide_eq_true hg3)) (oR 14 rfl (zi rfl ?_))))
      exact PD.sub ((28, dB ((decide (n < (1 : Int)) || decide ((100 : Int) < n)) || !(zaq [r]))) :: [(0, .s name), (1, dI n), (5, dP g1 0), (6, dB false)]) ⟨sc rfl (Cv.eq (congrArg (fun b => D.v (.bool b)) (by first | (simp [he0, he1, hg3, hx0]; done) | (simp_all; done)))), sk rfl, sk rfl, sk rfl, sk rfl, trivial⟩ hQ2
    · skip
      by_cases hg4 : (100 : Int) < n
      · skip
        refine za rfl (oR 1 rfl (oP rfl (zP rfl rfl (decide_eq_false hg3)) (oR 2 rfl (oG rfl (zag rfl rfl (decide_eq_true hg4)) (oR 11 rfl (zi rfl ?_))))))
        exact PD.sub ((28, dB ((decide (n < (1 : Int)) || decide ((100 : Int) < n)) || !(zaq [r]))) :: [(0, .s name), (1, dI n), (5, dP g1 0), (6, dB false)]) ⟨sc rfl (Cv.eq (congrArg (fun b => D.v (.bool b)) (by first | (simp [he0, he1, hg3, hg4, hx0]; done) | (simp_all; done)))), sk rfl, sk rfl, sk rfl, sk rfl, trivial⟩ hQ2
      · skip
        rcases Bool.eq_false_or_eq_true (zaq [r]) with hg5 | hg5
        · skip
          refine za rfl (oR 1 rfl (oP rfl (zP rfl rfl (decide_eq_false hg3)) (oR 2 rfl (oG rfl (zag rfl rfl (decide_eq_false hg4)) (oR 2 rfl (oG rfl (zam (d := RowD.d r) rfl (i := 0) rfl Tryz.isAgg53 Tryz.sizeOf53 rfl rfl) (oF rfl (Qu.ef (d := .sh 2 ([r].map RowD.d)) (zT [.tmp 20] rfl rfl (.cons CellD.agg .nil) rfl Tryz.runUnderlying22 Tryz.sizeOf53 Tryz.zeroValue53 rfl rfl rfl rfl)) ?_)))))))
          rintro _ _ ⟨rfl, rfl⟩
          refine oV rfl rfl acs Tryz.call10 (zbY [r]) (os 22 rfl (congrArg (fun b => D.v (.bool b)) hg5) (oR 3 rfl (oV rfl rfl acs Tryz.call30 (zbX) (oR 2 rfl (zi rfl ?_)))))
          exact PD.sub ((28, dB ((decide (n < (1 : Int)) || decide ((100 : Int) < n)) || !(zaq [r]))) :: [(0, .s name), (1, dI n), (5, dP g1 0), (6, dB false)]) ⟨sc rfl (Cv.eq (congrArg (fun b => D.v (.bool b)) (by first | (simp [he0, he1, hg3, hg4, hg5, hx0]; done) | (simp_all; done)))), sk rfl, sk rfl, sk rfl, sk rfl, trivial⟩ hQ2
        · skip
          refine za rfl (oR 1 rfl (oP rfl (zP rfl rfl (decide_eq_false hg3)) (oR 2 rfl (oG rfl (zag rfl rfl (decide_eq_false hg4)) (oR 2 rfl (oG rfl (zam (d := RowD.d r) rfl (i := 0) rfl Tryz.isAgg53 Tryz.sizeOf53 rfl rfl) (oF rfl (Qu.ef (d := .sh 2 ([r].map RowD.d)) (zT [.tmp 20] rfl rfl (.cons CellD.agg .nil) rfl Tryz.runUnderlying22 Tryz.sizeOf53 Tryz.zeroValue53 rfl rfl rfl rfl)) ?_)))))))
          rintro _ _ ⟨rfl, rfl⟩
          refine oV rfl rfl acs Tryz.call10 (zbY [r]) (os 22 rfl (congrArg (fun b => D.v (.bool b)) hg5) (oR 6 rfl (zi rfl ?_)))
          exact PD.sub ((28, dB ((decide (n < (1 : Int)) || decide ((100 : Int) < n)) || !(zaq [r]))) :: [(0, .s name), (1, dI n), (5, dP g1 0), (6, dB false)]) ⟨sc rfl (Cv.eq (congrArg (fun b => D.v (.bool b)) (by first | (simp [he0, he1, hg3, hg4, hg5, hx0]; done) | (simp_all; done)))), sk rfl, sk rfl, sk rfl, sk rfl, trivial⟩ hQ2
  · skip
    refine zc ?_
    refine jC rfl (fun hc6 => ?_) (fun hc6 => ?_)
    · simp only [bA, bB, bC, bD, bE, bF, bG, bH, bI, bJ] at hc6
      refine jT rfl (oW rfl rfl acs Tryz.call30 (zbX) (oR 1 rfl (oZ rfl (zl rfl (zb ?_)))))
      exact zj Tryz.results9 (.cons (zh rfl) .nil) rfl HSub.none ⟨rfl, rfl⟩
    · simp only [bA, bB, bC, bD, bE, bF, bG, bH, bI, bJ] at hc6
      have hlr : zaq [r] = true := by have h := hc6; first | exact h.2 | exact h.1.2 | exact h.1.1.2 | exact h.1 | exact h
      have hn1 : 1 ≤ n ∧ n ≤ 100 := by have h := hc6; omega
      have hli : ∀ x ∈ [r], zar x.ls = true := fun x hx => lightR_row hlr hx
      have htv := vr_tidy hlr
      have hts := zbZ hli
      have htl := hts.len
      rw [show [r].length = 1 from rfl] at htl
      refine zk rfl (zc (jT rfl (oR 2 rfl (oE rfl (zH [] _ [] rfl rfl (.cons ArgC.id (.cons ArgC.id (.cons ArgC.id (.cons (ArgC.cv Cv.nil) (.cons (ArgC.cv Cv.nil) .nil))))) zt Tryz.call31 (doT_c name n 0 [] [] 12 sortG12 (by first | decide | omega) hw (by omega) (by first | decide | omega)) (.inl rfl)) ?_))))
      rintro _ _ ⟨_, ⟨v7, rfl, rfl⟩, rfl⟩
      refine on rfl (oR 5 rfl (oZ rfl (jT rfl (oP rfl (zam (d := RowD.d r) rfl (i := 1) rfl Tryz.isAgg53 Tryz.sizeOf53 rfl rfl) (oE rfl (Qu.ef (d := .sh 2 ([r].map RowD.d)) (zT [.tmp 36] rfl rfl (.cons CellD.agg .nil) rfl Tryz.runUnderlying22 Tryz.sizeOf53 Tryz.zeroValue53 rfl rfl rfl rfl)) ?_)))))
      rintro _ _ ⟨rfl, rfl⟩
      refine oW rfl rfl acs Tryz.call12 (tidy10_c [r] (by omega) hli) (oR 1 rfl (oZ rfl (jk [0, 1, 6, 7, 8, 9] rfl (jT rfl (oR 3 rfl (oE rfl (zH [] _ [] rfl rfl (.cons ArgC.id (.cons ArgC.id (.cons ArgC.id (.cons (ArgC.cv Cv.nil) (.cons ArgC.id .nil))))) zt Tryz.call31 (doT_c name n 0 [] (z8 [r]) 12 sortG12 (by first | decide | omega) hw (by omega) (by first | decide | omega)) (.inl rfl)) ?_))))))
      rintro _ _ ⟨_, ⟨v8, rfl, rfl⟩, rfl⟩
      refine on rfl (oR 5 rfl (oZ rfl (jS rfl (jT rfl (oR 1 rfl (oP rfl (zbs rfl rfl (decide_eq_false he1)) (oR 2 rfl (oG rfl (zaa (n := (z8 [r]).length) rfl Tryz.runUnderlying22 (by simp only [lm, lc, ln])) (oG rfl (zJ rfl rfl rfl) (oR 1 rfl (oZ rfl (jk [0, 6, 7, 8, 9, 10, 11, 52] rfl ?_))))))))))))
      refine jD rfl (fun hc9 => ?_) (fun hc9 => ?_)
      · skip
        refine jT rfl (oR 1 rfl (oP rfl (zL (n := (gtL n 0 [] []).length) (j := 1) rfl rfl Tryz.runUnderlying22 (List.length_map _)) (oP rfl (zJ rfl rfl (decide_eq_true hx0)) (oR 2 rfl (oG rfl (zJ rfl rfl (decide_eq_true he0)) (oR 7 rfl (oZ rfl (jk [0, 6, 7, 9, 10, 11] rfl (zl rfl (zb ?_))))))))))
        exact zj Tryz.results9 (.cons (zh rfl) .nil) rfl HSub.none ⟨rfl, rfl⟩
      · skip
        refine zk rfl (zc (jT rfl (oR 1 rfl ?_)))
        obtain ⟨x1, hx1⟩ := zx (z8 [r]) 0 (by omega)
        have hA1 := one_of htl hx1
        refine oP rfl (zu (k := 0) rfl rfl Tryz.runUnderlying22 Tryz.sizeOf53 (by first | rfl | omega) (ze hx1)) (oP rfl (zF rfl zab rfl) (oP rfl (zG rfl Tryz.isAgg3 rfl) (oR 1 rfl (oZ rfl (jS rfl (jT rfl (oR 1 rfl (oP rfl (zaH rfl rfl rfl) (oZ rfl ?_)))))))))
        refine jD rfl (fun hc10 => ?_) (fun hc10 => ?_)
        · skip
          exfalso; exact absurd (hc10.symm.trans hnm) (by decide)
        · skip
          refine zk rfl (zc (jk [0, 6, 7, 10, 11, 12] rfl (jS rfl ?_)))
          have hvx : zV [x1] = true := by have h := htv; rw [hA1] at h; exact h
          have hb := one_t (by omega : 1 ≤ n) (x := x1) hvx
          have fe : gtE n 0 [] (z8 [r]) = 0 := by rw [hA1]; exact hb.1
          have fl : gtL n 0 [] (z8 [r]) = [x1] := by rw [hA1]; exact hb.2
          have fn1 : (((gtL n 0 [] (z8 [r])).length : Nat) : Int) = (1 : Int) := by rw [fl]; rfl
          have fp : 0 < (gtL n 0 [] (z8 [r])).length := by omega
          obtain ⟨x2, hx2⟩ := zx (gtL n 0 [] (z8 [r])) 0 (by omega)
          have fy : x2 = x1 := by have h := hx2; rw [fl] at h; injection h with h; exact h.symm
          have fyv : x2.v = x1.v := by rw [fy]
          by_cases hg11 : (0 : Int) < ((x2.ls.length : Nat) : Int)
          · skip
            refine za rfl (oR 1 rfl (oP rfl (zL (n := (gtL n 0 [] []).length) (j := 1) rfl rfl Tryz.runUnderlying22 (List.length_map _)) (oP rfl (zJ rfl rfl (decide_eq_true hx0)) (oR 2 rfl (oG rfl (zJ rfl rfl (decide_eq_true fe)) (oR 3 rfl (oG rfl (zL (n := (gtL n 0 [] (z8 [r])).length) (j := 0) rfl rfl Tryz.runUnderlying22 (List.length_map _)) (oG rfl (zJ rfl rfl (decide_eq_true fn1)) (oR 3 rfl (oG rfl (zg (k := 0) (j := 0) rfl rfl rfl Tryz.runUnderlying22 Tryz.sizeOf53 (by first | rfl | omega) (ze hx2)) (oG rfl (zo rfl zab rfl) (oG rfl (zR rfl (i := 0) rfl (ze hx2) Tryz.isAgg3 rfl) (oR 1 rfl (oG rfl (zJ rfl rfl (decide_eq_true fyv)) (oR 3 rfl (oG rfl (zaH rfl rfl rfl) (oR 1 rfl (oG rfl (zg (k := 0) (j := 0) rfl rfl rfl Tryz.runUnderlying22 Tryz.sizeOf53 (by first | rfl | omega) (ze hx2)) (oG rfl (zo rfl z2 rfl) (oG rfl (zR rfl (i := 0) rfl (ze hx2) Tryz.isAgg50 rfl) (oG rfl (zaa (n := x2.ls.length) rfl Tryz.runUnderlying50 (by simp only [lm, lc, ln])) (oG rfl (zag rfl rfl (decide_eq_true hg11)) (oR 4 rfl (oG rfl (zdj (r := .bool (decide (name = (⟨#[116, 111, 112, 107]⟩ : ByteArray)) == true)) rfl rfl (zbU _ _ _ _)) (oR 2 rfl (oZ rfl (jk [6] rfl (zl rfl ?_))))))))))))))))))))))))))))
            exact zj Tryz.results9 (.cons (zr (zh rfl) (Cv.eq (congrArg (fun b => D.v (.bool b)) (by first | rfl | (simp; done) | (simp [hnm]; done) | (simp_all; done))))) .nil) rfl HSub.none ⟨rfl, rfl⟩
          · skip
            refine za rfl (oR 1 rfl (oP rfl (zL (n := (gtL n 0 [] []).length) (j := 1) rfl rfl Tryz.runUnderlying22 (List.length_map _)) (oP rfl (zJ rfl rfl (decide_eq_true hx0)) (oR 2 rfl (oG rfl (zJ rfl rfl (decide_eq_true fe)) (oR 3 rfl (oG rfl (zL (n := (gtL n 0 [] (z8 [r])).length) (j := 0) rfl rfl Tryz.runUnderlying22 (List.length_map _)) (oG rfl (zJ rfl rfl (decide_eq_true fn1)) (oR 3 rfl (oG rfl (zg (k := 0) (j := 0) rfl rfl rfl Tryz.runUnderlying22 Tryz.sizeOf53 (by first | rfl | omega) (ze hx2)) (oG rfl (zo rfl zab rfl) (oG rfl (zR rfl (i := 0) rfl (ze hx2) Tryz.isAgg3 rfl) (oR 1 rfl (oG rfl (zJ rfl rfl (decide_eq_true fyv)) (oR 3 rfl (oG rfl (zaH rfl rfl rfl) (oR 1 rfl (oG rfl (zg (k := 0) (j := 0) rfl rfl rfl Tryz.runUnderlying22 Tryz.sizeOf53 (by first | rfl | omega) (ze hx2)) (oG rfl (zo rfl z2 rfl) (oG rfl (zR rfl (i := 0) rfl (ze hx2) Tryz.isAgg50 rfl) (oG rfl (zaa (n := x2.ls.length) rfl Tryz.runUnderlying50 (by simp only [lm, lc, ln])) (oG rfl (zag rfl rfl (decide_eq_false hg11)) (oR 2 rfl (oG rfl (zaH rfl rfl rfl) (oR 1 rfl (oG rfl (zdj (r := .bool (decide (name = (⟨#[116, 111, 112, 107]⟩ : ByteArray)) == decide (name = (⟨#[116, 111, 112, 107]⟩ : ByteArray)))) rfl rfl (zbU _ _ _ _)) (oR 2 rfl (oZ rfl (jk [6] rfl (zl rfl ?_))))))))))))))))))))))))))))))
            exact zj Tryz.results9 (.cons (zr (zh rfl) (Cv.eq (congrArg (fun b => D.v (.bool b)) (by first | rfl | (simp; done) | (simp [hnm]; done) | (simp_all; done))))) .nil) rfl HSub.none ⟨rfl, rfl⟩

theorem groupNone_c (name : ByteArray) (n : Int) (r : RowD) : CD Tryz.prog 9 [] [.s name, dI n, RowD.d r] (isR (dB true)) := by
  cases hw : wayO name n with
  | none => exact noneA_c name n r hw
  | some w =>
    cases hr : w.red with
    | true => exact noneB_c name n r w hw hr
    | false =>
      cases w with
      | sums m => cases hr
      | least => cases hr
      | most => cases hr
      | many => cases hr
      | rank p => exact absurd hr (by rw [way_rank hw]; simp)
      | top k => obtain rfl := (way_top_name hw).1; exact noneC_c name _ r hw
end Lp
