/- Walks, printed by a program of mine. -/
import Derived.Test.YtfjinapgehafiaaGreatShelfQ
set_option linter.unusedSimpArgs false
set_option linter.unusedVariables false
set_option maxHeartbeats 4000000
set_option maxRecDepth 100000
namespace Lp
open Go Go.RowKit Go.Proofs

namespace HdYtfjinapgehafiaaGreatV86
theorem zam (b o : Nat) : ∀ w, (Instr.fieldAt 53 (.pointer (some ⟨b, o, none⟩)) 1).run Tryz.prog w = .ok (.pointer (some ⟨b, o + 1, none⟩)) w := fun _ => by kernel_rfl
end HdYtfjinapgehafiaaGreatV86
open HdYtfjinapgehafiaaGreatV86

theorem sortG60 : SortG 60 := fun v l h => by
  rcases Nat.eq_zero_or_pos l.length with h0 | h0
  · exact sortG_c v l (by omega)
  · exact sortQ_cd (P := Tryz.prog) Go.Proofs.Tryz.sortRow Tryz.isAgg53 Tryz.sizeOf53 grC_tot (gid := 101) (fun a b => greater_c a b) (Go.Proofs.enters_of Tryz.func101 (by kernel_rfl) rfl) v 53 l h0 (by omega)

theorem tops11_c (n : Int) (more : Int) (mode : Int) (names : List ByteArray) (l : List RowD)  :
    CD Tryz.prog 5 [] [dI n, dI more, dI mode, .sh 1 (names.map D.s), .sh 2 (l.map RowD.d)] (isR (dB true)) := by
  refine zq Tryz.func5 rfl (N := 170) rfl rfl (fun C => ?_)
  refine jk [0, 1, 2, 3, 4] rfl ?_
  refine JD.bd 3 rfl (fun bd3 => ?_)
  have nl3 := zS bd3
  refine JD.bd 4 rfl (fun bd4 => ?_)
  have nl4 := zS bd4
  refine jT rfl (oR 1 rfl (oZ rfl (jS rfl (jS rfl (jk [0, 1, 2, 3, 4, 10] rfl ?_)))))
  refine zal 55 ((((((!(za7 l) || decide ((10 : Int) < ((names.length : Nat) : Int))) || decide (n < (1 : Int))) || decide ((20 : Int) < n)) || decide (more < (0 : Int))) || decide ((20 : Int) < more))) [] (fun _ hQ1 => ?_) ?_
  · skip
    rcases Bool.eq_false_or_eq_true (za7 l) with hg2 | hg2
    · skip
      by_cases hg3 : (10 : Int) < ((names.length : Nat) : Int)
      · skip
        refine za rfl (oR 1 rfl (oW rfl rfl acs Tryz.call10 (zbY l) (os 29 rfl (congrArg (fun b => D.v (.bool b)) hg2) (oR 3 rfl (oG rfl (z6 (n := names.length) rfl Tryz.runUnderlying23 (by simp only [lm, lc, ln])) (oG rfl (zah rfl rfl (decide_eq_true hg3)) (oR 21 rfl (ze rfl ?_))))))))
        exact PD.sub ((55, dB (((((!(za7 l) || decide ((10 : Int) < ((names.length : Nat) : Int))) || decide (n < (1 : Int))) || decide ((20 : Int) < n)) || decide (more < (0 : Int))) || decide ((20 : Int) < more))) :: [(0, dI n), (1, dI more), (2, dI mode), (3, .sh 1 (names.map D.s)), (4, .sh 2 (l.map RowD.d)), (10, dB false)]) ⟨sc rfl (Cv.eq (congrArg (fun b => D.v (.bool b)) (by first | (simp [hg2, hg3]; done) | (simp_all; done)))), sk rfl, sk rfl, sk rfl, sk rfl, sk rfl, sk rfl, trivial⟩ hQ1
      · skip
        by_cases hg4 : n < (1 : Int)
        · skip
          refine za rfl (oR 1 rfl (oW rfl rfl acs Tryz.call10 (zbY l) (os 29 rfl (congrArg (fun b => D.v (.bool b)) hg2) (oR 3 rfl (oG rfl (z6 (n := names.length) rfl Tryz.runUnderlying23 (by simp only [lm, lc, ln])) (oG rfl (zah rfl rfl (decide_eq_false hg3)) (oR 3 rfl (oG rfl (zQ rfl rfl (decide_eq_true hg4)) (oR 17 rfl (ze rfl ?_))))))))))
          exact PD.sub ((55, dB (((((!(za7 l) || decide ((10 : Int) < ((names.length : Nat) : Int))) || decide (n < (1 : Int))) || decide ((20 : Int) < n)) || decide (more < (0 : Int))) || decide ((20 : Int) < more))) :: [(0, dI n), (1, dI more), (2, dI mode), (3, .sh 1 (names.map D.s)), (4, .sh 2 (l.map RowD.d)), (10, dB false)]) ⟨sc rfl (Cv.eq (congrArg (fun b => D.v (.bool b)) (by first | (simp [hg2, hg3, hg4]; done) | (simp_all; done)))), sk rfl, sk rfl, sk rfl, sk rfl, sk rfl, sk rfl, trivial⟩ hQ1
        · skip
          by_cases hg5 : (20 : Int) < n
          · skip
            refine za rfl (oR 1 rfl (oW rfl rfl acs Tryz.call10 (zbY l) (os 29 rfl (congrArg (fun b => D.v (.bool b)) hg2) (oR 3 rfl (oG rfl (z6 (n := names.length) rfl Tryz.runUnderlying23 (by simp only [lm, lc, ln])) (oG rfl (zah rfl rfl (decide_eq_false hg3)) (oR 3 rfl (oG rfl (zQ rfl rfl (decide_eq_false hg4)) (oR 3 rfl (oG rfl (zah rfl rfl (decide_eq_true hg5)) (oR 13 rfl (ze rfl ?_))))))))))))
            exact PD.sub ((55, dB (((((!(za7 l) || decide ((10 : Int) < ((names.length : Nat) : Int))) || decide (n < (1 : Int))) || decide ((20 : Int) < n)) || decide (more < (0 : Int))) || decide ((20 : Int) < more))) :: [(0, dI n), (1, dI more), (2, dI mode), (3, .sh 1 (names.map D.s)), (4, .sh 2 (l.map RowD.d)), (10, dB false)]) ⟨sc rfl (Cv.eq (congrArg (fun b => D.v (.bool b)) (by first | (simp [hg2, hg3, hg4, hg5]; done) | (simp_all; done)))), sk rfl, sk rfl, sk rfl, sk rfl, sk rfl, sk rfl, trivial⟩ hQ1
          · skip
            by_cases hg6 : more < (0 : Int)
            · skip
              refine za rfl (oR 1 rfl (oW rfl rfl acs Tryz.call10 (zbY l) (os 29 rfl (congrArg (fun b => D.v (.bool b)) hg2) (oR 3 rfl (oG rfl (z6 (n := names.length) rfl Tryz.runUnderlying23 (by simp only [lm, lc, ln])) (oG rfl (zah rfl rfl (decide_eq_false hg3)) (oR 3 rfl (oG rfl (zQ rfl rfl (decide_eq_false hg4)) (oR 3 rfl (oG rfl (zah rfl rfl (decide_eq_false hg5)) (oR 3 rfl (oG rfl (zQ rfl rfl (decide_eq_true hg6)) (oR 9 rfl (ze rfl ?_))))))))))))))
              exact PD.sub ((55, dB (((((!(za7 l) || decide ((10 : Int) < ((names.length : Nat) : Int))) || decide (n < (1 : Int))) || decide ((20 : Int) < n)) || decide (more < (0 : Int))) || decide ((20 : Int) < more))) :: [(0, dI n), (1, dI more), (2, dI mode), (3, .sh 1 (names.map D.s)), (4, .sh 2 (l.map RowD.d)), (10, dB false)]) ⟨sc rfl (Cv.eq (congrArg (fun b => D.v (.bool b)) (by first | (simp [hg2, hg3, hg4, hg5, hg6]; done) | (simp_all; done)))), sk rfl, sk rfl, sk rfl, sk rfl, sk rfl, sk rfl, trivial⟩ hQ1
            · skip
              by_cases hg7 : (20 : Int) < more
              · skip
                refine za rfl (oR 1 rfl (oW rfl rfl acs Tryz.call10 (zbY l) (os 29 rfl (congrArg (fun b => D.v (.bool b)) hg2) (oR 3 rfl (oG rfl (z6 (n := names.length) rfl Tryz.runUnderlying23 (by simp only [lm, lc, ln])) (oG rfl (zah rfl rfl (decide_eq_false hg3)) (oR 3 rfl (oG rfl (zQ rfl rfl (decide_eq_false hg4)) (oR 3 rfl (oG rfl (zah rfl rfl (decide_eq_false hg5)) (oR 3 rfl (oG rfl (zQ rfl rfl (decide_eq_false hg6)) (oR 3 rfl (oG rfl (zah rfl rfl (decide_eq_true hg7)) (oR 5 rfl (ze rfl ?_))))))))))))))))
                exact PD.sub ((55, dB (((((!(za7 l) || decide ((10 : Int) < ((names.length : Nat) : Int))) || decide (n < (1 : Int))) || decide ((20 : Int) < n)) || decide (more < (0 : Int))) || decide ((20 : Int) < more))) :: [(0, dI n), (1, dI more), (2, dI mode), (3, .sh 1 (names.map D.s)), (4, .sh 2 (l.map RowD.d)), (10, dB false)]) ⟨sc rfl (Cv.eq (congrArg (fun b => D.v (.bool b)) (by first | (simp [hg2, hg3, hg4, hg5, hg6, hg7]; done) | (simp_all; done)))), sk rfl, sk rfl, sk rfl, sk rfl, sk rfl, sk rfl, trivial⟩ hQ1
              · skip
                refine za rfl (oR 1 rfl (oW rfl rfl acs Tryz.call10 (zbY l) (os 29 rfl (congrArg (fun b => D.v (.bool b)) hg2) (oR 3 rfl (oG rfl (z6 (n := names.length) rfl Tryz.runUnderlying23 (by simp only [lm, lc, ln])) (oG rfl (zah rfl rfl (decide_eq_false hg3)) (oR 3 rfl (oG rfl (zQ rfl rfl (decide_eq_false hg4)) (oR 3 rfl (oG rfl (zah rfl rfl (decide_eq_false hg5)) (oR 3 rfl (oG rfl (zQ rfl rfl (decide_eq_false hg6)) (oR 3 rfl (oG rfl (zah rfl rfl (decide_eq_false hg7)) (oR 2 rfl (oV rfl rfl acs Tryz.call30 (alive11_c) (oR 2 rfl (ze rfl ?_))))))))))))))))))
                exact PD.sub ((55, dB (((((!(za7 l) || decide ((10 : Int) < ((names.length : Nat) : Int))) || decide (n < (1 : Int))) || decide ((20 : Int) < n)) || decide (more < (0 : Int))) || decide ((20 : Int) < more))) :: [(0, dI n), (1, dI more), (2, dI mode), (3, .sh 1 (names.map D.s)), (4, .sh 2 (l.map RowD.d)), (10, dB false)]) ⟨sc rfl (Cv.eq (congrArg (fun b => D.v (.bool b)) (by first | (simp [hg2, hg3, hg4, hg5, hg6, hg7]; done) | (simp_all; done)))), sk rfl, sk rfl, sk rfl, sk rfl, sk rfl, sk rfl, trivial⟩ hQ1
    · skip
      refine za rfl (oR 1 rfl (oW rfl rfl acs Tryz.call10 (zbY l) (os 29 rfl (congrArg (fun b => D.v (.bool b)) hg2) (oR 26 rfl (ze rfl ?_)))))
      exact PD.sub ((55, dB (((((!(za7 l) || decide ((10 : Int) < ((names.length : Nat) : Int))) || decide (n < (1 : Int))) || decide ((20 : Int) < n)) || decide (more < (0 : Int))) || decide ((20 : Int) < more))) :: [(0, dI n), (1, dI more), (2, dI mode), (3, .sh 1 (names.map D.s)), (4, .sh 2 (l.map RowD.d)), (10, dB false)]) ⟨sc rfl (Cv.eq (congrArg (fun b => D.v (.bool b)) (by first | (simp [hg2]; done) | (simp_all; done)))), sk rfl, sk rfl, sk rfl, sk rfl, sk rfl, sk rfl, trivial⟩ hQ1
  · skip
    refine zb ?_
    refine jC rfl (fun hc8 => ?_) (fun hc8 => ?_)
    · simp only [bA, bB, bC, bD, bE, bF, bG, bH, bI, bJ] at hc8
      refine jT rfl (oW rfl rfl acs Tryz.call30 (alive11_c) (oR 1 rfl (oZ rfl (zm rfl (zd ?_)))))
      exact zl Tryz.results5 (.cons (zh rfl) .nil) rfl HSub.none ⟨rfl, rfl⟩
    · simp only [bA, bB, bC, bD, bE, bF, bG, bH, bI, bJ] at hc8
      have hlr : za7 l = true := by have h := hc8; first | exact h.1.1.1.1.1 | exact h.1.1.1.1 | exact h.1.1.1.1.1.1
      have hll := lightR_len hlr
      have hli : ∀ r ∈ l, zax r.ls = true := fun r hr => lightR_row hlr hr
      have htv := vr_tidy hlr
      have hts := tidyRs_trs hli
      have htl := hts.len
      have hlz := light_LZ hts.li
      have hn1 : 1 ≤ n := by omega
      have hn2 : n ≤ 20 := by omega
      have hm1 : 0 ≤ more := by omega
      have hm2 : more ≤ 20 := by omega
      have hF : TopF n (n + more) mode names (zC l) := topF htv hn1 (by omega)
      have fe1 := hF.e1
      have fe2 := hF.e2
      have fl1 := hF.l1
      have fl2 := hF.l2
      have ff5 := hF.f5
      have hgl : (zu mode names (zC l)).length ≤ 60 := by rw [zbv htv]; exact Nat.le_trans (splitG_len _) (by omega)
      refine zj rfl (zb (jT rfl (oR 1 rfl (oW rfl rfl acs Tryz.call12 (tidy10_c l (by omega) hli) (oR 1 rfl (oZ rfl (jT rfl (oR 4 rfl (oE rfl (zN [] _ [] rfl rfl (.cons (ArgC.cv (Cv.str (by first | decide | (unfold maxLen; omega)))) (.cons ArgC.id (.cons ArgC.id (.cons ArgC.id (.cons ArgC.id .nil))))) zz Tryz.call31 (doT_c (⟨#[116, 111, 112, 107]⟩ : ByteArray) n mode names (zC l) 60 sortG60 (by omega) (way_topk (by omega) (by omega)) (by omega) (by first | decide | omega)) (.inl rfl)) ?_)))))))))
      rintro _ _ ⟨_, ⟨v9, rfl, rfl⟩, rfl⟩
      refine on rfl (oR 5 rfl (oZ rfl (jk [0, 1, 2, 3, 10, 11, 12, 13] rfl (jT rfl (oR 2 rfl (oP rfl (zO (c := (n + more)) rfl rfl (zB (by omega) (by omega))) (oR 3 rfl (oE rfl (zN [] _ [] rfl rfl (.cons (ArgC.cv (Cv.str (by first | decide | (unfold maxLen; omega)))) (.cons ArgC.id (.cons ArgC.id (.cons ArgC.id (.cons ArgC.id .nil))))) zz Tryz.call31 (doT_c (⟨#[116, 111, 112, 107]⟩ : ByteArray) (n + more) mode names (zC l) 60 sortG60 (by omega) (way_topk (by omega) (by omega)) (by omega) (by first | decide | omega)) (.inl rfl)) ?_))))))))
      rintro _ _ ⟨_, ⟨v10, rfl, rfl⟩, rfl⟩
      refine on rfl (oR 5 rfl (oZ rfl (jk [0, 2, 3, 10, 11, 12, 13, 14, 15] rfl (jS rfl (jS rfl (jk [0, 2, 3, 10, 11, 12, 13, 14, 15] rfl ?_))))))
      refine zal 82 ((decide (gtE n mode names (zC l) ≠ (0 : Int)) || decide (gtE (n + more) mode names (zC l) ≠ (0 : Int)))) [.sl v10 2 53 ((gtL (n + more) mode names (zC l)).map RowD.d), .sl v9 2 53 ((gtL n mode names (zC l)).map RowD.d)] (fun _ hQ11 => ?_) ?_
      · skip
        by_cases hg12 : gtE n mode names (zC l) ≠ (0 : Int)
        · skip
          refine za rfl (oR 1 rfl (oP rfl (zbH rfl rfl (decide_eq_true hg12)) (oR 4 rfl (ze rfl ?_))))
          exact PD.sub ((82, dB (decide (gtE n mode names (zC l) ≠ (0 : Int)) || decide (gtE (n + more) mode names (zC l) ≠ (0 : Int)))) :: [(0, dI n), (2, dI mode), (3, .sh 1 (names.map D.s)), (10, dB false), (11, .sh 2 ((zC l).map RowD.d)), (12, .ov v9), (13, dI (gtE n mode names (zC l))), (14, .ov v10), (15, dI (gtE (n + more) mode names (zC l)))]) ⟨sc rfl (Cv.eq (congrArg (fun b => D.v (.bool b)) (by first | (simp [hg12]; done) | (simp_all; done)))), sk rfl, sk rfl, sk rfl, sk rfl, sk rfl, sk rfl, sk rfl, sk rfl, sk rfl, trivial⟩ hQ11
        · skip
          refine za rfl (oR 1 rfl (oP rfl (zbH rfl rfl (decide_eq_false hg12)) (oR 2 rfl (oG rfl (zbH rfl rfl rfl) (oR 1 rfl (ze rfl ?_))))))
          exact PD.sub ((82, dB (decide (gtE n mode names (zC l) ≠ (0 : Int)) || decide (gtE (n + more) mode names (zC l) ≠ (0 : Int)))) :: [(0, dI n), (2, dI mode), (3, .sh 1 (names.map D.s)), (10, dB false), (11, .sh 2 ((zC l).map RowD.d)), (12, .ov v9), (13, dI (gtE n mode names (zC l))), (14, .ov v10), (15, dI (gtE (n + more) mode names (zC l)))]) ⟨sc rfl (Cv.eq (congrArg (fun b => D.v (.bool b)) (by first | (simp [hg12]; done) | (simp_all; done)))), sk rfl, sk rfl, sk rfl, sk rfl, sk rfl, sk rfl, sk rfl, sk rfl, sk rfl, trivial⟩ hQ11
      · skip
        refine zb ?_
        refine jC rfl (fun hc13 => ?_) (fun hc13 => ?_)
        · simp only [bA, bB, bC, bD, bE, bF, bG, bH, bI, bJ] at hc13
          exfalso; simp [fe1, fe2] at hc13
        · simp only [bA, bB, bC, bD, bE, bF, bG, bH, bI, bJ] at hc13
          refine zj rfl (zb (jT rfl (oE rfl ef_makeMap ?_)))
          rintro _ _ ⟨g14, rfl, rfl⟩
          refine on rfl (oE rfl ef_makeMap ?_)
          rintro _ _ ⟨g15, rfl, rfl⟩
          refine on rfl (oR 2 rfl (oZ rfl (jS rfl (jT rfl (oR 1 rfl (oZ rfl (jB rfl (jl2 (fun (a_ : Nat) (b_ : List ByteArray) => [(0, dI n), (2, dI mode), (3, .sh 1 (names.map D.s)), (10, dB false), (11, .sh 2 ((zC l).map RowD.d)), (12, .ov v9), (14, .ov v10), (16, .v (.map (some g14))), (17, .v (.map (some g15))), (18, dN a_)]) (fun a_ b_ => [.mp g15 ([] : List ByteArray) (([] : List ByteArray).map fun _ => dB true), .mp g14 b_ (b_.map fun _ => dB true), .sl v10 2 53 ((gtL (n + more) mode names (zC l)).map RowD.d), .sl v9 2 53 ((gtL n mode names (zC l)).map RowD.d)]) (fun a_ b_ => (a_ ≤ (gtL n mode names (zC l)).length) ∧ (b_ = ((gtL n mode names (zC l)).take a_).map tx)) (fun a_ b_ => (gtL n mode names (zC l)).length - a_) 0 [] rfl (sa rfl) HSub.rfl' ⟨Nat.zero_le _, rfl⟩ ?_))))))))
          rintro i ks ⟨hil, hks⟩
          refine ja rfl (jn rfl (jS rfl (jT rfl (oR 2 rfl (oP rfl (zU (n := (gtL n mode names (zC l)).length) (j := 3) rfl rfl Tryz.runUnderlying22 (List.length_map _)) (oP rfl (zQ rfl rfl rfl) (oZ rfl ?_)))))))
          refine jD rfl (fun hc16 => ?_) (fun hc16 => ?_)
          · skip
            refine zj rfl (zb (jS rfl (jB rfl (za rfl (oR 3 rfl ?_)))))
            obtain ⟨x1, hx1⟩ := zy (gtL n mode names (zC l)) i (by omega)
            have hzx1 := hlz x1 (hF.s1 x1 (zae hx1))
            have hnk : ¬ tx x1 ∈ ks := by rw [hks]; exact hF.f6 i x1 hx1
            refine oP rfl (zi (k := i) (j := 3) rfl rfl rfl Tryz.runUnderlying22 Tryz.sizeOf53 (by first | rfl | omega) (zg hx1)) (oP rfl (zX (d := RowD.d x1) rfl (i := 3) rfl (zg hx1) Tryz.isAgg53 Tryz.sizeOf53 rfl rfl) (oW rfl rfl acs Tryz.call32 (zcx x1 hzx1.1 hzx1.2) (oE rfl (ef_put (i := 1) (d := dB true) rfl rfl rfl rfl Tryz.underlying57 Tryz.underlying9 hnk) ?_)))
            rintro _ _ ⟨rfl, rfl⟩
            refine OpsD.norm [.mp g15 ([] : List ByteArray) (([] : List ByteArray).map fun _ => dB true), .mp g14 (ks ++ [zau x1.ls]) ((ks ++ [zau x1.ls]).map fun _ => dB true), .sl v10 2 53 ((gtL (n + more) mode names (zC l)).map RowD.d), .sl v9 2 53 ((gtL n mode names (zC l)).map RowD.d)] (by simp only [List.map_append, List.map_cons, List.map_nil]; rfl) (ze rfl (zp (zb (za rfl (oR 1 rfl (oP rfl (zO (c := ((i + 1 : Nat) : Int)) rfl rfl (zB (by omega) (by omega))) (oR 1 rfl (ze rfl (pn rfl ?_)))))))))
            exact pl2 (i + 1) (ks ++ [zau x1.ls]) (sa rfl) HSub.rfl' ⟨by show i + 1 ≤ (gtL n mode names (zC l)).length; omega, by rw [hks, zab hx1, List.map_append]; rfl⟩ (by omega)
          · skip
            have hK : ks = (gtL n mode names (zC l)).map tx := by rw [hks, List.take_of_length_le (by omega)]
            refine zL rfl (zo (zn (zk (zb (jS rfl (jT rfl (oR 1 rfl (oZ rfl (jB rfl (jl2 (fun (a_ : Nat) (b_ : List ByteArray) => [(0, dI n), (2, dI mode), (3, .sh 1 (names.map D.s)), (10, dB false), (11, .sh 2 ((zC l).map RowD.d)), (12, .ov v9), (14, .ov v10), (16, .v (.map (some g14))), (17, .v (.map (some g15))), (19, dN a_)]) (fun a_ b_ => [.mp g15 b_ (b_.map fun _ => dB true), .mp g14 ks (ks.map fun _ => dB true), .sl v10 2 53 ((gtL (n + more) mode names (zC l)).map RowD.d), .sl v9 2 53 ((gtL n mode names (zC l)).map RowD.d)]) (fun a_ b_ => (a_ ≤ (gtL (n + more) mode names (zC l)).length) ∧ (b_ = ((gtL (n + more) mode names (zC l)).take a_).map tx)) (fun a_ b_ => (gtL (n + more) mode names (zC l)).length - a_) 0 [] rfl (sa rfl) HSub.rfl' ⟨Nat.zero_le _, rfl⟩ ?_))))))))))
            rintro j kw ⟨hjl, hkw⟩
            refine ja rfl (jn rfl (jS rfl (jT rfl (oR 2 rfl (oP rfl (zU (n := (gtL (n + more) mode names (zC l)).length) (j := 2) rfl rfl Tryz.runUnderlying22 (List.length_map _)) (oP rfl (zQ rfl rfl rfl) (oZ rfl ?_)))))))
            refine jD rfl (fun hc17 => ?_) (fun hc17 => ?_)
            · skip
              refine zj rfl (zb (jS rfl (jB rfl (za rfl (oR 3 rfl ?_)))))
              obtain ⟨x2, hx2⟩ := zy (gtL (n + more) mode names (zC l)) j (by omega)
              have hzx2 := hlz x2 (hF.s2 x2 (zae hx2))
              have hnk : ¬ tx x2 ∈ kw := by rw [hkw]; exact hF.f7 j x2 hx2
              refine oP rfl (zi (k := j) (j := 2) rfl rfl rfl Tryz.runUnderlying22 Tryz.sizeOf53 (by first | rfl | omega) (zg hx2)) (oP rfl (zX (d := RowD.d x2) rfl (i := 2) rfl (zg hx2) Tryz.isAgg53 Tryz.sizeOf53 rfl rfl) (oW rfl rfl acs Tryz.call32 (zcx x2 hzx2.1 hzx2.2) (oE rfl (ef_put (i := 0) (d := dB true) rfl rfl rfl rfl Tryz.underlying57 Tryz.underlying9 hnk) ?_)))
              rintro _ _ ⟨rfl, rfl⟩
              refine OpsD.norm [.mp g15 (kw ++ [zau x2.ls]) ((kw ++ [zau x2.ls]).map fun _ => dB true), .mp g14 ks (ks.map fun _ => dB true), .sl v10 2 53 ((gtL (n + more) mode names (zC l)).map RowD.d), .sl v9 2 53 ((gtL n mode names (zC l)).map RowD.d)] (by simp only [List.map_append, List.map_cons, List.map_nil]; rfl) (ze rfl (zp (zb (za rfl (oR 1 rfl (oP rfl (zO (c := ((j + 1 : Nat) : Int)) rfl rfl (zB (by omega) (by omega))) (oR 1 rfl (ze rfl (pn rfl ?_)))))))))
              exact pl2 (j + 1) (kw ++ [zau x2.ls]) (sa rfl) HSub.rfl' ⟨by show j + 1 ≤ (gtL (n + more) mode names (zC l)).length; omega, by rw [hkw, zab hx2, List.map_append]; rfl⟩ (by omega)
            · skip
              have hW : kw = (gtL (n + more) mode names (zC l)).map tx := by rw [hkw, List.take_of_length_le (by omega)]
              have f2 : ∀ g ∈ zu mode names (zC l), ∀ r ∈ g, hasN ks (tx r) = true → hasN kw (tx r) = true := by rw [hK, hW]; exact hF.f2
              have f3 : ∀ g ∈ zu mode names (zC l), ∀ r ∈ g, ∀ o ∈ g, hasN ks (tx r) = true → hasN ks (tx o) = false → ¬ r.v < o.v := by rw [hK]; exact hF.f3
              have f4 : ∀ g ∈ zu mode names (zC l), (((g.filter (fun r => hasN ks (tx r))).length : Nat) : Int) = min n ((g.length : Nat) : Int) := by rw [hK]; exact hF.f4
              refine zL rfl (zo (zn (zk (zb (jT rfl (oR 1 rfl (oZ rfl (jS rfl (jT rfl (oR 3 rfl (oW rfl rfl acs Tryz.call33 (splitF_c mode names (zC l) (by first | omega | decide)) (oP rfl (z6 (n := (zu mode names (zC l)).length) rfl Tryz.runUnderlying36 (by simp only [lm, lc, ln])) (oR 1 rfl (oZ rfl (jk [0, 10, 12, 16, 17, 20, 112, 113, 114] rfl (jB rfl (jl1 (fun (a_ : Nat) => [(0, dI n), (12, .ov v9), (16, .v (.map (some g14))), (17, .v (.map (some g15))), (112, .sh 1 ((zu mode names (zC l)).map (D.ls 2 RowD.d))), (113, dN ((zu mode names (zC l)).length)), (114, dN a_), (20, dN ((topR n ((zu mode names (zC l)).take a_)).length))]) (fun a_ => [.mp g15 kw (kw.map fun _ => dB true), .mp g14 ks (ks.map fun _ => dB true), .sl v10 2 53 ((gtL (n + more) mode names (zC l)).map RowD.d), .sl v9 2 53 ((gtL n mode names (zC l)).map RowD.d)]) (fun a_ => (a_ ≤ (zu mode names (zC l)).length)) (fun a_ => (zu mode names (zC l)).length - a_) 0 rfl ⟨sk rfl, sk rfl, sk rfl, sk rfl, sk rfl, sk rfl, sk rfl, sc rfl (Cv.eq rfl), trivial⟩ HSub.rfl' (Nat.zero_le _) ?_)))))))))))))))))
              rintro k hkl
              refine ja rfl (jn rfl ?_)
              have htr : (topR n ((zu mode names (zC l)).take k)).length ≤ 60 := by have h1 := @topR_len n ((zu mode names (zC l)).take k); have h2 := take_flat (zu mode names (zC l)) k; have h3 := flat_split (κ := kapB mode names) (zC l); rw [zbv htv] at h1 h2 ⊢; omega
              refine jT rfl (oP rfl (zQ rfl rfl rfl) (oZ rfl (jS rfl ?_)))
              refine jD rfl (fun hc18 => ?_) (fun hc18 => ?_)
              · skip
                obtain ⟨x3, hx3⟩ := zy (zu mode names (zC l)) k (by omega)
                obtain ⟨hne, hin, hle⟩ := grp htv (zae hx3)
                have hx0 := List.length_pos_iff.2 hne
                have hx60 : x3.length ≤ 60 := by omega
                have hxm := zae hx3
                refine zj rfl (zb (jS rfl (jB rfl (jT rfl (oP rfl (zr (k := k) rfl rfl Tryz.runUnderlying36 Tryz.sizeOf22 (by first | rfl | omega) (zg (f := (D.ls 2 RowD.d)) hx3)) (oP rfl (zH rfl Tryz.isAgg22 rfl) (oR 1 rfl (oZ rfl (jT rfl (oR 1 rfl (oZ rfl (jS rfl (jT rfl (oR 1 rfl (oP rfl (z6 (n := x3.length) rfl Tryz.runUnderlying22 (by simp only [lm, lc, ln])) (oR 1 rfl (oZ rfl (jB rfl ?_))))))))))))))))))
                refine jl1 (fun (a_ : Nat) => [(0, dI n), (12, .ov v9), (16, .v (.map (some g14))), (17, .v (.map (some g15))), (20, dN ((topR n ((zu mode names (zC l)).take k)).length)), (22, .sh 2 (x3.map RowD.d)), (112, .sh 1 ((zu mode names (zC l)).map (D.ls 2 RowD.d))), (113, dN ((zu mode names (zC l)).length)), (114, dN k), (115, dB (decide (((k : Nat) : Int) < (((zu mode names (zC l)).length : Nat) : Int)))), (116, .el (.sh 2 (x3.map RowD.d)) 0), (117, .sh 2 (x3.map RowD.d)), (118, .sh 2 (x3.map RowD.d)), (119, dN x3.length), (120, dN a_), (23, dN (((x3.take a_).filter (fun r => hasN ks (tx r))).length))]) (fun a_ => [.mp g15 kw (kw.map fun _ => dB true), .mp g14 ks (ks.map fun _ => dB true), .sl v10 2 53 ((gtL (n + more) mode names (zC l)).map RowD.d), .sl v9 2 53 ((gtL n mode names (zC l)).map RowD.d)]) (fun a_ => (a_ ≤ x3.length)) (fun a_ => x3.length - a_) 0 rfl ⟨sk rfl, sk rfl, sk rfl, sk rfl, sk rfl, sk rfl, sk rfl, sk rfl, sk rfl, sk rfl, sk rfl, sk rfl, sk rfl, sk rfl, sk rfl, sc rfl (Cv.eq (congrArg dI (by simp))), trivial⟩ HSub.rfl' (Nat.zero_le _) ?_
                rintro j3 hjl
                refine ja rfl (jn rfl ?_)
                have hkf : ((x3.take j3).filter (fun r => hasN ks (tx r))).length ≤ 60 := Nat.le_trans (List.length_filter_le _ _) (by rw [List.length_take]; omega)
                refine jT rfl (oP rfl (zQ rfl rfl rfl) (oZ rfl (jS rfl ?_)))
                refine jD rfl (fun hc19 => ?_) (fun hc19 => ?_)
                · skip
                  refine zj rfl (zb (jS rfl (jB rfl (jT rfl ?_))))
                  obtain ⟨x4, hx4⟩ := zy x3 j3 (by omega)
                  have hzx4 := hlz x4 (hin x4 (zae hx4))
                  refine oP rfl (zr (k := j3) rfl rfl Tryz.runUnderlying22 Tryz.sizeOf53 (by first | rfl | omega) (zg hx4)) (oP rfl (zaJ (d := RowD.d x4) rfl Tryz.isAgg53 Tryz.sizeOf53 rfl rfl) (oE rfl (zar (zv := (.agg #[(.slice none 0 0), (.int .i64 0)])) Tryz.zeroValue53 ⟨rfl, rfl, trivial⟩ (Cv.vagg (by decide))) ?_))
                  rintro _ _ ⟨g20, rfl, rfl⟩
                  refine oE rfl (zY (i := 0) (X' := RowD.d x4) rfl rfl rfl (CellD.agg) Tryz.sizeOf53 rfl rfl rfl) ?_
                  rintro _ _ ⟨rfl, rfl⟩
                  refine on rfl (oZ rfl (jS rfl (jT rfl (oR 1 rfl (oP rfl (zaP (d := RowD.d x4) rfl (i := 0) rfl Tryz.isAgg53 Tryz.sizeOf53 rfl rfl) (oW rfl rfl acs Tryz.call32 (zcx x4 hzx4.1 hzx4.2) (oP rfl (p_seen (i := 2) rfl rfl rfl Tryz.underlying57 Tryz.underlying9 Tryz.zeroValue4) (oP rfl (zbc rfl) (oZ rfl ?_)))))))))
                  refine jC rfl (fun hc21 => ?_) (fun hc21 => ?_)
                  · simp only [bA, bB, bC, bD, bE, bF, bG, bH, bI, bJ] at hc21
                    refine zL rfl (zo (zk (zb (za rfl (oP rfl (zO (c := ((j3 + 1 : Nat) : Int)) rfl rfl (zB (by omega) (by omega))) (oR 1 rfl (ze rfl (PD.subH (HSub.perm (z2 (i := 4) rfl)) (pn rfl (PD.subH (HSub.perm (z2 (i := 4) rfl)) (pn rfl (PD.subH (HSub.perm (z2 (i := 4) rfl)) (pn rfl (PD.subH (HSub.perm (z2 (i := 4) rfl)) (pn rfl (PD.subH (HSub.fst 4 rfl) (pn rfl ?_)))))))))))))))))
                    exact pl1 (j3 + 1) ⟨sk rfl, sk rfl, sk rfl, sk rfl, sk rfl, sk rfl, sk rfl, sk rfl, sk rfl, sk rfl, sk rfl, sk rfl, sk rfl, sk rfl, sk rfl, sc rfl (Cv.eq (congrArg dI (by have h1 := filt_f (p := fun r => hasN ks (tx r)) hx4 hc21; omega))), trivial⟩ HSub.rfl' (by show j3 + 1 ≤ x3.length; omega) (by omega)
                  · simp only [bA, bB, bC, bD, bE, bF, bG, bH, bI, bJ] at hc21
                    refine zj rfl (zb (jT rfl (oR 1 rfl (oP rfl (zO (c := (((((x3.take j3).filter (fun r => hasN ks (tx r))).length : Nat) : Int) + 1)) rfl rfl (zB (by omega) (by omega))) (oR 1 rfl (oZ rfl (jS rfl (jT rfl (oR 1 rfl (oP rfl (zaP (d := RowD.d x4) rfl (i := 0) rfl Tryz.isAgg53 Tryz.sizeOf53 rfl rfl) (oW rfl rfl acs Tryz.call32 (zcx x4 hzx4.1 hzx4.2) (oP rfl (p_seen (i := 1) rfl rfl rfl Tryz.underlying57 Tryz.underlying9 Tryz.zeroValue4) (oP rfl (zbc rfl) (oZ rfl ?_))))))))))))))
                    refine jC rfl (fun hc22 => ?_) (fun hc22 => ?_)
                    · simp only [bA, bB, bC, bD, bE, bF, bG, bH, bI, bJ] at hc22
                      exfalso; have hh : hasN kw (zau x4.ls) = true := f2 x3 hxm x4 (zae hx4) hc21; have h2 : hasN kw (zau x4.ls) = false := hc22; rw [h2] at hh; cases hh
                    · simp only [bA, bB, bC, bD, bE, bF, bG, bH, bI, bJ] at hc22
                      refine zj rfl (zb (jT rfl (oR 1 rfl (oP rfl (z6 (n := x3.length) rfl Tryz.runUnderlying22 (by simp only [lm, lc, ln])) (oR 1 rfl (oZ rfl (jB rfl ?_)))))))
                      refine jl1 (fun (a_ : Nat) => [(0, dI n), (12, .ov v9), (16, .v (.map (some g14))), (17, .v (.map (some g15))), (20, dN ((topR n ((zu mode names (zC l)).take k)).length)), (22, .sh 2 (x3.map RowD.d)), (23, dI (((((x3.take j3).filter (fun r => hasN ks (tx r))).length : Nat) : Int) + 1)), (25, dP g20 0), (112, .sh 1 ((zu mode names (zC l)).map (D.ls 2 RowD.d))), (113, dN ((zu mode names (zC l)).length)), (114, dN k), (115, dB (decide (((k : Nat) : Int) < (((zu mode names (zC l)).length : Nat) : Int)))), (116, .el (.sh 2 (x3.map RowD.d)) 0), (117, .sh 2 (x3.map RowD.d)), (118, .sh 2 (x3.map RowD.d)), (119, dN x3.length), (120, dN j3), (121, dB (decide (((j3 : Nat) : Int) < ((x3.length : Nat) : Int)))), (122, .el (RowD.d x4) 0), (123, RowD.d x4), (124, .v (.map (some g14))), (125, RowD.d x4), (126, .s (zau x4.ls)), (127, dB (hasN ks (zau x4.ls))), (128, dB (!(hasN ks (zau x4.ls)))), (129, dN (((x3.take j3).filter (fun r => hasN ks (tx r))).length)), (130, dI (((((x3.take j3).filter (fun r => hasN ks (tx r))).length : Nat) : Int) + 1)), (131, .v (.map (some g15))), (132, RowD.d x4), (133, .s (zau x4.ls)), (134, dB (hasN kw (zau x4.ls))), (135, dB (!(hasN kw (zau x4.ls)))), (136, .sh 2 (x3.map RowD.d)), (137, dN x3.length), (138, dN a_)]) (fun a_ => [.bx g20 53 (RowD.d x4), .mp g15 kw (kw.map fun _ => dB true), .mp g14 ks (ks.map fun _ => dB true), .sl v10 2 53 ((gtL (n + more) mode names (zC l)).map RowD.d), .sl v9 2 53 ((gtL n mode names (zC l)).map RowD.d)]) (fun a_ => (a_ ≤ x3.length)) (fun a_ => x3.length - a_) 0 rfl (sa rfl) HSub.rfl' (Nat.zero_le _) ?_
                      rintro q hql
                      refine ja rfl (jn rfl (jT rfl (oP rfl (zQ rfl rfl rfl) (oZ rfl (jS rfl ?_)))))
                      refine jD rfl (fun hc23 => ?_) (fun hc23 => ?_)
                      · skip
                        refine zj rfl (zb (jS rfl (jB rfl (jT rfl ?_))))
                        obtain ⟨x5, hx5⟩ := zy x3 q (by omega)
                        have hzx5 := hlz x5 (hin x5 (zae hx5))
                        refine oP rfl (zr (k := q) rfl rfl Tryz.runUnderlying22 Tryz.sizeOf53 (by first | rfl | omega) (zg hx5)) (oP rfl (zaJ (d := RowD.d x5) rfl Tryz.isAgg53 Tryz.sizeOf53 rfl rfl) (oE rfl (zar (zv := (.agg #[(.slice none 0 0), (.int .i64 0)])) Tryz.zeroValue53 ⟨rfl, rfl, trivial⟩ (Cv.vagg (by decide))) ?_))
                        rintro _ _ ⟨g24, rfl, rfl⟩
                        refine oE rfl (zY (i := 0) (X' := RowD.d x5) rfl rfl rfl (CellD.agg) Tryz.sizeOf53 rfl rfl rfl) ?_
                        rintro _ _ ⟨rfl, rfl⟩
                        refine on rfl (oZ rfl (jS rfl (jk [0, 12, 16, 17, 20, 22, 23, 25, 27, 112, 113, 114, 115, 116, 117, 118, 119, 120, 121, 122, 123, 124, 125, 126, 127, 128, 129, 130, 131, 132, 133, 134, 135, 136, 137, 138, 139, 140, 141] rfl ?_)))
                        refine zal 153 ((!(hasN ks (zau x5.ls)) && decide (x4.v < x5.v))) [.bx g24 53 (RowD.d x5), .bx g20 53 (RowD.d x4), .mp g15 kw (kw.map fun _ => dB true), .mp g14 ks (ks.map fun _ => dB true), .sl v10 2 53 ((gtL (n + more) mode names (zC l)).map RowD.d), .sl v9 2 53 ((gtL n mode names (zC l)).map RowD.d)] (fun _ hQ25 => ?_) ?_
                        · skip
                          rcases Bool.eq_false_or_eq_true (hasN ks (zau x5.ls)) with hg26 | hg26
                          · skip
                            refine za rfl (oR 1 rfl (oP rfl (zaP (d := RowD.d x5) rfl (i := 0) rfl Tryz.isAgg53 Tryz.sizeOf53 rfl rfl) (oW rfl rfl acs Tryz.call32 (zcx x5 hzx5.1 hzx5.2) (oP rfl ((p_seen (i := 3) rfl rfl rfl Tryz.underlying57 Tryz.underlying9 Tryz.zeroValue4).cv (Cv.eq (congrArg (fun b => D.v (.bool b)) hg26))) (oR 8 rfl (ze rfl ?_))))))
                            exact PD.sub ((153, dB (!(hasN ks (zau x5.ls)) && decide (x4.v < x5.v))) :: [(0, dI n), (12, .ov v9), (16, .v (.map (some g14))), (17, .v (.map (some g15))), (20, dN ((topR n ((zu mode names (zC l)).take k)).length)), (22, .sh 2 (x3.map RowD.d)), (23, dI (((((x3.take j3).filter (fun r => hasN ks (tx r))).length : Nat) : Int) + 1)), (25, dP g20 0), (27, dP g24 0), (112, .sh 1 ((zu mode names (zC l)).map (D.ls 2 RowD.d))), (113, dN ((zu mode names (zC l)).length)), (114, dN k), (115, dB (decide (((k : Nat) : Int) < (((zu mode names (zC l)).length : Nat) : Int)))), (116, .el (.sh 2 (x3.map RowD.d)) 0), (117, .sh 2 (x3.map RowD.d)), (118, .sh 2 (x3.map RowD.d)), (119, dN x3.length), (120, dN j3), (121, dB (decide (((j3 : Nat) : Int) < ((x3.length : Nat) : Int)))), (122, .el (RowD.d x4) 0), (123, RowD.d x4), (124, .v (.map (some g14))), (125, RowD.d x4), (126, .s (zau x4.ls)), (127, dB (hasN ks (zau x4.ls))), (128, dB (!(hasN ks (zau x4.ls)))), (129, dN (((x3.take j3).filter (fun r => hasN ks (tx r))).length)), (130, dI (((((x3.take j3).filter (fun r => hasN ks (tx r))).length : Nat) : Int) + 1)), (131, .v (.map (some g15))), (132, RowD.d x4), (133, .s (zau x4.ls)), (134, dB (hasN kw (zau x4.ls))), (135, dB (!(hasN kw (zau x4.ls)))), (136, .sh 2 (x3.map RowD.d)), (137, dN x3.length), (138, dN q), (139, dB (decide (((q : Nat) : Int) < ((x3.length : Nat) : Int)))), (140, .el (RowD.d x5) 0), (141, RowD.d x5)]) ⟨sc rfl (Cv.eq (congrArg (fun b => D.v (.bool b)) (by first | (simp [hc19, hc21, hc22, hc23, hg26]; done) | (simp_all; done)))), sk rfl, sk rfl, sk rfl, sk rfl, sk rfl, sk rfl, sk rfl, sk rfl, sk rfl, sk rfl, sk rfl, sk rfl, sk rfl, sk rfl, sk rfl, sk rfl, sk rfl, sk rfl, sk rfl, sk rfl, sk rfl, sk rfl, sk rfl, sk rfl, sk rfl, sk rfl, sk rfl, sk rfl, sk rfl, sk rfl, sk rfl, sk rfl, sk rfl, sk rfl, sk rfl, sk rfl, sk rfl, sk rfl, sk rfl, trivial⟩ hQ25
                          · skip
                            refine za rfl (oR 1 rfl (oP rfl (zaP (d := RowD.d x5) rfl (i := 0) rfl Tryz.isAgg53 Tryz.sizeOf53 rfl rfl) (oW rfl rfl acs Tryz.call32 (zcx x5 hzx5.1 hzx5.2) (oP rfl ((p_seen (i := 3) rfl rfl rfl Tryz.underlying57 Tryz.underlying9 Tryz.zeroValue4).cv (Cv.eq (congrArg (fun b => D.v (.bool b)) hg26))) (oR 2 rfl (oG rfl (zw rfl zam rfl) (oG rfl (zK rfl (i := 0) rfl Tryz.isAgg3 rfl) (oG rfl (zw rfl zam rfl) (oG rfl (zK rfl (i := 1) rfl Tryz.isAgg3 rfl) (oG rfl (zah rfl rfl rfl) (oR 1 rfl (ze rfl ?_))))))))))))
                            exact PD.sub ((153, dB (!(hasN ks (zau x5.ls)) && decide (x4.v < x5.v))) :: [(0, dI n), (12, .ov v9), (16, .v (.map (some g14))), (17, .v (.map (some g15))), (20, dN ((topR n ((zu mode names (zC l)).take k)).length)), (22, .sh 2 (x3.map RowD.d)), (23, dI (((((x3.take j3).filter (fun r => hasN ks (tx r))).length : Nat) : Int) + 1)), (25, dP g20 0), (27, dP g24 0), (112, .sh 1 ((zu mode names (zC l)).map (D.ls 2 RowD.d))), (113, dN ((zu mode names (zC l)).length)), (114, dN k), (115, dB (decide (((k : Nat) : Int) < (((zu mode names (zC l)).length : Nat) : Int)))), (116, .el (.sh 2 (x3.map RowD.d)) 0), (117, .sh 2 (x3.map RowD.d)), (118, .sh 2 (x3.map RowD.d)), (119, dN x3.length), (120, dN j3), (121, dB (decide (((j3 : Nat) : Int) < ((x3.length : Nat) : Int)))), (122, .el (RowD.d x4) 0), (123, RowD.d x4), (124, .v (.map (some g14))), (125, RowD.d x4), (126, .s (zau x4.ls)), (127, dB (hasN ks (zau x4.ls))), (128, dB (!(hasN ks (zau x4.ls)))), (129, dN (((x3.take j3).filter (fun r => hasN ks (tx r))).length)), (130, dI (((((x3.take j3).filter (fun r => hasN ks (tx r))).length : Nat) : Int) + 1)), (131, .v (.map (some g15))), (132, RowD.d x4), (133, .s (zau x4.ls)), (134, dB (hasN kw (zau x4.ls))), (135, dB (!(hasN kw (zau x4.ls)))), (136, .sh 2 (x3.map RowD.d)), (137, dN x3.length), (138, dN q), (139, dB (decide (((q : Nat) : Int) < ((x3.length : Nat) : Int)))), (140, .el (RowD.d x5) 0), (141, RowD.d x5)]) ⟨sc rfl (Cv.eq (congrArg (fun b => D.v (.bool b)) (by first | (simp [hc19, hc21, hc22, hc23, hg26]; done) | (simp_all; done)))), sk rfl, sk rfl, sk rfl, sk rfl, sk rfl, sk rfl, sk rfl, sk rfl, sk rfl, sk rfl, sk rfl, sk rfl, sk rfl, sk rfl, sk rfl, sk rfl, sk rfl, sk rfl, sk rfl, sk rfl, sk rfl, sk rfl, sk rfl, sk rfl, sk rfl, sk rfl, sk rfl, sk rfl, sk rfl, sk rfl, sk rfl, sk rfl, sk rfl, sk rfl, sk rfl, sk rfl, sk rfl, sk rfl, sk rfl, trivial⟩ hQ25
                        · skip
                          refine zb ?_
                          refine jC rfl (fun hc27 => ?_) (fun hc27 => ?_)
                          · simp only [bA, bB, bC, bD, bE, bF, bG, bH, bI, bJ] at hc27
                            exfalso; exact f3 x3 hxm x4 (zae hx4) x5 (zae hx5) hc21 hc27.1 hc27.2
                          · simp only [bA, bB, bC, bD, bE, bF, bG, bH, bI, bJ] at hc27
                            refine zj rfl (zp (zb (za rfl (oP rfl (zO (c := ((q + 1 : Nat) : Int)) rfl rfl (zB (by omega) (by omega))) (oR 1 rfl (ze rfl (PD.subH (HSub.perm (z2 (i := 5) rfl)) (pn rfl (PD.subH (HSub.perm (z2 (i := 5) rfl)) (pn rfl (PD.subH (HSub.perm (z2 (i := 5) rfl)) (pn rfl (PD.subH (HSub.perm (z2 (i := 5) rfl)) (pn rfl (PD.subH (HSub.perm (z2 (i := 5) rfl)) (pn rfl (PD.subH (HSub.fst 5 rfl) (pn rfl ?_))))))))))))))))))
                            exact pl1 (q + 1) (sa rfl) HSub.rfl' (by show q + 1 ≤ x3.length; omega) (by omega)
                      · skip
                        refine zL rfl (zo (zn (zk (zp (zb (za rfl (oP rfl (zO (c := ((j3 + 1 : Nat) : Int)) rfl rfl (zB (by omega) (by omega))) (oR 1 rfl (ze rfl (PD.subH (HSub.perm (z2 (i := 4) rfl)) (pn rfl (PD.subH (HSub.perm (z2 (i := 4) rfl)) (pn rfl (PD.subH (HSub.perm (z2 (i := 4) rfl)) (pn rfl (PD.subH (HSub.perm (z2 (i := 4) rfl)) (pn rfl (PD.subH (HSub.fst 4 rfl) (pn rfl ?_)))))))))))))))))))
                        exact pl1 (j3 + 1) ⟨sk rfl, sk rfl, sk rfl, sk rfl, sk rfl, sk rfl, sk rfl, sk rfl, sk rfl, sk rfl, sk rfl, sk rfl, sk rfl, sk rfl, sk rfl, sc rfl (Cv.eq (congrArg dI (by have h1 := filt_t (p := fun r => hasN ks (tx r)) hx4 hc21; omega))), trivial⟩ HSub.rfl' (by show j3 + 1 ≤ x3.length; omega) (by omega)
                · skip
                  refine zL rfl (zo (zn (zk (zb (jS rfl (jT rfl (oR 3 rfl (oP rfl (z6 (n := x3.length) rfl Tryz.runUnderlying22 (by simp only [lm, lc, ln])) (oP rfl (p_min rfl rfl rfl) (oP rfl (zbH rfl rfl rfl) (oZ rfl ?_)))))))))))
                  refine jD rfl (fun hc28 => ?_) (fun hc28 => ?_)
                  · skip
                    exfalso; have h2 := f4 x3 hxm; have h3 : x3.take j3 = x3 := List.take_of_length_le (by omega); rw [h3] at hc28; omega
                  · skip
                    refine zj rfl (zb (za rfl (oR 2 rfl (oP rfl (zO (c := ((((topR n ((zu mode names (zC l)).take k)).length : Nat) : Int) + ((((x3.take j3).filter (fun r => hasN ks (tx r))).length : Nat) : Int))) rfl rfl (zB (by omega) (by omega))) (oR 1 rfl (ze rfl (zp (zb (za rfl (oP rfl (zO (c := ((k + 1 : Nat) : Int)) rfl rfl (zB (by omega) (by omega))) (oR 1 rfl (ze rfl (pn rfl ?_)))))))))))))
                    exact pl1 (k + 1) ⟨sk rfl, sk rfl, sk rfl, sk rfl, sk rfl, sk rfl, sk rfl, sc rfl (Cv.eq (congrArg dI (by have h1 := topR_cnt (n := n) hx3; have h2 := f4 x3 (zae hx3); have h3 : x3.take j3 = x3 := List.take_of_length_le (by omega); rw [h3]; omega))), trivial⟩ HSub.rfl' (by show k + 1 ≤ (zu mode names (zC l)).length; omega) (by omega)
              · skip
                have hcnt : (topR n ((zu mode names (zC l)).take k)).length = (gtL n mode names (zC l)).length := by rw [List.take_of_length_le (by omega)]; exact ff5
                refine zL rfl (zo (zn (zk (zb (jT rfl (oR 2 rfl (oP rfl (zU (n := (gtL n mode names (zC l)).length) (j := 3) rfl rfl Tryz.runUnderlying22 (List.length_map _)) (oP rfl (zR rfl rfl rfl) (oR 1 rfl (oZ rfl (jk [10] rfl (zm rfl ?_))))))))))))
                exact zl Tryz.results5 (.cons (zx (zh rfl) (Cv.eq (congrArg (fun b => D.v (.bool b)) (by simp [hcnt])))) .nil) rfl HSub.none ⟨rfl, rfl⟩
end Lp
