/- Walks, printed by a program of mine. -/
import Derived.Test.YtheccaeefigajaaGreatDoorV96
set_option linter.unusedSimpArgs false
set_option linter.unusedVariables false
set_option maxHeartbeats 4000000
set_option maxRecDepth 100000
namespace Lp
open Go Go.RowKit Go.Proofs

namespace HdYtheccaeefigajaaGreatDoorV97
theorem bd_268 : ∀ w, ((#[⟨"of", 266, 0, false, "", "leporello/window", 0⟩] : Array Field).mapM fun f => do pure (f.offset, ← Go.sizeOf f.type) : Sem (Array (Nat × Nat))).run Tryz.prog w = .ok ([(0, 1)] : List (Nat × Nat)).toArray w := fun _ => by kernel_rfl
theorem bd_271 : ∀ w, ((#[⟨"of", 269, 0, false, "", "leporello/window", 0⟩] : Array Field).mapM fun f => do pure (f.offset, ← Go.sizeOf f.type) : Sem (Array (Nat × Nat))).run Tryz.prog w = .ok ([(0, 1)] : List (Nat × Nat)).toArray w := fun _ => by kernel_rfl
theorem bd_273 : ∀ w, ((#[⟨"each", 4, 0, false, "", "leporello/window", 0⟩] : Array Field).mapM fun f => do pure (f.offset, ← Go.sizeOf f.type) : Sem (Array (Nat × Nat))).run Tryz.prog w = .ok ([(0, 1)] : List (Nat × Nat)).toArray w := fun _ => by kernel_rfl
theorem infz_291 : ∃ i, Tryz.prog.info? 291 = some i ∧ i.zero = some (.agg #[(.string ByteArray.empty), (.int .i64 0), (.string ByteArray.empty), (.pointer none)]) ∧ i.size = 4 ∧ i.bytes = 48 := zbR (by kernel_rfl)
theorem und_282 : Tryz.prog.underlying 282 = some (.slice 291) := by kernel_rfl
end HdYtheccaeefigajaaGreatDoorV97
open HdYtheccaeefigajaaGreatDoorV97

theorem rm_bad {m : List MatD} {k : Nat} {x : MatD} (hx : m[k]? = some x) (h : zcw x = false) : false = rmD m := by
  unfold rmD
  rw [List.all_eq_false.2 ⟨x, List.mem_of_getElem? hx, by rw [h]; simp⟩]; rfl
theorem rm_end {m : List MatD} {k : Nat} (h : (m.take k).all zcw = true) (hk : m.length ≤ k) : decide (((m.length : Nat) : Int) ≤ 10) = rmD m := by
  rw [List.take_of_length_le hk] at h
  unfold rmD; rw [h, Bool.true_and]; exact decide_eq_decide.2 (by omega)

theorem all_c (m : List MatD) (hl : m.length ≤ 2000000) (hm : ∀ x ∈ m, x.n.size ≤ 1000 ∧ x.v.size ≤ 1000) :
    CD Tryz.prog 252 [] [.sh 3 (m.map MatD.d)] (fun r H' => r = .tup [.any, dB (rmD m)] ∧ H' = []) := by
  refine zq Tryz.func252 rfl (N := 31) rfl rfl (fun C => ?_)
  refine jk [0] rfl ?_
  refine JD.bd 0 rfl (fun bd0 => ?_)
  have nl0 := zbN bd0
  refine jT rfl (oR 2 rfl (oZ rfl (jT rfl (oR 1 rfl (oZ rfl (jS rfl (jT rfl (oR 1 rfl (oP rfl (zaV (n := m.length) rfl Tryz.runUnderlying24 (by simp only [lm, lc, ln])) (oR 1 rfl (oZ rfl (jB rfl (jl3 (fun (a_ : Nat) (b_ : Value) (c_ : List MatD) => [(0, .sh 3 (m.map MatD.d)), (9, .sh 3 (m.map MatD.d)), (10, dN m.length), (11, dN a_), (4, .ov b_)]) (fun a_ b_ c_ => [.sl b_ 4 291 (c_.map tstD)]) (fun a_ b_ c_ => (a_ ≤ m.length) ∧ ((m.take a_).all zcw = true) ∧ (c_.length ≤ a_)) (fun a_ b_ c_ => m.length - a_) 0 (.slice none 0 0) [] rfl ⟨sk rfl, sk rfl, sk rfl, sk rfl, sc rfl (Cv.ov rfl), trivial⟩ (HSub.nil 4 291) ⟨Nat.zero_le _, rfl, Nat.le_refl _⟩ ?_)))))))))))))
  rintro k ov o ⟨hk, ho, hol⟩
  refine ja rfl (jn rfl (jT rfl (oP rfl (zaA rfl rfl rfl) (oZ rfl (jS rfl ?_)))))
  refine jD rfl (fun hc1 => ?_) (fun hc1 => ?_)
  · skip
    refine zr rfl (zo (jS rfl (jB rfl (jT rfl ?_))))
    obtain ⟨x1, hx1⟩ := zaq m k (by omega)
    have hmx := hm x1 (List.mem_of_getElem? hx1)
    refine oP rfl (zK (k := k) rfl rfl Tryz.runUnderlying24 Tryz.sizeOf65 (by first | rfl | omega) (zan hx1)) (oP rfl (zbv (d := MatD.d x1) rfl Tryz.isAgg65 Tryz.sizeOf65 rfl rfl) (oE rfl (zx (zv := (.agg #[(.string ByteArray.empty), (.int .i64 0), (.string ByteArray.empty)])) Tryz.zeroValue65 ⟨rfl, rfl, rfl, trivial⟩ (Cv.vagg (by decide))) ?_))
    rintro _ _ ⟨g2, rfl, rfl⟩
    refine oE rfl (zg (i := 0) (X' := MatD.d x1) rfl rfl rfl (CellD.agg) Tryz.sizeOf65 rfl rfl rfl) ?_
    rintro _ _ ⟨rfl, rfl⟩
    refine on rfl (oZ rfl (jT rfl (oP rfl (zy (d := MatD.d x1) rfl (i := 0) rfl Tryz.isAgg65 Tryz.sizeOf65 rfl rfl) (oE rfl (zl [] [.bx g2 65 (MatD.d x1), .sl ov 4 291 (o.map tstD)] [] rfl rfl (.cons ArgC.id .nil) zh Tryz.call257 (ready_c x1 (by omega) (by omega)) (.inl rfl)) ?_))))
    rintro _ _ ⟨_, ⟨tm3, rfl, hqtm3, rfl⟩, rfl⟩
    refine on rfl (oR 3 rfl (oE rfl (zx (zv := (.agg #[(.string ByteArray.empty), (.int .i64 0), (.string ByteArray.empty), (.pointer none)])) Tryz.zeroValue291 ⟨rfl, rfl, rfl, rfl, trivial⟩ (Cv.vagg (by decide))) ?_))
    rintro _ _ ⟨g4, rfl, rfl⟩
    refine oE rfl (zg (i := 0) (X' := tstD tm3) rfl rfl rfl (CellD.agg) Tryz.sizeOf291 rfl rfl rfl) ?_
    rintro _ _ ⟨rfl, rfl⟩
    refine on rfl (oR 1 rfl (oZ rfl (jS rfl (jT rfl (oR 1 rfl (oP rfl (zbc rfl) (oZ rfl ?_)))))))
    refine jC rfl (fun hc5 => ?_) (fun hc5 => ?_)
    · simp only [bA, bB, bC, bD, bE, bF, bG, bH, bI, bJ] at hc5
      refine jT rfl (oR 2 rfl (oZ rfl (zn rfl (zj (zk (zj (zX (zk (zj ?_)))))))))
      exact zi Tryz.results252 (.cons (zu (zm rfl) (Cv.any rfl)) (.cons (zu (zm rfl) (Cv.eq (congrArg dB (rm_bad hx1 (by simpa using hc5))))) .nil)) rfl HSub.none ⟨rfl, rfl⟩
    · simp only [bA, bB, bC, bD, bE, bF, bG, bH, bI, bJ] at hc5
      refine zr rfl (zo (zf rfl (oR 1 rfl (oP rfl (zy (d := tstD tm3) rfl (i := 0) rfl Tryz.isAgg291 Tryz.sizeOf291 rfl rfl) (oE rfl (zF [.tmp 23] rfl rfl (.cons CellD.agg .nil) rfl Tryz.runUnderlying282 Tryz.sizeOf291 Tryz.zeroValue291 rfl rfl rfl rfl) ?_)))))
      rintro _ _ ⟨g6, rfl, rfl⟩
      refine oE rfl (zO (f := tstD) (l := o) (l' := [tm3]) (i := 3) rfl rfl rfl (SrcD.own (j := 0) rfl rfl) und_282 infz_291 rfl rfl (by unfold maxLen; (try simp only [la, lc, ln, lm, lt', ld, ls, lr]); omega) (by (try simp only [la, lc, ln, lm, lt', ld, ls, lr]); omega)) ?_
      rintro _ _ ⟨v7, rfl, rfl⟩
      refine on rfl (oR 1 rfl (zp rfl (zB (zo (zf rfl (oP rfl (zb1 (c := ((k + 1 : Nat) : Int)) rfl rfl (zaZ (by omega) (by omega))) (oR 1 rfl (zp rfl (PD.subH (HSub.perm (zc (i := 3) rfl)) (pn rfl (PD.subH (HSub.fst 1 rfl) (pn rfl ?_))))))))))))
      exact pl3 (k + 1) v7 (o ++ [tm3]) (sa rfl) HSub.rfl' ⟨by show k + 1 ≤ m.length; omega, by rw [take_snoc hx1, List.all_append, ho]; simpa using hc5, by simp only [la, List.length_singleton]; omega⟩ (by omega)
  · skip
    refine zah rfl (zH (zE (zC (zo (jT rfl (oR 2 rfl (oP rfl (zaV (n := m.length) rfl Tryz.runUnderlying24 (by simp only [lm, lc, ln])) (oP rfl (zbo rfl rfl rfl) (oR 2 rfl (oZ rfl (jk [2, 3] rfl (zn rfl ?_))))))))))))
    exact zi Tryz.results252 (.cons (zu (zm rfl) (Cv.oany)) (.cons (zu (zm rfl) (Cv.eq (congrArg dB (rm_end ho (by omega))))) .nil)) rfl HSub.none ⟨rfl, rfl⟩

theorem rightM_c (m : List MatD) (hl : m.length ≤ 2000000) (hm : ∀ x ∈ m, x.n.size ≤ 1000 ∧ x.v.size ≤ 1000) :
    CD Tryz.prog 245 [] [.sh 3 (m.map MatD.d)] (isR (dB (rmD m))) := by
  refine zq Tryz.func245 rfl (N := 11) rfl rfl (fun C => ?_)
  refine jk [0] rfl ?_
  refine JD.bd 0 rfl (fun bd0 => ?_)
  have nl0 := zbN bd0
  refine jT rfl (oR 1 rfl (oZ rfl (jT rfl (oR 1 rfl (oW rfl rfl acs Tryz.call252 (all_c m (by omega) hm) (oR 5 rfl (oZ rfl (jT rfl (oR 2 rfl (oZ rfl (jk [2] rfl (zn rfl ?_))))))))))))
  exact zi Tryz.results245 (.cons (zm rfl) .nil) rfl HSub.none ⟨rfl, rfl⟩

theorem aggs_c   :
    CD Tryz.prog 93 [] [] (isOwn 1 9 (aggN.map D.s)) := by
  refine zq Tryz.func93 rfl (N := 2) rfl rfl (fun C => ?_)
  refine jk [] rfl (jT rfl (oR 1 rfl (oZ rfl (jT rfl (oE rfl (zF [.const (.string (⟨#[115, 117, 109]⟩ : ByteArray)), .const (.string (⟨#[109, 105, 110]⟩ : ByteArray)), .const (.string (⟨#[109, 97, 120]⟩ : ByteArray)), .const (.string (⟨#[99, 111, 117, 110, 116]⟩ : ByteArray)), .const (.string (⟨#[97, 118, 103]⟩ : ByteArray)), .const (.string (⟨#[116, 111, 112, 107]⟩ : ByteArray)), .const (.string (⟨#[113, 117, 97, 110, 116, 105, 108, 101]⟩ : ByteArray))] rfl rfl (.cons (CellD.v rfl) (.cons (CellD.v rfl) (.cons (CellD.v rfl) (.cons (CellD.v rfl) (.cons (CellD.v rfl) (.cons (CellD.v rfl) (.cons (CellD.v rfl) .nil))))))) rfl Tryz.runUnderlying23 Tryz.sizeOf9 Tryz.zeroValue9 rfl rfl rfl rfl) ?_)))))
  rintro _ _ ⟨g1, rfl, rfl⟩
  refine oR 1 rfl (oZ rfl (zn rfl (PD.subH (HSub.turn (h' := .sl (vS g1 7 7) 1 9 ([(⟨#[115, 117, 109]⟩ : ByteArray), (⟨#[109, 105, 110]⟩ : ByteArray), (⟨#[109, 97, 120]⟩ : ByteArray), (⟨#[99, 111, 117, 110, 116]⟩ : ByteArray), (⟨#[97, 118, 103]⟩ : ByteArray), (⟨#[116, 111, 112, 107]⟩ : ByteArray), (⟨#[113, 117, 97, 110, 116, 105, 108, 101]⟩ : ByteArray)].map D.s)) rfl (Hp.cvs_sl (.cons (Cv.str (by first | decide | (unfold maxLen; omega))) (.cons (Cv.str (by first | decide | (unfold maxLen; omega))) (.cons (Cv.str (by first | decide | (unfold maxLen; omega))) (.cons (Cv.str (by first | decide | (unfold maxLen; omega))) (.cons (Cv.str (by first | decide | (unfold maxLen; omega))) (.cons (Cv.str (by first | decide | (unfold maxLen; omega))) (.cons (Cv.str (by first | decide | (unfold maxLen; omega))) .nil))))))))) (PD.subH (HSub.less (sub_one (i := 0) rfl)) (PD.subH (HSub.turn (h' := .sl (vS g1 7 7) 1 9 (aggN.map D.s)) rfl (Hp.eq_sl (show List.map D.s [(⟨#[115, 117, 109]⟩ : ByteArray), (⟨#[109, 105, 110]⟩ : ByteArray), (⟨#[109, 97, 120]⟩ : ByteArray), (⟨#[99, 111, 117, 110, 116]⟩ : ByteArray), (⟨#[97, 118, 103]⟩ : ByteArray), (⟨#[116, 111, 112, 107]⟩ : ByteArray), (⟨#[113, 117, 97, 110, 116, 105, 108, 101]⟩ : ByteArray)] = List.map D.s aggN from congrArg _ (by rfl)))) ?_)))))
  exact pd_ret Tryz.results93 (.cons (zm rfl) .nil) rfl ⟨_, rfl, rfl⟩

theorem zeK (name : ByteArray)  :
    CD Tryz.prog 29 [] [.s name] (isR (dB (hasN aggN name))) := by
  refine zq Tryz.func29 rfl (N := 6) rfl rfl (fun C => ?_)
  refine jk [0] rfl ?_
  refine JD.bd 0 rfl (fun bd0 => ?_)
  have sz0 : name.size ≤ 9223372036854775807 := bd0
  refine jT rfl (oR 1 rfl (oZ rfl (jT rfl (oE rfl (zl [] _ [] rfl rfl (.nil) zh Tryz.call93 (aggs_c) (.inl rfl)) ?_))))
  rintro _ _ ⟨_, ⟨v1, rfl, rfl⟩, rfl⟩
  refine on rfl (oR 1 rfl (oE rfl (zl [] _ [.sl v1 1 9 (aggN.map D.s)] rfl rfl (.cons (ArgC.own (j := 0) rfl rfl) (.cons ArgC.id .nil)) (lend_cons (j := 0) rfl zh) Tryz.call46 (containsS_c aggN name) (.inr (isR_flat rfl))) ?_))
  rintro _ _ ⟨_, ⟨rfl, rfl⟩, rfl⟩
  refine on rfl (oR 1 rfl (oZ rfl (zn rfl ?_)))
  exact zi Tryz.results29 (.cons (zm rfl) .nil) rfl HSub.none ⟨rfl, rfl⟩

theorem fnN_no {t : ByteArray} (h0 : ¬ t = ⟨#[115, 117, 109, 95, 111, 118, 101, 114]⟩) (h1 : ¬ t = ⟨#[97, 118, 103, 95, 111, 118, 101, 114]⟩) (h2 : ¬ t = ⟨#[109, 105, 110, 95, 111, 118, 101, 114]⟩) (h3 : ¬ t = ⟨#[109, 97, 120, 95, 111, 118, 101, 114]⟩) (h4 : ¬ t = ⟨#[99, 111, 117, 110, 116, 95, 111, 118, 101, 114]⟩) (h5 : ¬ t = ⟨#[108, 97, 115, 116, 95, 111, 118, 101, 114]⟩) (h6 : ¬ t = ⟨#[105, 110, 99, 114, 101, 97, 115, 101]⟩) (h7 : ¬ t = ⟨#[114, 97, 116, 101]⟩) : hasN fnN t = false := by
  unfold hasN fnN
  simp only [List.any_cons, List.any_nil, Bool.or_false, Bool.or_eq_false_iff, decide_eq_false_iff_not]
  exact ⟨Ne.symm h0, Ne.symm h1, Ne.symm h2, Ne.symm h3, Ne.symm h4, Ne.symm h5, Ne.symm h6, Ne.symm h7⟩

theorem winfn_c (name : ByteArray)  :
    CD Tryz.prog 231 [] [.s name] (fun r H' => ((∃ t x, r = .ifc t x ∧ hasN fnN name = true) ∨ (r = .v .nilIface ∧ hasN fnN name = false)) ∧ H' = []) := by
  refine zq Tryz.func231 rfl (N := 36) rfl rfl (fun C => ?_)
  refine jk [0] rfl ?_
  refine JD.bd 0 rfl (fun bd0 => ?_)
  have sz0 : name.size ≤ 9223372036854775807 := bd0
  refine jT rfl (oR 1 rfl (oZ rfl (jS rfl (jT rfl (oR 1 rfl (oZ rfl (jB rfl (jT rfl (oP rfl (zat rfl rfl rfl) (oR 1 rfl (oZ rfl ?_)))))))))))
  refine jD rfl (fun hc1 => ?_) (fun hc1 => ?_)
  · skip
    refine jT rfl (oP rfl (zD [0] [.func 238] (zv := (.agg #[.nilFunc])) rfl rfl (.cons CellD.fn .nil) (Tryz.runUnderlying268) Tryz.zeroValue268 bd_268 ⟨rfl, trivial⟩ rfl) (oP rfl (z7 rfl (fun _ _ => by kernel_rfl)) (oR 1 rfl (oZ rfl (zn rfl (zk (zj ?_)))))))
    exact zi Tryz.results231 (.cons (zm rfl) .nil) rfl HSub.none ⟨.inl ⟨268, _, rfl, by rw [hc1]; decide⟩, rfl⟩
  · skip
    refine jT rfl (oP rfl (zat rfl rfl rfl) (oR 1 rfl (oZ rfl ?_)))
    refine jD rfl (fun hc2 => ?_) (fun hc2 => ?_)
    · skip
      refine jT rfl (oP rfl (zD [0] [.func 239] (zv := (.agg #[.nilFunc])) rfl rfl (.cons CellD.fn .nil) (Tryz.runUnderlying268) Tryz.zeroValue268 bd_268 ⟨rfl, trivial⟩ rfl) (oP rfl (z7 rfl (fun _ _ => by kernel_rfl)) (oR 1 rfl (oZ rfl (zn rfl (zk (zj ?_)))))))
      exact zi Tryz.results231 (.cons (zm rfl) .nil) rfl HSub.none ⟨.inl ⟨268, _, rfl, by rw [hc2]; decide⟩, rfl⟩
    · skip
      refine jT rfl (oP rfl (zat rfl rfl rfl) (oR 1 rfl (oZ rfl ?_)))
      refine jD rfl (fun hc3 => ?_) (fun hc3 => ?_)
      · skip
        refine jT rfl (oP rfl (zD [0] [.func 240] (zv := (.agg #[.nilFunc])) rfl rfl (.cons CellD.fn .nil) (Tryz.runUnderlying271) Tryz.zeroValue271 bd_271 ⟨rfl, trivial⟩ rfl) (oP rfl (z7 rfl (fun _ _ => by kernel_rfl)) (oR 1 rfl (oZ rfl (jk [2] rfl (zn rfl (zk (zj ?_))))))))
        exact zi Tryz.results231 (.cons (zm rfl) .nil) rfl HSub.none ⟨.inl ⟨271, _, rfl, by rw [hc3]; decide⟩, rfl⟩
      · skip
        refine jT rfl (oP rfl (zat rfl rfl rfl) (oR 1 rfl (oZ rfl ?_)))
        refine jD rfl (fun hc4 => ?_) (fun hc4 => ?_)
        · skip
          refine jT rfl (oP rfl (zD [0] [.func 241] (zv := (.agg #[.nilFunc])) rfl rfl (.cons CellD.fn .nil) (Tryz.runUnderlying271) Tryz.zeroValue271 bd_271 ⟨rfl, trivial⟩ rfl) (oP rfl (z7 rfl (fun _ _ => by kernel_rfl)) (oR 1 rfl (oZ rfl (jk [2] rfl (zn rfl (zk (zj ?_))))))))
          exact zi Tryz.results231 (.cons (zm rfl) .nil) rfl HSub.none ⟨.inl ⟨271, _, rfl, by rw [hc4]; decide⟩, rfl⟩
        · skip
          refine jT rfl (oP rfl (zat rfl rfl rfl) (oR 1 rfl (oZ rfl (jk [2, 3, 20] rfl ?_))))
          refine jD rfl (fun hc5 => ?_) (fun hc5 => ?_)
          · skip
            refine jT rfl (oP rfl (zD [0] [.func 242] (zv := (.agg #[.nilFunc])) rfl rfl (.cons CellD.fn .nil) (Tryz.runUnderlying271) Tryz.zeroValue271 bd_271 ⟨rfl, trivial⟩ rfl) (oP rfl (z7 rfl (fun _ _ => by kernel_rfl)) (oR 1 rfl (oZ rfl (zn rfl (zk (zj ?_)))))))
            exact zi Tryz.results231 (.cons (zm rfl) .nil) rfl HSub.none ⟨.inl ⟨271, _, rfl, by rw [hc5]; decide⟩, rfl⟩
          · skip
            refine jT rfl (oP rfl (zat rfl rfl rfl) (oR 1 rfl (oZ rfl ?_)))
            refine jD rfl (fun hc6 => ?_) (fun hc6 => ?_)
            · skip
              refine jT rfl (oP rfl (zD [0] [.func 243] (zv := (.agg #[.nilFunc])) rfl rfl (.cons CellD.fn .nil) (Tryz.runUnderlying271) Tryz.zeroValue271 bd_271 ⟨rfl, trivial⟩ rfl) (oP rfl (z7 rfl (fun _ _ => by kernel_rfl)) (oR 1 rfl (oZ rfl (zn rfl (zk (zj ?_)))))))
              exact zi Tryz.results231 (.cons (zm rfl) .nil) rfl HSub.none ⟨.inl ⟨271, _, rfl, by rw [hc6]; decide⟩, rfl⟩
            · skip
              refine jT rfl (oP rfl (zat rfl rfl rfl) (oR 1 rfl (oZ rfl ?_)))
              refine jD rfl (fun hc7 => ?_) (fun hc7 => ?_)
              · skip
                refine jT rfl (oP rfl (zD [] [] (zv := (.agg #[(.bool false)])) rfl rfl (.nil) (Tryz.runUnderlying273) Tryz.zeroValue273 bd_273 ⟨rfl, trivial⟩ rfl) (oP rfl (z7 rfl (fun _ _ => by kernel_rfl)) (oR 1 rfl (oZ rfl (zn rfl (zk (zj ?_)))))))
                exact zi Tryz.results231 (.cons (zm rfl) .nil) rfl HSub.none ⟨.inl ⟨273, _, rfl, by rw [hc7]; decide⟩, rfl⟩
              · skip
                refine jT rfl (oP rfl (zat rfl rfl rfl) (oR 1 rfl (oZ rfl ?_)))
                refine jD rfl (fun hc8 => ?_) (fun hc8 => ?_)
                · skip
                  refine jT rfl (oP rfl (zD [0] [.const (.bool true)] (zv := (.agg #[(.bool false)])) rfl rfl (.cons (CellD.v rfl) .nil) (Tryz.runUnderlying273) Tryz.zeroValue273 bd_273 ⟨rfl, trivial⟩ rfl) (oP rfl (z7 rfl (fun _ _ => by kernel_rfl)) (oR 1 rfl (oZ rfl (jk [2] rfl (zn rfl (zk (zj ?_))))))))
                  exact zi Tryz.results231 (.cons (zm rfl) .nil) rfl HSub.none ⟨.inl ⟨273, _, rfl, by rw [hc8]; decide⟩, rfl⟩
                · skip
                  refine zr rfl (zB (zo (jT rfl (oR 1 rfl (oZ rfl (zn rfl ?_))))))
                  exact zi Tryz.results231 (.cons (zm rfl) .nil) rfl HSub.none ⟨.inr ⟨rfl, fnN_no hc1 hc2 hc3 hc4 hc5 hc6 hc7 hc8⟩, rfl⟩

theorem CD.to {P : Program} {f : FuncId} {H : List Hp} {ds : List D} {R R' : D → List Hp → Prop} (h : CD P f H ds R) (k : ∀ r H', R r H' → R' r H') : CD P f H ds R' :=
  ⟨fun w F vs h1 h2 h3 => (h.out w F vs h1 h2 h3).mono (by rintro e w' ⟨u, he, F', d, H', hR, hr, hg⟩; exact ⟨u, he, F', d, H', k _ _ hR, hr, hg⟩)⟩
theorem winfn_t {name : ByteArray} (h : hasN fnN name = true) : CD Tryz.prog 231 [] [.s name] (fun r H' => ∃ t x, r = .ifc t x ∧ H' = []) := (winfn_c name).to (by
  rintro r H' ⟨⟨t, x, e, _⟩ | ⟨_, e⟩, e2⟩
  · exact ⟨t, x, e, e2⟩
  · rw [h] at e; cases e)
theorem winfn_f {name : ByteArray} (h : hasN fnN name = false) : CD Tryz.prog 231 [] [.s name] (fun r H' => r = .v .nilIface ∧ H' = []) := (winfn_c name).to (by
  rintro r H' ⟨⟨t, x, _, e⟩ | ⟨e, _⟩, e2⟩
  · rw [h] at e; cases e
  · exact ⟨e, e2⟩)
theorem p_ifc_ne {ty t t' : TypeId} {K : Kd} {H : List Hp} {x y : Operand} {T : TypeId} {d : D} (hx : opD K x = some (.ifc T d)) (hy : y = .const .nilIface) (ht : t = 20) : Pu Tryz.prog (.binOp .neq t x y t') ty K H (dB true) :=
  ⟨fun ρ F0 F hk _ _ => by
    subst hy; subst ht
    obtain ⟨u, e, _⟩ := hk.op hx
    exact zcu (zz ρ [x, .const .nilIface]) (zbq ρ e) (zbp ρ rfl) (fun w => by kernel_rfl) ⟨rfl, rfl⟩⟩

theorem Fn_c (name : ByteArray)  :
    CD Tryz.prog 221 [] [.s name] (isR (dB (hasN fnN name))) := by
  refine zq Tryz.func221 rfl (N := 6) rfl rfl (fun C => ?_)
  refine jk [0] rfl ?_
  refine JD.bd 0 rfl (fun bd0 => ?_)
  have sz0 : name.size ≤ 9223372036854775807 := bd0
  rcases Bool.eq_false_or_eq_true (hasN fnN name) with hw | hw
  · skip
    refine jT rfl (oR 1 rfl (oZ rfl (jT rfl (oR 1 rfl (oE rfl (zl [] [] [] rfl rfl (.cons ArgC.id .nil) zh Tryz.call231 (winfn_t hw) (.inl rfl)) ?_)))))
    rintro _ _ ⟨_, ⟨tw, xw, rfl, rfl⟩, rfl⟩
    refine on rfl (oP rfl (p_ifc_ne rfl rfl rfl) (oR 1 rfl (oZ rfl (zn rfl ?_))))
    exact zi Tryz.results221 (.cons (zu (zm rfl) (Cv.eq (congrArg (fun b => D.v (.bool b)) (by rw [hw])))) .nil) rfl HSub.none ⟨rfl, rfl⟩
  · skip
    refine jT rfl (oR 1 rfl (oZ rfl (jT rfl (oR 1 rfl (oE rfl (zl [] [] [] rfl rfl (.cons ArgC.id .nil) zh Tryz.call231 (winfn_f hw) (.inl rfl)) ?_)))))
    rintro _ _ ⟨_, ⟨rfl, rfl⟩, rfl⟩
    refine on rfl (oP rfl (zdO (r := .bool false) rfl rfl (fun _ => by kernel_rfl)) (oR 1 rfl (oZ rfl (zn rfl ?_))))
    exact zi Tryz.results221 (.cons (zu (zm rfl) (Cv.eq (congrArg (fun b => D.v (.bool b)) (by rw [hw])))) .nil) rfl HSub.none ⟨rfl, rfl⟩

theorem kept_c (s : ByteArray)  :
    CD Tryz.prog 232 [] [.s s] (isR (dB (zd1 s))) := by
  refine zq Tryz.func232 rfl (N := 14) rfl rfl (fun C => ?_)
  refine jk [0] rfl ?_
  refine JD.bd 0 rfl (fun bd0 => ?_)
  have sz0 : s.size ≤ 9223372036854775807 := bd0
  refine jT rfl (oR 1 rfl (oZ rfl (jS rfl (jk [0] rfl ?_))))
  refine zT 2 (((hasN aggN s || hasN fnN s) || hasN [(⟨#[111, 114, 100, 101, 114]⟩ : ByteArray), (⟨#[108, 105, 109, 105, 116]⟩ : ByteArray), (⟨#[111, 102, 102, 115, 101, 116]⟩ : ByteArray), (⟨#[97, 115, 99]⟩ : ByteArray), (⟨#[100, 101, 115, 99]⟩ : ByteArray), (⟨#[111, 110]⟩ : ByteArray), (⟨#[105, 103, 110, 111, 114, 105, 110, 103]⟩ : ByteArray), (⟨#[98, 121]⟩ : ByteArray), (⟨#[119, 105, 116, 104, 111, 117, 116]⟩ : ByteArray)] s)) [] (fun _ hQ1 => ?_) ?_
  · skip
    rcases Bool.eq_false_or_eq_true (hasN aggN s) with hg2 | hg2
    · skip
      refine zf rfl (oR 1 rfl (oW rfl rfl acs Tryz.call29 (zeK s) (os 4 rfl (congrArg (fun b => D.v (.bool b)) hg2) (oR 10 rfl (zp rfl ?_)))))
      exact PD.sub ((2, dB ((hasN aggN s || hasN fnN s) || hasN [(⟨#[111, 114, 100, 101, 114]⟩ : ByteArray), (⟨#[108, 105, 109, 105, 116]⟩ : ByteArray), (⟨#[111, 102, 102, 115, 101, 116]⟩ : ByteArray), (⟨#[97, 115, 99]⟩ : ByteArray), (⟨#[100, 101, 115, 99]⟩ : ByteArray), (⟨#[111, 110]⟩ : ByteArray), (⟨#[105, 103, 110, 111, 114, 105, 110, 103]⟩ : ByteArray), (⟨#[98, 121]⟩ : ByteArray), (⟨#[119, 105, 116, 104, 111, 117, 116]⟩ : ByteArray)] s)) :: [(0, .s s)]) ⟨sc rfl (Cv.eq (congrArg (fun b => D.v (.bool b)) (by first | (simp [hg2]; done) | (simp_all; done)))), sk rfl, trivial⟩ hQ1
    · skip
      rcases Bool.eq_false_or_eq_true (hasN fnN s) with hg3 | hg3
      · skip
        refine zf rfl (oR 1 rfl (oW rfl rfl acs Tryz.call29 (zeK s) (os 4 rfl (congrArg (fun b => D.v (.bool b)) hg2) (oR 2 rfl (oV rfl rfl acs Tryz.call221 (Fn_c s) (os 7 rfl (congrArg (fun b => D.v (.bool b)) hg3) (oR 7 rfl (zp rfl ?_))))))))
        exact PD.sub ((2, dB ((hasN aggN s || hasN fnN s) || hasN [(⟨#[111, 114, 100, 101, 114]⟩ : ByteArray), (⟨#[108, 105, 109, 105, 116]⟩ : ByteArray), (⟨#[111, 102, 102, 115, 101, 116]⟩ : ByteArray), (⟨#[97, 115, 99]⟩ : ByteArray), (⟨#[100, 101, 115, 99]⟩ : ByteArray), (⟨#[111, 110]⟩ : ByteArray), (⟨#[105, 103, 110, 111, 114, 105, 110, 103]⟩ : ByteArray), (⟨#[98, 121]⟩ : ByteArray), (⟨#[119, 105, 116, 104, 111, 117, 116]⟩ : ByteArray)] s)) :: [(0, .s s)]) ⟨sc rfl (Cv.eq (congrArg (fun b => D.v (.bool b)) (by first | (simp [hg2, hg3]; done) | (simp_all; done)))), sk rfl, trivial⟩ hQ1
      · skip
        refine zf rfl (oR 1 rfl (oW rfl rfl acs Tryz.call29 (zeK s) (os 4 rfl (congrArg (fun b => D.v (.bool b)) hg2) (oR 2 rfl (oV rfl rfl acs Tryz.call221 (Fn_c s) (os 7 rfl (congrArg (fun b => D.v (.bool b)) hg3) (oR 2 rfl ?_)))))))
        refine oF rfl (Qu.ef (d := .sh 1 ([(⟨#[111, 114, 100, 101, 114]⟩ : ByteArray), (⟨#[108, 105, 109, 105, 116]⟩ : ByteArray), (⟨#[111, 102, 102, 115, 101, 116]⟩ : ByteArray), (⟨#[97, 115, 99]⟩ : ByteArray), (⟨#[100, 101, 115, 99]⟩ : ByteArray), (⟨#[111, 110]⟩ : ByteArray), (⟨#[105, 103, 110, 111, 114, 105, 110, 103]⟩ : ByteArray), (⟨#[98, 121]⟩ : ByteArray), (⟨#[119, 105, 116, 104, 111, 117, 116]⟩ : ByteArray)].map D.s)) ((zw [.const (.string (⟨#[111, 114, 100, 101, 114]⟩ : ByteArray)), .const (.string (⟨#[108, 105, 109, 105, 116]⟩ : ByteArray)), .const (.string (⟨#[111, 102, 102, 115, 101, 116]⟩ : ByteArray)), .const (.string (⟨#[97, 115, 99]⟩ : ByteArray)), .const (.string (⟨#[100, 101, 115, 99]⟩ : ByteArray)), .const (.string (⟨#[111, 110]⟩ : ByteArray)), .const (.string (⟨#[105, 103, 110, 111, 114, 105, 110, 103]⟩ : ByteArray)), .const (.string (⟨#[98, 121]⟩ : ByteArray)), .const (.string (⟨#[119, 105, 116, 104, 111, 117, 116]⟩ : ByteArray))] rfl rfl (.cons (CellD.v rfl) (.cons (CellD.v rfl) (.cons (CellD.v rfl) (.cons (CellD.v rfl) (.cons (CellD.v rfl) (.cons (CellD.v rfl) (.cons (CellD.v rfl) (.cons (CellD.v rfl) (.cons (CellD.v rfl) .nil))))))))) rfl Tryz.runUnderlying23 Tryz.sizeOf9 Tryz.zeroValue9 rfl rfl rfl rfl).cv (Cv.shs (.cons (Cv.str (by first | decide | (unfold maxLen; omega))) (.cons (Cv.str (by first | decide | (unfold maxLen; omega))) (.cons (Cv.str (by first | decide | (unfold maxLen; omega))) (.cons (Cv.str (by first | decide | (unfold maxLen; omega))) (.cons (Cv.str (by first | decide | (unfold maxLen; omega))) (.cons (Cv.str (by first | decide | (unfold maxLen; omega))) (.cons (Cv.str (by first | decide | (unfold maxLen; omega))) (.cons (Cv.str (by first | decide | (unfold maxLen; omega))) (.cons (Cv.str (by first | decide | (unfold maxLen; omega))) .nil)))))))))))) ?_
        rintro _ _ ⟨rfl, rfl⟩
        refine oR 1 rfl (oV rfl rfl acs Tryz.call46 (containsS_c [(⟨#[111, 114, 100, 101, 114]⟩ : ByteArray), (⟨#[108, 105, 109, 105, 116]⟩ : ByteArray), (⟨#[111, 102, 102, 115, 101, 116]⟩ : ByteArray), (⟨#[97, 115, 99]⟩ : ByteArray), (⟨#[100, 101, 115, 99]⟩ : ByteArray), (⟨#[111, 110]⟩ : ByteArray), (⟨#[105, 103, 110, 111, 114, 105, 110, 103]⟩ : ByteArray), (⟨#[98, 121]⟩ : ByteArray), (⟨#[119, 105, 116, 104, 111, 117, 116]⟩ : ByteArray)] s) (oR 2 rfl (zp rfl ?_)))
        exact PD.sub ((2, dB ((hasN aggN s || hasN fnN s) || hasN [(⟨#[111, 114, 100, 101, 114]⟩ : ByteArray), (⟨#[108, 105, 109, 105, 116]⟩ : ByteArray), (⟨#[111, 102, 102, 115, 101, 116]⟩ : ByteArray), (⟨#[97, 115, 99]⟩ : ByteArray), (⟨#[100, 101, 115, 99]⟩ : ByteArray), (⟨#[111, 110]⟩ : ByteArray), (⟨#[105, 103, 110, 111, 114, 105, 110, 103]⟩ : ByteArray), (⟨#[98, 121]⟩ : ByteArray), (⟨#[119, 105, 116, 104, 111, 117, 116]⟩ : ByteArray)] s)) :: [(0, .s s)]) ⟨sc rfl (Cv.eq (congrArg (fun b => D.v (.bool b)) (by first | (simp [hg2, hg3]; done) | (simp_all; done)))), sk rfl, trivial⟩ hQ1
  · skip
    refine zo (zn rfl ?_)
    exact zi Tryz.results232 (.cons (zu (zm rfl) (Cv.eq (congrArg (fun b => D.v (.bool b)) (by rfl)))) .nil) rfl HSub.none ⟨rfl, rfl⟩

theorem numbered_c (name : ByteArray)  :
    CD Tryz.prog 146 [] [.s name] (isR (dB (zbr name))) := by
  refine zq Tryz.func146 rfl (N := 9) rfl rfl (fun C => ?_)
  refine jk [0] rfl ?_
  refine JD.bd 0 rfl (fun bd0 => ?_)
  have sz0 : name.size ≤ 9223372036854775807 := bd0
  refine jT rfl (oR 1 rfl (oZ rfl (jS rfl (jk [0] rfl ?_))))
  refine zT 2 ((decide (name = (⟨#[116, 111, 112, 107]⟩ : ByteArray)) || decide (name = (⟨#[113, 117, 97, 110, 116, 105, 108, 101]⟩ : ByteArray)))) [] (fun _ hQ1 => ?_) ?_
  · skip
    by_cases hg2 : name = (⟨#[116, 111, 112, 107]⟩ : ByteArray)
    · skip
      refine zf rfl (oR 1 rfl (oP rfl (zat rfl rfl (decide_eq_true hg2)) (oR 5 rfl (zp rfl ?_))))
      exact PD.sub ((2, dB (decide (name = (⟨#[116, 111, 112, 107]⟩ : ByteArray)) || decide (name = (⟨#[113, 117, 97, 110, 116, 105, 108, 101]⟩ : ByteArray)))) :: [(0, .s name)]) ⟨sc rfl (Cv.eq (congrArg (fun b => D.v (.bool b)) (by first | (simp [hg2]; done) | (simp_all; done)))), sk rfl, trivial⟩ hQ1
    · skip
      refine zf rfl (oR 1 rfl (oP rfl (zat rfl rfl (decide_eq_false hg2)) (oR 2 rfl (oG rfl (zat rfl rfl rfl) (oR 2 rfl (zp rfl ?_))))))
      exact PD.sub ((2, dB (decide (name = (⟨#[116, 111, 112, 107]⟩ : ByteArray)) || decide (name = (⟨#[113, 117, 97, 110, 116, 105, 108, 101]⟩ : ByteArray)))) :: [(0, .s name)]) ⟨sc rfl (Cv.eq (congrArg (fun b => D.v (.bool b)) (by first | (simp [hg2]; done) | (simp_all; done)))), sk rfl, trivial⟩ hQ1
  · skip
    refine zo (zn rfl ?_)
    exact zi Tryz.results146 (.cons (zu (zm rfl) (Cv.eq (congrArg (fun b => D.v (.bool b)) (by rfl)))) .nil) rfl HSub.none ⟨rfl, rfl⟩

theorem op_idx (t : ByteArray) : (idxN t 0 [tEq, tNe, zaR, zY] + 1 : Int) = opM t := by
  unfold opM
  by_cases h1 : t = tEq
  · rw [if_pos h1, h1]; decide
  · by_cases h2 : t = tNe
    · rw [if_neg h1, if_pos h2, h2]; decide
    · by_cases h3 : t = zaR
      · rw [if_neg h1, if_neg h2, if_pos h3, h3]; decide
      · by_cases h4 : t = zY
        · rw [if_neg h1, if_neg h2, if_neg h3, if_pos h4, h4]; decide
        · rw [if_neg h1, if_neg h2, if_neg h3, if_neg h4]
          simp only [idxN, if_neg h1, if_neg h2, if_neg h3, if_neg h4]; rfl
theorem op_bd (t : ByteArray) : -1 ≤ idxN t 0 [tEq, tNe, zaR, zY] ∧ idxN t 0 [tEq, tNe, zaR, zY] ≤ 3 := by
  have h := op_idx t
  have h2 : 0 ≤ opM t ∧ opM t ≤ 4 := by unfold opM; repeat' split
                                        all_goals omega
  omega

theorem opM_c (s : ByteArray)  :
    CD Tryz.prog 244 [] [.s s] (isR (dI (opM s))) := by
  refine zq Tryz.func244 rfl (N := 7) rfl rfl (fun C => ?_)
  refine jk [0] rfl ?_
  refine JD.bd 0 rfl (fun bd0 => ?_)
  have sz0 : s.size ≤ 9223372036854775807 := bd0
  have hob : -1 ≤ idxN s 0 [(⟨#[61]⟩ : ByteArray), (⟨#[33, 61]⟩ : ByteArray), (⟨#[61, 126]⟩ : ByteArray), (⟨#[33, 126]⟩ : ByteArray)] ∧ idxN s 0 [(⟨#[61]⟩ : ByteArray), (⟨#[33, 61]⟩ : ByteArray), (⟨#[61, 126]⟩ : ByteArray), (⟨#[33, 126]⟩ : ByteArray)] ≤ 3 := op_bd s
  refine jT rfl (oR 1 rfl (oZ rfl (jT rfl (oE rfl (Qu.ef (d := .sh 1 ([(⟨#[61]⟩ : ByteArray), (⟨#[33, 61]⟩ : ByteArray), (⟨#[61, 126]⟩ : ByteArray), (⟨#[33, 126]⟩ : ByteArray)].map D.s)) ((zw [.const (.string (⟨#[61]⟩ : ByteArray)), .const (.string (⟨#[33, 61]⟩ : ByteArray)), .const (.string (⟨#[61, 126]⟩ : ByteArray)), .const (.string (⟨#[33, 126]⟩ : ByteArray))] rfl rfl (.cons (CellD.v rfl) (.cons (CellD.v rfl) (.cons (CellD.v rfl) (.cons (CellD.v rfl) .nil)))) rfl Tryz.runUnderlying23 Tryz.sizeOf9 Tryz.zeroValue9 rfl rfl rfl rfl).cv (Cv.shs (.cons (Cv.str (by first | decide | (unfold maxLen; omega))) (.cons (Cv.str (by first | decide | (unfold maxLen; omega))) (.cons (Cv.str (by first | decide | (unfold maxLen; omega))) (.cons (Cv.str (by first | decide | (unfold maxLen; omega))) .nil))))))) ?_))))
  rintro _ _ ⟨rfl, rfl⟩
  refine oR 1 rfl (oW rfl rfl acs Tryz.call117 (indexS_c [(⟨#[61]⟩ : ByteArray), (⟨#[33, 61]⟩ : ByteArray), (⟨#[61, 126]⟩ : ByteArray), (⟨#[33, 126]⟩ : ByteArray)] s) (oP rfl (zb1 (c := (idxN s 0 [(⟨#[61]⟩ : ByteArray), (⟨#[33, 61]⟩ : ByteArray), (⟨#[61, 126]⟩ : ByteArray), (⟨#[33, 126]⟩ : ByteArray)] + 1)) rfl rfl (zaZ (by omega) (by omega))) (oR 1 rfl (oZ rfl (zn rfl ?_)))))
  exact zi Tryz.results244 (.cons (zu (zm rfl) (Cv.eq (congrArg (fun n => D.v (.int .i64 n)) (by exact op_idx s)))) .nil) rfl HSub.none ⟨rfl, rfl⟩
end Lp
