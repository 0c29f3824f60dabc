/- Walks, printed by a program of mine. -/
import Derived.Test.YtfjinapgehafiaaDMapE
set_option linter.unusedSimpArgs false
set_option linter.unusedVariables false
namespace Lp
open Go Go.RowKit Go.Proofs

namespace HdYtfjinapgehafiaaV64
theorem zdI : ∀ w, ((#[⟨"Labels", 27, 0, false, "", "", 0⟩, ⟨"V", 3, 1, false, "", "", 24⟩] : Array Field).mapM fun f => do pure (f.offset, ← Go.sizeOf f.type) : Sem (Array (Nat × Nat))).run Try.prog w = .ok ([(0, 1), (1, 1)] : List (Nat × Nat)).toArray w := fun _ => by kernel_rfl
theorem zao (b o : Nat) : ∀ w, (Instr.fieldAt 30 (.pointer (some ⟨b, o, none⟩)) 0).run Try.prog w = .ok (.pointer (some ⟨b, o + 0, none⟩)) w := fun _ => by kernel_rfl
theorem zaE (b o : Nat) : ∀ w, (Instr.fieldAt 30 (.pointer (some ⟨b, o, none⟩)) 1).run Try.prog w = .ok (.pointer (some ⟨b, o + 1, none⟩)) w := fun _ => by kernel_rfl
theorem za4 : ∃ i, Try.prog.info? 30 = some i ∧ i.zero = some (.agg #[(.slice none 0 0), (.int .i64 0)]) ∧ i.size = 2 ∧ i.bytes = 32 := zbG (by kernel_rfl)
theorem zbm : Try.prog.underlying 22 = some (.slice 30) := by kernel_rfl
end HdYtfjinapgehafiaaV64
open HdYtfjinapgehafiaaV64

set_option maxHeartbeats 4000000 in
set_option maxRecDepth 100000 in
theorem keyed_t (l : List RowD) (mode : Int) (names : List ByteArray) (hl : l.length ≤ 1000000) (hz : LZ l) (hn : ndT mode names l) :
    CD Try.prog 26 [] [.sh 2 (l.map RowD.d), dI mode, .sh 1 (names.map D.s)] (fun r H' => ∃ g, r = .tup [.v (.map (some g)), dB true] ∧ H' = [.mp g (z9 mode names l) (l.map RowD.d)]) := by
  refine zL Try.func26 rfl (N := 39) rfl rfl (fun C => ?_)
  refine JD.keep [0, 1, 2] [(0, .sh 2 (l.map RowD.d)), (1, dI mode), (2, .sh 1 (names.map D.s))] rfl ?_
  refine JD.bd 0 rfl (fun bd0 => ?_)
  have nl0 := zae bd0
  refine JD.bd 2 rfl (fun bd2 => ?_)
  have nl2 := zae bd2
  refine zh _ _ rfl rfl rfl (zc rfl (za rfl rfl (ze rfl) (za rfl rfl (ze rfl) (zg rfl (zf (zh _ _ rfl rfl rfl (zc rfl (zl rfl rfl ef_makeMap ?_))))))))
  rintro _ _ ⟨g1, rfl, rfl⟩
  refine OpsD.norm [.mp g1 ([] : List ByteArray) (([] : List RowD).map RowD.d)] rfl (za rfl rfl (ze rfl) (zg rfl (zf (zh _ _ rfl rfl rfl (zh _ _ rfl rfl rfl (zc rfl (za rfl rfl (zb rfl) (za rfl rfl (zar (n := l.length) rfl Try.runUnderlying22 (by simp only [lm, lc, ln])) (za rfl rfl (zb rfl) (zg rfl (zf (zy _ rfl rfl (z7 (fun (g : Nat × List ByteArray × List RowD) => [(1, dI mode), (2, .sh 1 (names.map D.s)), (8, .v (.map (some g1))), (15, .sh 2 (l.map RowD.d)), (16, dN l.length), (17, dN g.1)]) (fun (g : Nat × List ByteArray × List RowD) => [.mp g1 g.2.1 (g.2.2.map RowD.d)]) (fun (g : Nat × List ByteArray × List RowD) => (g.1 ≤ l.length) ∧ (g.2.1 = z9 mode names (l.take g.1)) ∧ (g.2.2 = l.take g.1) ∧ (g.2.1.Nodup)) (fun (g : Nat × List ByteArray × List RowD) => l.length - g.1) _ (0, [], []) rfl rfl ⟨sk rfl, sk rfl, sk rfl, sk rfl, sk rfl, sk rfl, trivial⟩ HSub.rfl' ⟨Nat.zero_le _, rfl, rfl, List.nodup_nil⟩ ?_)))))))))))))
  rintro ⟨k, ks, xs⟩ ⟨hkl, hks, hxs, hnd⟩
  replace hkl : k ≤ l.length := hkl
  replace hks : ks = z9 mode names (l.take k) := hks
  replace hxs : xs = l.take k := hxs
  replace hnd : ks.Nodup := hnd
  refine JD.keep [1, 2, 8, 15, 16, 17] [(1, dI mode), (2, .sh 1 (names.map D.s)), (8, .v (.map (some g1))), (15, .sh 2 (l.map RowD.d)), (16, dN l.length), (17, dN k)] rfl (JD.norm [.mp g1 ks (xs.map RowD.d)] rfl (zh _ _ rfl rfl rfl (zc rfl (za rfl rfl (zaa rfl rfl rfl) (zg rfl (zf (zh _ _ rfl rfl rfl ?_)))))))
  refine zu _ _ rfl rfl rfl rfl (fun hc2 => ?_) (fun hc2 => ?_)
  · replace hc2 := of_decide_eq_true hc2
    refine zz rfl (zf (zh _ _ rfl rfl rfl (zy _ rfl rfl (zh _ _ rfl rfl rfl (zc rfl ?_)))))
    obtain ⟨x1, hx1⟩ := zV l k (by omega)
    have hzz := (hz x1 (zbb hx1)).1
    have hkz := hz.key (zbb hx1) mode names
    have hkz1 := hkz.1
    refine za rfl rfl (zJ (k := k) rfl rfl Try.runUnderlying22 Try.sizeOf30 (by first | rfl | omega) (zw hx1)) (za rfl rfl (zaL (d := RowD.d x1) rfl Try.isAgg30 Try.sizeOf30 rfl rfl) (zl rfl rfl (zaN (zv := (.agg #[(.slice none 0 0), (.int .i64 0)])) Try.zeroValue30 ⟨rfl, rfl, trivial⟩ (Cv.vagg (by decide))) ?_))
    rintro _ _ ⟨g3, rfl, rfl⟩
    refine zl rfl rfl (zab (i := 0) (X' := RowD.d x1) rfl rfl rfl (CellD.agg) Try.sizeOf30 rfl rfl rfl) ?_
    rintro _ _ ⟨rfl, rfl⟩
    refine OpsD.norm [.bx g3 30 (RowD.d x1), .mp g1 ks (xs.map RowD.d)] rfl (zg rfl (zf (zh _ _ rfl rfl rfl (zc rfl (za rfl rfl (zb rfl) (za rfl rfl (zb rfl) (za rfl rfl (zA rfl zao rfl) (za rfl rfl (zR rfl (i := 0) rfl Try.isAgg27 rfl) (zl rfl rfl (zt [] _ [] rfl rfl (.cons ArgC.id (.cons ArgC.id (.cons ArgC.id .nil))) zo Try.call10 (zef mode names x1.ls (by omega)) (.inl rfl)) ?_)))))))))
    rintro _ _ ⟨_, ⟨v4, rfl, rfl⟩, rfl⟩
    refine OpsD.norm [.sl v4 2 33 ((keyL mode names x1.ls).map Lbl.d), .bx g3 30 (RowD.d x1), .mp g1 ks (xs.map RowD.d)] rfl (zl rfl rfl (zt [] _ [.sl v4 2 33 ((keyL mode names x1.ls).map Lbl.d)] rfl rfl (.cons (ArgC.own (j := 0) rfl rfl) .nil) (za3 (j := 0) rfl zo) Try.call27 (Text_c (keyL mode names x1.ls) (by omega) hkz.2) (.inr (zbK rfl))) ?_)
    rintro _ _ ⟨_, ⟨rfl, rfl⟩, rfl⟩
    refine OpsD.norm [.sl v4 2 33 ((keyL mode names x1.ls).map Lbl.d), .bx g3 30 (RowD.d x1), .mp g1 ks (xs.map RowD.d)] rfl (za rfl rfl (ze rfl) (zg rfl (zf (zh _ _ rfl rfl rfl (zh _ _ rfl rfl rfl ?_)))))
    by_cases hg5 : zbS (keyL mode names x1.ls) ∈ ks
    · skip
      refine zc rfl (za rfl rfl (zb rfl) (za rfl rfl (zb rfl) ?_))
      obtain ⟨j, q, hj, hq, _, _⟩ := findT_some (show keyT mode names x1 ∈ z9 mode names (l.take k) from (by rw [← hks]; exact hg5))
      rw [← hks] at hj
      rw [← hxs] at hq
      refine za rfl rfl (p_look_t (i := 2) (j := j) rfl rfl rfl Try.underlying52 Try.underlying9 Try.zeroValue30 hnd hj (zw hq)) (za rfl rfl (zb rfl) (za rfl rfl (zF rfl rfl) (za rfl rfl (zF rfl rfl) (zl rfl rfl (zaN (zv := (.agg #[(.slice none 0 0), (.int .i64 0)])) Try.zeroValue30 ⟨rfl, rfl, trivial⟩ (Cv.vagg (by decide))) ?_))))
      rintro _ _ ⟨g6, rfl, rfl⟩
      refine zl rfl rfl (zab (i := 0) (X' := RowD.d q) rfl rfl rfl (CellD.agg) Try.sizeOf30 rfl rfl rfl) ?_
      rintro _ _ ⟨rfl, rfl⟩
      refine OpsD.norm [.bx g6 30 (RowD.d q), .sl v4 2 33 ((keyL mode names x1.ls).map Lbl.d), .bx g3 30 (RowD.d x1), .mp g1 ks (xs.map RowD.d)] rfl (za rfl rfl (ze rfl) (zg rfl (zf (zh _ _ rfl rfl rfl (zc rfl (za rfl rfl (zb rfl) (zg rfl (zf (zau _ rfl rfl rfl (zh _ _ rfl rfl rfl (zc rfl (za rfl rfl (ze rfl) (za rfl rfl (ze rfl) (zg rfl (zf (zB rfl (zp (zn (zp (zZ (zn (zp ?_))))))))))))))))))))))
      exact absurd hn (ndT_bad hx1 (by rw [← hks]; exact hg5))
    · skip
      refine zc rfl (za rfl rfl (zb rfl) (za rfl rfl (zb rfl) (za rfl rfl (p_look_f (i := 2) rfl rfl rfl Try.underlying52 Try.underlying9 Try.zeroValue30 (Cv.vagg (by decide)) hg5) (za rfl rfl (zb rfl) (za rfl rfl (zF rfl rfl) (za rfl rfl (zF rfl rfl) (zl rfl rfl (zaN (zv := (.agg #[(.slice none 0 0), (.int .i64 0)])) Try.zeroValue30 ⟨rfl, rfl, trivial⟩ (Cv.vagg (by decide))) ?_)))))))
      rintro _ _ ⟨g7, rfl, rfl⟩
      refine zl rfl rfl (zab (i := 0) (X' := .agg [dZ, dI 0]) rfl rfl rfl (CellD.agg) Try.sizeOf30 rfl rfl rfl) ?_
      rintro _ _ ⟨rfl, rfl⟩
      refine OpsD.norm [.bx g7 30 (.agg [dZ, dI 0]), .sl v4 2 33 ((keyL mode names x1.ls).map Lbl.d), .bx g3 30 (RowD.d x1), .mp g1 ks (xs.map RowD.d)] rfl (za rfl rfl (ze rfl) (zg rfl (zf (zh _ _ rfl rfl rfl (zc rfl (za rfl rfl (zb rfl) (zg rfl (zf (zaC _ rfl rfl rfl (zz rfl (zf (zc rfl (za rfl rfl (zb rfl) (za rfl rfl (zb rfl) (za rfl rfl (za2 (d := RowD.d x1) rfl (i := 2) rfl Try.isAgg30 Try.sizeOf30 rfl rfl) (zl rfl rfl (ef_put (i := 3) (d := RowD.d x1) rfl rfl rfl rfl Try.underlying52 Try.underlying9 hg5) ?_))))))))))))))))
      rintro _ _ ⟨rfl, rfl⟩
      refine OpsD.norm [.bx g7 30 (.agg [dZ, dI 0]), .sl v4 2 33 ((keyL mode names x1.ls).map Lbl.d), .bx g3 30 (RowD.d x1), .mp g1 (ks ++ [zbS (keyL mode names x1.ls)]) ((xs ++ [x1]).map RowD.d)] (by simp only [List.map_append, List.map_cons, List.map_nil]; rfl) (zg rfl (zD (zf (zc rfl (za rfl rfl (z8 (c := ((k + 1 : Nat) : Int)) rfl rfl (zT (by omega) (by omega))) (za rfl rfl (zb rfl) (zg rfl (PD.subH (HSub.perm (zO (i := 3) rfl)) (PD.norm [.mp g1 (ks ++ [zbS (keyL mode names x1.ls)]) ((xs ++ [x1]).map RowD.d), .bx g7 30 (.agg [dZ, dI 0]), .sl v4 2 33 ((keyL mode names x1.ls).map Lbl.d), .bx g3 30 (RowD.d x1)] rfl (PD.subH (HSub.fst 1 rfl) (PD.norm [.mp g1 (ks ++ [zbS (keyL mode names x1.ls)]) ((xs ++ [x1]).map RowD.d)] rfl ?_)))))))))))
      exact zS (k + 1, (ks ++ [zbS (keyL mode names x1.ls)]), (xs ++ [x1])) ⟨sk rfl, sk rfl, sk rfl, sk rfl, sk rfl, sk rfl, trivial⟩ HSub.rfl' ⟨by show k + 1 ≤ l.length; omega, by rw [keyTs_snoc hx1, ← hks]; rfl, by rw [zak hx1, ← hxs], nd_snoc hnd hg5⟩ (by omega)
  · replace hc2 := of_decide_eq_false hc2
    refine z3 rfl (zK (zI (zE (zf (zh _ _ rfl rfl rfl (zc rfl (za rfl rfl (zb rfl) (za rfl rfl (ze rfl) (za rfl rfl (ze rfl) (zg rfl (zf (zB rfl (PD.norm [.mp g1 (z9 mode names l) (l.map RowD.d)] (by rw [hks, hxs, List.take_of_length_le (by omega)]) ?_)))))))))))))
    exact zx Try.results26 (.cons (zs rfl) (.cons (zs rfl) .nil)) rfl (HSub.fst 1 rfl) ⟨_, rfl, rfl⟩

set_option maxHeartbeats 4000000 in
set_option maxRecDepth 100000 in
theorem keyed_f (l : List RowD) (mode : Int) (names : List ByteArray) (hl : l.length ≤ 1000000) (hz : LZ l) (hn : ¬ ndT mode names l) :
    CD Try.prog 26 [] [.sh 2 (l.map RowD.d), dI mode, .sh 1 (names.map D.s)] (isR (.tup [.v (.map none), dB false])) := by
  refine zL Try.func26 rfl (N := 39) rfl rfl (fun C => ?_)
  refine JD.keep [0, 1, 2] [(0, .sh 2 (l.map RowD.d)), (1, dI mode), (2, .sh 1 (names.map D.s))] rfl ?_
  refine JD.bd 0 rfl (fun bd0 => ?_)
  have nl0 := zae bd0
  refine JD.bd 2 rfl (fun bd2 => ?_)
  have nl2 := zae bd2
  refine zh _ _ rfl rfl rfl (zc rfl (za rfl rfl (ze rfl) (za rfl rfl (ze rfl) (zg rfl (zf (zh _ _ rfl rfl rfl (zc rfl (zl rfl rfl ef_makeMap ?_))))))))
  rintro _ _ ⟨g1, rfl, rfl⟩
  refine OpsD.norm [.mp g1 ([] : List ByteArray) (([] : List RowD).map RowD.d)] rfl (za rfl rfl (ze rfl) (zg rfl (zf (zh _ _ rfl rfl rfl (zh _ _ rfl rfl rfl (zc rfl (za rfl rfl (zb rfl) (za rfl rfl (zar (n := l.length) rfl Try.runUnderlying22 (by simp only [lm, lc, ln])) (za rfl rfl (zb rfl) (zg rfl (zf (zy _ rfl rfl (z7 (fun (g : Nat × List ByteArray × List RowD) => [(1, dI mode), (2, .sh 1 (names.map D.s)), (8, .v (.map (some g1))), (15, .sh 2 (l.map RowD.d)), (16, dN l.length), (17, dN g.1)]) (fun (g : Nat × List ByteArray × List RowD) => [.mp g1 g.2.1 (g.2.2.map RowD.d)]) (fun (g : Nat × List ByteArray × List RowD) => (g.1 ≤ l.length) ∧ (g.2.1 = z9 mode names (l.take g.1)) ∧ (g.2.2 = l.take g.1) ∧ (g.2.1.Nodup)) (fun (g : Nat × List ByteArray × List RowD) => l.length - g.1) _ (0, [], []) rfl rfl ⟨sk rfl, sk rfl, sk rfl, sk rfl, sk rfl, sk rfl, trivial⟩ HSub.rfl' ⟨Nat.zero_le _, rfl, rfl, List.nodup_nil⟩ ?_)))))))))))))
  rintro ⟨k, ks, xs⟩ ⟨hkl, hks, hxs, hnd⟩
  replace hkl : k ≤ l.length := hkl
  replace hks : ks = z9 mode names (l.take k) := hks
  replace hxs : xs = l.take k := hxs
  replace hnd : ks.Nodup := hnd
  refine JD.keep [1, 2, 8, 15, 16, 17] [(1, dI mode), (2, .sh 1 (names.map D.s)), (8, .v (.map (some g1))), (15, .sh 2 (l.map RowD.d)), (16, dN l.length), (17, dN k)] rfl (JD.norm [.mp g1 ks (xs.map RowD.d)] rfl (zh _ _ rfl rfl rfl (zc rfl (za rfl rfl (zaa rfl rfl rfl) (zg rfl (zf (zh _ _ rfl rfl rfl ?_)))))))
  refine zu _ _ rfl rfl rfl rfl (fun hc2 => ?_) (fun hc2 => ?_)
  · replace hc2 := of_decide_eq_true hc2
    refine zz rfl (zf (zh _ _ rfl rfl rfl (zy _ rfl rfl (zh _ _ rfl rfl rfl (zc rfl ?_)))))
    obtain ⟨x1, hx1⟩ := zV l k (by omega)
    have hzz := (hz x1 (zbb hx1)).1
    have hkz := hz.key (zbb hx1) mode names
    have hkz1 := hkz.1
    refine za rfl rfl (zJ (k := k) rfl rfl Try.runUnderlying22 Try.sizeOf30 (by first | rfl | omega) (zw hx1)) (za rfl rfl (zaL (d := RowD.d x1) rfl Try.isAgg30 Try.sizeOf30 rfl rfl) (zl rfl rfl (zaN (zv := (.agg #[(.slice none 0 0), (.int .i64 0)])) Try.zeroValue30 ⟨rfl, rfl, trivial⟩ (Cv.vagg (by decide))) ?_))
    rintro _ _ ⟨g3, rfl, rfl⟩
    refine zl rfl rfl (zab (i := 0) (X' := RowD.d x1) rfl rfl rfl (CellD.agg) Try.sizeOf30 rfl rfl rfl) ?_
    rintro _ _ ⟨rfl, rfl⟩
    refine OpsD.norm [.bx g3 30 (RowD.d x1), .mp g1 ks (xs.map RowD.d)] rfl (zg rfl (zf (zh _ _ rfl rfl rfl (zc rfl (za rfl rfl (zb rfl) (za rfl rfl (zb rfl) (za rfl rfl (zA rfl zao rfl) (za rfl rfl (zR rfl (i := 0) rfl Try.isAgg27 rfl) (zl rfl rfl (zt [] _ [] rfl rfl (.cons ArgC.id (.cons ArgC.id (.cons ArgC.id .nil))) zo Try.call10 (zef mode names x1.ls (by omega)) (.inl rfl)) ?_)))))))))
    rintro _ _ ⟨_, ⟨v4, rfl, rfl⟩, rfl⟩
    refine OpsD.norm [.sl v4 2 33 ((keyL mode names x1.ls).map Lbl.d), .bx g3 30 (RowD.d x1), .mp g1 ks (xs.map RowD.d)] rfl (zl rfl rfl (zt [] _ [.sl v4 2 33 ((keyL mode names x1.ls).map Lbl.d)] rfl rfl (.cons (ArgC.own (j := 0) rfl rfl) .nil) (za3 (j := 0) rfl zo) Try.call27 (Text_c (keyL mode names x1.ls) (by omega) hkz.2) (.inr (zbK rfl))) ?_)
    rintro _ _ ⟨_, ⟨rfl, rfl⟩, rfl⟩
    refine OpsD.norm [.sl v4 2 33 ((keyL mode names x1.ls).map Lbl.d), .bx g3 30 (RowD.d x1), .mp g1 ks (xs.map RowD.d)] rfl (za rfl rfl (ze rfl) (zg rfl (zf (zh _ _ rfl rfl rfl (zh _ _ rfl rfl rfl ?_)))))
    by_cases hg5 : zbS (keyL mode names x1.ls) ∈ ks
    · skip
      refine zc rfl (za rfl rfl (zb rfl) (za rfl rfl (zb rfl) ?_))
      obtain ⟨j, q, hj, hq, _, _⟩ := findT_some (show keyT mode names x1 ∈ z9 mode names (l.take k) from (by rw [← hks]; exact hg5))
      rw [← hks] at hj
      rw [← hxs] at hq
      refine za rfl rfl (p_look_t (i := 2) (j := j) rfl rfl rfl Try.underlying52 Try.underlying9 Try.zeroValue30 hnd hj (zw hq)) (za rfl rfl (zb rfl) (za rfl rfl (zF rfl rfl) (za rfl rfl (zF rfl rfl) (zl rfl rfl (zaN (zv := (.agg #[(.slice none 0 0), (.int .i64 0)])) Try.zeroValue30 ⟨rfl, rfl, trivial⟩ (Cv.vagg (by decide))) ?_))))
      rintro _ _ ⟨g6, rfl, rfl⟩
      refine zl rfl rfl (zab (i := 0) (X' := RowD.d q) rfl rfl rfl (CellD.agg) Try.sizeOf30 rfl rfl rfl) ?_
      rintro _ _ ⟨rfl, rfl⟩
      refine OpsD.norm [.bx g6 30 (RowD.d q), .sl v4 2 33 ((keyL mode names x1.ls).map Lbl.d), .bx g3 30 (RowD.d x1), .mp g1 ks (xs.map RowD.d)] rfl (za rfl rfl (ze rfl) (zg rfl (zf (zh _ _ rfl rfl rfl (zc rfl (za rfl rfl (zb rfl) (zg rfl (zf (zau _ rfl rfl rfl (zh _ _ rfl rfl rfl (zc rfl (za rfl rfl (ze rfl) (za rfl rfl (ze rfl) (zg rfl (zf (zB rfl (zp (zn (zp (zZ (zn (zp ?_))))))))))))))))))))))
      exact zx Try.results26 (.cons (zs rfl) (.cons (zs rfl) .nil)) rfl HSub.none ⟨rfl, rfl⟩
    · skip
      refine zc rfl (za rfl rfl (zb rfl) (za rfl rfl (zb rfl) (za rfl rfl (p_look_f (i := 2) rfl rfl rfl Try.underlying52 Try.underlying9 Try.zeroValue30 (Cv.vagg (by decide)) hg5) (za rfl rfl (zb rfl) (za rfl rfl (zF rfl rfl) (za rfl rfl (zF rfl rfl) (zl rfl rfl (zaN (zv := (.agg #[(.slice none 0 0), (.int .i64 0)])) Try.zeroValue30 ⟨rfl, rfl, trivial⟩ (Cv.vagg (by decide))) ?_)))))))
      rintro _ _ ⟨g7, rfl, rfl⟩
      refine zl rfl rfl (zab (i := 0) (X' := .agg [dZ, dI 0]) rfl rfl rfl (CellD.agg) Try.sizeOf30 rfl rfl rfl) ?_
      rintro _ _ ⟨rfl, rfl⟩
      refine OpsD.norm [.bx g7 30 (.agg [dZ, dI 0]), .sl v4 2 33 ((keyL mode names x1.ls).map Lbl.d), .bx g3 30 (RowD.d x1), .mp g1 ks (xs.map RowD.d)] rfl (za rfl rfl (ze rfl) (zg rfl (zf (zh _ _ rfl rfl rfl (zc rfl (za rfl rfl (zb rfl) (zg rfl (zf (zaC _ rfl rfl rfl (zz rfl (zf (zc rfl (za rfl rfl (zb rfl) (za rfl rfl (zb rfl) (za rfl rfl (za2 (d := RowD.d x1) rfl (i := 2) rfl Try.isAgg30 Try.sizeOf30 rfl rfl) (zl rfl rfl (ef_put (i := 3) (d := RowD.d x1) rfl rfl rfl rfl Try.underlying52 Try.underlying9 hg5) ?_))))))))))))))))
      rintro _ _ ⟨rfl, rfl⟩
      refine OpsD.norm [.bx g7 30 (.agg [dZ, dI 0]), .sl v4 2 33 ((keyL mode names x1.ls).map Lbl.d), .bx g3 30 (RowD.d x1), .mp g1 (ks ++ [zbS (keyL mode names x1.ls)]) ((xs ++ [x1]).map RowD.d)] (by simp only [List.map_append, List.map_cons, List.map_nil]; rfl) (zg rfl (zD (zf (zc rfl (za rfl rfl (z8 (c := ((k + 1 : Nat) : Int)) rfl rfl (zT (by omega) (by omega))) (za rfl rfl (zb rfl) (zg rfl (PD.subH (HSub.perm (zO (i := 3) rfl)) (PD.norm [.mp g1 (ks ++ [zbS (keyL mode names x1.ls)]) ((xs ++ [x1]).map RowD.d), .bx g7 30 (.agg [dZ, dI 0]), .sl v4 2 33 ((keyL mode names x1.ls).map Lbl.d), .bx g3 30 (RowD.d x1)] rfl (PD.subH (HSub.fst 1 rfl) (PD.norm [.mp g1 (ks ++ [zbS (keyL mode names x1.ls)]) ((xs ++ [x1]).map RowD.d)] rfl ?_)))))))))))
      exact zS (k + 1, (ks ++ [zbS (keyL mode names x1.ls)]), (xs ++ [x1])) ⟨sk rfl, sk rfl, sk rfl, sk rfl, sk rfl, sk rfl, trivial⟩ HSub.rfl' ⟨by show k + 1 ≤ l.length; omega, by rw [keyTs_snoc hx1, ← hks]; rfl, by rw [zak hx1, ← hxs], nd_snoc hnd hg5⟩ (by omega)
  · replace hc2 := of_decide_eq_false hc2
    refine z3 rfl (zK (zI (zE (zf (zh _ _ rfl rfl rfl (zc rfl (za rfl rfl (zb rfl) (za rfl rfl (ze rfl) (za rfl rfl (ze rfl) (zg rfl (zf (zB rfl ?_))))))))))))
    exact absurd (show ndT mode names l by unfold ndT; rw [hks, List.take_of_length_le (by omega)] at hnd; exact hnd) hn

set_option maxHeartbeats 4000000 in
set_option maxRecDepth 100000 in
theorem Match_c (op : ByteArray) (a : List RowD) (b : List RowD) (mode : Int) (names : List ByteArray) (hza : LZ a) (hzb : LZ b) :
    CD Try.prog 12 [] [.s op, .sh 2 (a.map RowD.d), .sh 2 (b.map RowD.d), dI mode, .sh 1 (names.map D.s)] (fun r H' => ∃ v0_, r = .tup [.ov v0_, dI (zP op a b mode names)] ∧ H' = [.sl v0_ 2 30 ((zq op a b mode names).map RowD.d)]) := by
  refine zL Try.func12 rfl (N := 112) rfl rfl (fun C => ?_)
  refine JD.keep [0, 1, 2, 3, 4] [(0, .s op), (1, .sh 2 (a.map RowD.d)), (2, .sh 2 (b.map RowD.d)), (3, dI mode), (4, .sh 1 (names.map D.s))] rfl ?_
  refine JD.bd 0 rfl (fun bd0 => ?_)
  have sz0 : op.size ≤ 9223372036854775807 := bd0
  refine JD.bd 1 rfl (fun bd1 => ?_)
  have nl1 := zae bd1
  refine JD.bd 2 rfl (fun bd2 => ?_)
  have nl2 := zae bd2
  refine JD.bd 4 rfl (fun bd4 => ?_)
  have nl4 := zae bd4
  refine zh _ _ rfl rfl rfl (zc rfl (za rfl rfl (ze rfl) (za rfl rfl (ze rfl) (zg rfl (zf (zh _ _ rfl rfl rfl (zh _ _ rfl rfl rfl (JD.keep [0, 1, 2, 3, 4, 10, 11] [(0, .s op), (1, .sh 2 (a.map RowD.d)), (2, .sh 2 (b.map RowD.d)), (3, dI mode), (4, .sh 1 (names.map D.s)), (10, dZ), (11, dI 0)] rfl ?_))))))))
  refine zaj 36 (((!(opB op) || !(z1 a)) || !(z1 b))) [] (fun _ hQ1 => ?_) ?_
  · skip
    rcases Bool.eq_false_or_eq_true (opB op) with hg2 | hg2
    · skip
      rcases Bool.eq_false_or_eq_true (z1 a) with hg3 | hg3
      · skip
        refine zc rfl (za rfl rfl (zb rfl) (zl rfl rfl (zt [] _ [] rfl rfl (.cons ArgC.id .nil) zo Try.call25 (zd8 op) (.inl rfl)) ?_))
        rintro _ _ ⟨_, ⟨rfl, rfl⟩, rfl⟩
        refine OpsD.norm [] rfl (OpsD.sub ((25, dB true) :: [(0, .s op), (1, .sh 2 (a.map RowD.d)), (2, .sh 2 (b.map RowD.d)), (3, dI mode), (4, .sh 1 (names.map D.s)), (10, dZ), (11, dI 0), (24, .s op)]) ⟨se rfl (congrArg (fun b => D.v (.bool b)) hg2), sk rfl, sk rfl, sk rfl, sk rfl, sk rfl, sk rfl, sk rfl, sk rfl, trivial⟩ (za rfl rfl (zag (q := true) rfl) (za rfl rfl (zb rfl) (zi rfl rfl rfl rfl rfl (zb rfl) (zaT rfl rfl rfl rfl rfl (zt [] _ [] rfl rfl (.cons ArgC.id .nil) zo Try.call15 (zbZ a) (.inl rfl)) ?_)))))
        rintro _ _ ⟨_, ⟨rfl, rfl⟩, rfl⟩
        refine OpsD.norm [] rfl (OpsD.sub ((29, dB true) :: [(0, .s op), (1, .sh 2 (a.map RowD.d)), (2, .sh 2 (b.map RowD.d)), (3, dI mode), (4, .sh 1 (names.map D.s)), (10, dZ), (11, dI 0), (24, .s op), (25, dB true), (26, dB false), (27, dB false), (28, .sh 2 (a.map RowD.d))]) ⟨se rfl (congrArg (fun b => D.v (.bool b)) hg3), sk rfl, sk rfl, sk rfl, sk rfl, sk rfl, sk rfl, sk rfl, sk rfl, sk rfl, sk rfl, sk rfl, sk rfl, trivial⟩ (zi rfl rfl rfl rfl rfl (zag (q := true) rfl) (za rfl rfl (zm rfl rfl) (za rfl rfl (zb rfl) (zi rfl rfl rfl rfl rfl (zb rfl) (zaT rfl rfl rfl rfl rfl (zt [] _ [] rfl rfl (.cons ArgC.id .nil) zo Try.call15 (zbZ b) (.inl rfl)) ?_))))))
        rintro _ _ ⟨_, ⟨rfl, rfl⟩, rfl⟩
        refine OpsD.norm [] rfl (zi rfl rfl rfl rfl rfl (zag rfl) (za rfl rfl (zm rfl rfl) (zg rfl ?_)))
        exact PD.sub ((36, dB ((!(opB op) || !(z1 a)) || !(z1 b))) :: [(0, .s op), (1, .sh 2 (a.map RowD.d)), (2, .sh 2 (b.map RowD.d)), (3, dI mode), (4, .sh 1 (names.map D.s)), (10, dZ), (11, dI 0)]) ⟨sc rfl (Cv.eq (congrArg (fun b => D.v (.bool b)) (by first | (simp [hg2, hg3]; done) | (simp_all; done)))), sk rfl, sk rfl, sk rfl, sk rfl, sk rfl, sk rfl, sk rfl, trivial⟩ hQ1
      · skip
        refine zc rfl (za rfl rfl (zb rfl) (zl rfl rfl (zt [] _ [] rfl rfl (.cons ArgC.id .nil) zo Try.call25 (zd8 op) (.inl rfl)) ?_))
        rintro _ _ ⟨_, ⟨rfl, rfl⟩, rfl⟩
        refine OpsD.norm [] rfl (OpsD.sub ((25, dB true) :: [(0, .s op), (1, .sh 2 (a.map RowD.d)), (2, .sh 2 (b.map RowD.d)), (3, dI mode), (4, .sh 1 (names.map D.s)), (10, dZ), (11, dI 0), (24, .s op)]) ⟨se rfl (congrArg (fun b => D.v (.bool b)) hg2), sk rfl, sk rfl, sk rfl, sk rfl, sk rfl, sk rfl, sk rfl, sk rfl, trivial⟩ (za rfl rfl (zag (q := true) rfl) (za rfl rfl (zb rfl) (zi rfl rfl rfl rfl rfl (zb rfl) (zaT rfl rfl rfl rfl rfl (zt [] _ [] rfl rfl (.cons ArgC.id .nil) zo Try.call15 (zbZ a) (.inl rfl)) ?_)))))
        rintro _ _ ⟨_, ⟨rfl, rfl⟩, rfl⟩
        refine OpsD.norm [] rfl (OpsD.sub ((29, dB false) :: [(0, .s op), (1, .sh 2 (a.map RowD.d)), (2, .sh 2 (b.map RowD.d)), (3, dI mode), (4, .sh 1 (names.map D.s)), (10, dZ), (11, dI 0), (24, .s op), (25, dB true), (26, dB false), (27, dB false), (28, .sh 2 (a.map RowD.d))]) ⟨se rfl (congrArg (fun b => D.v (.bool b)) hg3), sk rfl, sk rfl, sk rfl, sk rfl, sk rfl, sk rfl, sk rfl, sk rfl, sk rfl, sk rfl, sk rfl, sk rfl, trivial⟩ (zi rfl rfl rfl rfl rfl (zag (q := false) rfl) (za rfl rfl (zm rfl rfl) (za rfl rfl (zb rfl) (zj rfl rfl rfl rfl rfl (by decide) (zj rfl rfl rfl rfl rfl (by decide) (zj rfl rfl rfl rfl rfl (by decide) (za rfl rfl (zr rfl rfl) (zg rfl ?_)))))))))
        exact PD.sub ((36, dB ((!(opB op) || !(z1 a)) || !(z1 b))) :: [(0, .s op), (1, .sh 2 (a.map RowD.d)), (2, .sh 2 (b.map RowD.d)), (3, dI mode), (4, .sh 1 (names.map D.s)), (10, dZ), (11, dI 0)]) ⟨sc rfl (Cv.eq (congrArg (fun b => D.v (.bool b)) (by first | (simp [hg2, hg3]; done) | (simp_all; done)))), sk rfl, sk rfl, sk rfl, sk rfl, sk rfl, sk rfl, sk rfl, trivial⟩ hQ1
    · skip
      refine zc rfl (za rfl rfl (zb rfl) (zl rfl rfl (zt [] _ [] rfl rfl (.cons ArgC.id .nil) zo Try.call25 (zd8 op) (.inl rfl)) ?_))
      rintro _ _ ⟨_, ⟨rfl, rfl⟩, rfl⟩
      refine OpsD.norm [] rfl (OpsD.sub ((25, dB false) :: [(0, .s op), (1, .sh 2 (a.map RowD.d)), (2, .sh 2 (b.map RowD.d)), (3, dI mode), (4, .sh 1 (names.map D.s)), (10, dZ), (11, dI 0), (24, .s op)]) ⟨se rfl (congrArg (fun b => D.v (.bool b)) hg2), sk rfl, sk rfl, sk rfl, sk rfl, sk rfl, sk rfl, sk rfl, sk rfl, trivial⟩ (za rfl rfl (zag (q := false) rfl) (za rfl rfl (zb rfl) (zj rfl rfl rfl rfl rfl (by decide) (zj rfl rfl rfl rfl rfl (by decide) (zj rfl rfl rfl rfl rfl (by decide) (za rfl rfl (zr rfl rfl) (za rfl rfl (zb rfl) (zj rfl rfl rfl rfl rfl (by decide) (zj rfl rfl rfl rfl rfl (by decide) (zj rfl rfl rfl rfl rfl (by decide) (za rfl rfl (zr rfl rfl) (zg rfl ?_)))))))))))))
      exact PD.sub ((36, dB ((!(opB op) || !(z1 a)) || !(z1 b))) :: [(0, .s op), (1, .sh 2 (a.map RowD.d)), (2, .sh 2 (b.map RowD.d)), (3, dI mode), (4, .sh 1 (names.map D.s)), (10, dZ), (11, dI 0)]) ⟨sc rfl (Cv.eq (congrArg (fun b => D.v (.bool b)) (by first | (simp [hg2]; done) | (simp_all; done)))), sk rfl, sk rfl, sk rfl, sk rfl, sk rfl, sk rfl, sk rfl, trivial⟩ hQ1
  · skip
    refine zf ?_
    refine zu _ _ rfl rfl rfl rfl (fun hc4 => ?_) (fun hc4 => ?_)
    · simp only [Bool.and_eq_true, Bool.or_eq_true, Bool.not_eq_true', Bool.not_eq_false', Bool.and_eq_false_iff, Bool.or_eq_false_iff, decide_eq_true_eq, decide_eq_false_iff_not, Decidable.not_not, ne_eq] at hc4
      have hbad : zbB op a b = false := by unfold zbB; have h := hc4; revert h; cases opB op <;> cases z1 a <;> cases z1 b <;> simp
      refine zh _ _ rfl rfl rfl (zc rfl (za rfl rfl (ze rfl) (za rfl rfl (ze rfl) (zg rfl (zf (zB rfl (zp (PD.subH (HSub.nil 2 30) (PD.norm [.sl (.slice none 0 0) 2 30 ((zq op a b mode names).map RowD.d)] (by have hw : [] = zq op a b mode names := (by first | exact (zdT (mode := mode) (ns := names) hbad).1 | exact (zdT (mode := mode) (ns := names) hbad).2 | (rw [← zaD hfq]; exact (zdT (mode := mode) (ns := names) hbad).2)); rw [show ([] : List D) = List.map RowD.d (zq op a b mode names) from congrArg (List.map RowD.d) hw]) ?_)))))))))
      exact zx Try.results12 (.cons (zM (zs rfl) (Cv.ov rfl)) (.cons (zM (zs rfl) (Cv.eq (congrArg (fun n => D.v (.int .i64 n)) (by first | exact (zdT (mode := mode) (ns := names) hbad).1 | exact (zdT (mode := mode) (ns := names) hbad).2 | (rw [← zaD hfq]; exact (zdT (mode := mode) (ns := names) hbad).2))))) .nil)) rfl (HSub.fst 1 rfl) ⟨(.slice none 0 0), rfl, rfl⟩
    · simp only [Bool.and_eq_true, Bool.or_eq_true, Bool.not_eq_true', Bool.not_eq_false', Bool.and_eq_false_iff, Bool.or_eq_false_iff, decide_eq_true_eq, decide_eq_false_iff_not, Decidable.not_not, ne_eq] at hc4
      have hgood : zbB op a b = true := by unfold zbB; simp only [Bool.and_eq_true]; have h := hc4; simp_all
      have hvr : z1 a = true ∧ z1 b = true := by unfold zbB at hgood; simp only [Bool.and_eq_true] at hgood; exact hgood.2
      have hlen := (zbk.1 hvr.1).1
      have hlenb := (zbk.1 hvr.2).1
      refine zz rfl (zf (zh _ _ rfl rfl rfl ?_))
      by_cases hg5 : ndT mode names a
      · skip
        refine zc rfl (za rfl rfl (zb rfl) (za rfl rfl (zb rfl) (za rfl rfl (zb rfl) (zl rfl rfl (zt [] [] [] rfl rfl (.cons ArgC.id (.cons ArgC.id (.cons ArgC.id .nil))) zo Try.call26 (keyed_t a mode names (by omega) hza hg5) (.inl rfl)) ?_))))
        rintro _ _ ⟨_, ⟨g6, rfl, rfl⟩, rfl⟩
        refine OpsD.norm [.mp g6 (z9 mode names a) (a.map RowD.d)] rfl (za rfl rfl (zb rfl) (za rfl rfl (zF rfl rfl) (za rfl rfl (zF rfl rfl) (za rfl rfl (ze rfl) (za rfl rfl (ze rfl) (zg rfl (zf (JD.keep [0, 1, 2, 3, 4, 10, 11, 13] [(0, .s op), (1, .sh 2 (a.map RowD.d)), (2, .sh 2 (b.map RowD.d)), (3, dI mode), (4, .sh 1 (names.map D.s)), (10, dZ), (11, dI 0), (13, dB true)] rfl (zh _ _ rfl rfl rfl ?_)))))))))
        by_cases hg7 : ndT mode names b
        · skip
          refine zc rfl (za rfl rfl (zb rfl) (za rfl rfl (zb rfl) (za rfl rfl (zb rfl) (zl rfl rfl (zt [] [.mp g6 (z9 mode names a) (a.map RowD.d)] [] rfl rfl (.cons ArgC.id (.cons ArgC.id (.cons ArgC.id .nil))) zo Try.call26 (keyed_t b mode names (by omega) hzb hg7) (.inl rfl)) ?_))))
          rintro _ _ ⟨_, ⟨g8, rfl, rfl⟩, rfl⟩
          refine OpsD.norm [.mp g8 (z9 mode names b) (b.map RowD.d), .mp g6 (z9 mode names a) (a.map RowD.d)] rfl (za rfl rfl (zb rfl) (za rfl rfl (zF rfl rfl) (za rfl rfl (zF rfl rfl) (za rfl rfl (ze rfl) (za rfl rfl (ze rfl) (zg rfl (zf (zh _ _ rfl rfl rfl (zh _ _ rfl rfl rfl (zc rfl (za rfl rfl (zb rfl) (za rfl rfl (zag (q := true) rfl) (za rfl rfl (zb rfl) (zi rfl rfl rfl rfl rfl (zb rfl) (zi rfl rfl rfl rfl rfl (zag (q := true) rfl) (za rfl rfl (zm rfl rfl) (zg rfl (zf (JD.keep [0, 1, 3, 4, 10, 11, 14, 56] [(0, .s op), (1, .sh 2 (a.map RowD.d)), (3, dI mode), (4, .sh 1 (names.map D.s)), (10, dZ), (11, dI 0), (14, .v (.map (some g8))), (56, dB false)] rfl (JD.subH (HSub.fst 1 rfl) (JD.norm [.mp g8 (z9 mode names b) (b.map RowD.d)] rfl ?_)))))))))))))))))))))
          have hnn : ndT mode names a ∧ ndT mode names b := ⟨hg5, hg7⟩
          refine zaC _ rfl rfl rfl (zz rfl (zf (zh _ _ rfl rfl rfl (zc rfl (za rfl rfl (ze rfl) (zg rfl (zf (zh _ _ rfl rfl rfl (zh _ _ rfl rfl rfl (zc rfl (za rfl rfl (zb rfl) (za rfl rfl (zar (n := a.length) rfl Try.runUnderlying22 (by simp only [lm, lc, ln])) (za rfl rfl (zb rfl) (zg rfl (zf (zy _ rfl rfl ?_))))))))))))))))
          refine z7 (fun (g : Nat × Value × List RowD) => [(0, .s op), (3, dI mode), (4, .sh 1 (names.map D.s)), (14, .v (.map (some g8))), (57, .sh 2 (a.map RowD.d)), (58, dN a.length), (59, dN g.1), (16, .ov g.2.1)]) (fun (g : Nat × Value × List RowD) => [.sl g.2.1 2 30 (g.2.2.map RowD.d), .mp g8 (z9 mode names b) (b.map RowD.d)]) (fun (g : Nat × Value × List RowD) => (g.1 ≤ a.length) ∧ (g.2.2 = zbA op mode names b (a.take g.1)) ∧ (zaG (maF op mode names b) (a.take g.1) = 0)) (fun (g : Nat × Value × List RowD) => a.length - g.1) _ (0, .slice none 0 0, []) rfl rfl ⟨sk rfl, sk rfl, sk rfl, sk rfl, sk rfl, sk rfl, sk rfl, sc rfl (Cv.ov rfl), trivial⟩ (HSub.nil 2 30) ⟨Nat.zero_le _, rfl, rfl⟩ ?_
          rintro ⟨k, ov, o⟩ ⟨hkl, ho, he⟩
          replace hkl : k ≤ a.length := hkl
          replace ho : o = zbA op mode names b (a.take k) := ho
          replace he : zaG (maF op mode names b) (a.take k) = 0 := he
          refine JD.keep [0, 3, 4, 14, 57, 58, 59, 16] [(0, .s op), (3, dI mode), (4, .sh 1 (names.map D.s)), (14, .v (.map (some g8))), (57, .sh 2 (a.map RowD.d)), (58, dN a.length), (59, dN k), (16, .ov ov)] rfl (JD.norm [.sl ov 2 30 (o.map RowD.d), .mp g8 (z9 mode names b) (b.map RowD.d)] rfl ?_)
          have hol : o.length ≤ 2000 := by rw [ho]; exact Nat.le_trans (maOut_len _ _ _ _ _) (by rw [List.length_take]; omega)
          refine zh _ _ rfl rfl rfl (zc rfl (za rfl rfl (zaa rfl rfl rfl) (zg rfl (zf (zh _ _ rfl rfl rfl ?_)))))
          refine zu _ _ rfl rfl rfl rfl (fun hc9 => ?_) (fun hc9 => ?_)
          · replace hc9 := of_decide_eq_true hc9
            refine zz rfl (zf (zh _ _ rfl rfl rfl (zy _ rfl rfl (zh _ _ rfl rfl rfl (zc rfl ?_)))))
            obtain ⟨x1, hx1⟩ := zV a k (by omega)
            have hzz := (hza x1 (zbb hx1)).1
            have hkz := hza.key (zbb hx1) mode names
            have hkz1 := hkz.1
            refine za rfl rfl (zJ (k := k) rfl rfl Try.runUnderlying22 Try.sizeOf30 (by first | rfl | omega) (zw hx1)) (za rfl rfl (zaL (d := RowD.d x1) rfl Try.isAgg30 Try.sizeOf30 rfl rfl) (zl rfl rfl (zaN (zv := (.agg #[(.slice none 0 0), (.int .i64 0)])) Try.zeroValue30 ⟨rfl, rfl, trivial⟩ (Cv.vagg (by decide))) ?_))
            rintro _ _ ⟨g10, rfl, rfl⟩
            refine zl rfl rfl (zab (i := 0) (X' := RowD.d x1) rfl rfl rfl (CellD.agg) Try.sizeOf30 rfl rfl rfl) ?_
            rintro _ _ ⟨rfl, rfl⟩
            refine OpsD.norm [.bx g10 30 (RowD.d x1), .sl ov 2 30 (o.map RowD.d), .mp g8 (z9 mode names b) (b.map RowD.d)] rfl (zg rfl (zf (zh _ _ rfl rfl rfl (zc rfl (za rfl rfl (zb rfl) (za rfl rfl (zb rfl) (za rfl rfl (zA rfl zao rfl) (za rfl rfl (zR rfl (i := 0) rfl Try.isAgg27 rfl) (zl rfl rfl (zt [] _ [] rfl rfl (.cons ArgC.id (.cons ArgC.id (.cons ArgC.id .nil))) zo Try.call10 (zef mode names x1.ls (by omega)) (.inl rfl)) ?_)))))))))
            rintro _ _ ⟨_, ⟨v11, rfl, rfl⟩, rfl⟩
            refine OpsD.norm [.sl v11 2 33 ((keyL mode names x1.ls).map Lbl.d), .bx g10 30 (RowD.d x1), .sl ov 2 30 (o.map RowD.d), .mp g8 (z9 mode names b) (b.map RowD.d)] rfl (za rfl rfl (ze rfl) (zg rfl (zf (zh _ _ rfl rfl rfl ?_))))
            by_cases hg12 : zbS (keyL mode names x1.ls) ∈ (z9 mode names b)
            · skip
              refine zc rfl (za rfl rfl (zb rfl) (za rfl rfl (zb rfl) (zl rfl rfl (zt [] _ [.sl v11 2 33 ((keyL mode names x1.ls).map Lbl.d)] rfl rfl (.cons (ArgC.own (j := 0) rfl rfl) .nil) (za3 (j := 0) rfl zo) Try.call27 (Text_c (keyL mode names x1.ls) (by omega) hkz.2) (.inr (zbK rfl))) ?_)))
              rintro _ _ ⟨_, ⟨rfl, rfl⟩, rfl⟩
              refine OpsD.norm [.sl v11 2 33 ((keyL mode names x1.ls).map Lbl.d), .bx g10 30 (RowD.d x1), .sl ov 2 30 (o.map RowD.d), .mp g8 (z9 mode names b) (b.map RowD.d)] rfl ?_
              obtain ⟨j, q, hj, hq, hfq, hkq⟩ := findT_some (show keyT mode names x1 ∈ z9 mode names b from hg12)
              refine za rfl rfl (p_look_t (i := 3) (j := j) rfl rfl rfl Try.underlying52 Try.underlying9 Try.zeroValue30 (show (z9 mode names b).Nodup from hnn.2) hj (zw hq)) (za rfl rfl (zb rfl) (za rfl rfl (zF rfl rfl) (za rfl rfl (zF rfl rfl) (zl rfl rfl (zaN (zv := (.agg #[(.slice none 0 0), (.int .i64 0)])) Try.zeroValue30 ⟨rfl, rfl, trivial⟩ (Cv.vagg (by decide))) ?_))))
              rintro _ _ ⟨g13, rfl, rfl⟩
              refine zl rfl rfl (zab (i := 0) (X' := RowD.d q) rfl rfl rfl (CellD.agg) Try.sizeOf30 rfl rfl rfl) ?_
              rintro _ _ ⟨rfl, rfl⟩
              refine OpsD.norm [.bx g13 30 (RowD.d q), .sl v11 2 33 ((keyL mode names x1.ls).map Lbl.d), .bx g10 30 (RowD.d x1), .sl ov 2 30 (o.map RowD.d), .mp g8 (z9 mode names b) (b.map RowD.d)] rfl (za rfl rfl (ze rfl) (zg rfl (zf (zh _ _ rfl rfl rfl (zh _ _ rfl rfl rfl (zc rfl (za rfl rfl (zb rfl) (za rfl rfl (zag (q := true) rfl) (zg rfl (zf (zaC _ rfl rfl rfl (zz rfl (zf (zh _ _ rfl rfl rfl (zc rfl (za rfl rfl (zb rfl) (za rfl rfl (zA rfl zaE rfl) (za rfl rfl (zR rfl (i := 2) rfl Try.isAgg3 rfl) ?_))))))))))))))))))
              refine za rfl rfl (zA rfl zaE rfl) (za rfl rfl (zR rfl (i := 0) rfl Try.isAgg3 rfl) (zl rfl rfl (zt [] _ [] rfl rfl (.cons ArgC.id (.cons ArgC.id (.cons ArgC.id .nil))) zo Try.call28 (Do_c op x1.v q.v) (.inl rfl)) ?_))
              rintro _ _ ⟨_, ⟨rfl, rfl⟩, rfl⟩
              refine OpsD.norm [.bx g13 30 (RowD.d q), .sl v11 2 33 ((keyL mode names x1.ls).map Lbl.d), .bx g10 30 (RowD.d x1), .sl ov 2 30 (o.map RowD.d), .mp g8 (z9 mode names b) (b.map RowD.d)] rfl (za rfl rfl (zb rfl) (za rfl rfl (zF rfl rfl) (za rfl rfl (zF rfl rfl) (za rfl rfl (ze rfl) (za rfl rfl (ze rfl) (zg rfl (zf (zy _ rfl rfl (zh _ _ rfl rfl rfl (zc rfl (za rfl rfl (zb rfl) (za rfl rfl (zbh rfl rfl rfl) (za rfl rfl (ze rfl) (zg rfl (zf ?_)))))))))))))))
              refine zu _ _ rfl rfl rfl rfl (fun hc14 => ?_) (fun hc14 => ?_)
              · replace hc14 := of_decide_eq_true hc14
                refine zh _ _ rfl rfl rfl (zc rfl (za rfl rfl (zb rfl) (za rfl rfl (ze rfl) (za rfl rfl (ze rfl) (zg rfl (zf (zB rfl (zn (zn (zp (zZ (zn (zp (PD.subH (HSub.nil 2 30) (PD.norm [.sl (.slice none 0 0) 2 30 ((zq op a b mode names).map RowD.d), .bx g13 30 (RowD.d q), .sl v11 2 33 ((keyL mode names x1.ls).map Lbl.d), .bx g10 30 (RowD.d x1), .sl ov 2 30 (o.map RowD.d), .mp g8 (z9 mode names b) (b.map RowD.d)] (by have hw : [] = zq op a b mode names := (by first | exact (zdS hgood hnn hx1 he (by rw [zaD hfq]; have h := hc14; omega)).1 | exact (zdS hgood hnn hx1 he (by rw [zaD hfq]; have h := hc14; omega)).2 | (rw [← zaD hfq]; exact (zdS hgood hnn hx1 he (by rw [zaD hfq]; have h := hc14; omega)).2)); rw [show ([] : List D) = List.map RowD.d (zq op a b mode names) from congrArg (List.map RowD.d) hw]) ?_)))))))))))))))
                exact zx Try.results12 (.cons (zM (zs rfl) (Cv.ov rfl)) (.cons (zM (zs rfl) (Cv.eq (congrArg (fun n => D.v (.int .i64 n)) (by first | exact (zdS hgood hnn hx1 he (by rw [zaD hfq]; have h := hc14; omega)).1 | exact (zdS hgood hnn hx1 he (by rw [zaD hfq]; have h := hc14; omega)).2 | (rw [← zaD hfq]; exact (zdS hgood hnn hx1 he (by rw [zaD hfq]; have h := hc14; omega)).2))))) .nil)) rfl (HSub.fst 1 rfl) ⟨(.slice none 0 0), rfl, rfl⟩
              · replace hc14 := of_decide_eq_false hc14
                refine zh _ _ rfl rfl rfl (zc rfl (za rfl rfl (zb rfl) (zl rfl rfl (zt [] _ [] rfl rfl (.cons ArgC.id .nil) zo Try.call29 (Compares_c op) (.inl rfl)) ?_)))
                rintro _ _ ⟨_, ⟨rfl, rfl⟩, rfl⟩
                refine OpsD.norm [.bx g13 30 (RowD.d q), .sl v11 2 33 ((keyL mode names x1.ls).map Lbl.d), .bx g10 30 (RowD.d x1), .sl ov 2 30 (o.map RowD.d), .mp g8 (z9 mode names b) (b.map RowD.d)] rfl (za rfl rfl (zag rfl) (za rfl rfl (ze rfl) (zg rfl (zf ?_))))
                refine zu _ _ rfl rfl rfl rfl (fun hc15 => ?_) (fun hc15 => ?_)
                · simp only [Bool.and_eq_true, Bool.or_eq_true, Bool.not_eq_true', Bool.not_eq_false', Bool.and_eq_false_iff, Bool.or_eq_false_iff, decide_eq_true_eq, decide_eq_false_iff_not, Decidable.not_not, ne_eq] at hc15
                  refine JD.mv (Mv.subH (HSub.perm (zO (i := 1) rfl))) (JD.norm [.sl v11 2 33 ((keyL mode names x1.ls).map Lbl.d), .bx g13 30 (RowD.d q), .bx g10 30 (RowD.d x1), .sl ov 2 30 (o.map RowD.d), .mp g8 (z9 mode names b) (b.map RowD.d)] rfl ?_)
                  refine JD.mv (Mv.freeze (K' := [(0, .s op), (3, dI mode), (4, .sh 1 (names.map D.s)), (14, .v (.map (some g8))), (16, .ov ov), (18, dP g10 0), (19, .sh 2 ((keyL mode names x1.ls).map Lbl.d)), (20, dP g13 0), (21, dB true), (22, dI ((doE op x1.v q.v).1)), (23, dI ((doE op x1.v q.v).2)), (57, .sh 2 (a.map RowD.d)), (58, dN a.length), (59, dN k), (60, dB (decide (((k : Nat) : Int) < ((a.length : Nat) : Int)))), (61, .el (RowD.d x1) 0), (62, RowD.d x1), (63, dI mode), (64, .sh 1 (names.map D.s)), (65, dP g10 0), (66, .sh 2 (x1.ls.map Lbl.d)), (67, .sh 2 ((keyL mode names x1.ls).map Lbl.d)), (68, .tup [RowD.d q, dB true]), (69, .v (.map (some g8))), (70, .sh 2 ((keyL mode names x1.ls).map Lbl.d)), (71, .s (zbS (keyL mode names x1.ls))), (72, .tup [RowD.d q, dB true]), (73, RowD.d q), (74, dB true), (75, dB true), (76, dB false), (77, .tup [dI ((doE op x1.v q.v).1), dI ((doE op x1.v q.v).2)]), (78, .s op), (79, dP g10 1), (80, dI x1.v), (81, dP g13 1), (82, dI q.v), (83, .tup [dI ((doE op x1.v q.v).1), dI ((doE op x1.v q.v).2)]), (84, dI ((doE op x1.v q.v).1)), (85, dI ((doE op x1.v q.v).2)), (86, dB (decide ((doE op x1.v q.v).2 ≠ (0 : Int)))), (87, dI ((doE op x1.v q.v).2)), (88, dB (decide ((doE op x1.v q.v).2 ≠ (0 : Int)))), (90, dB (!(cmpB op))), (91, .s op), (92, dB (cmpB op)), (93, dB (!(cmpB op)))]) [.sl v11 2 33 ((keyL mode names x1.ls).map Lbl.d)] (H1 := [.bx g13 30 (RowD.d q), .bx g10 30 (RowD.d x1), .sl ov 2 30 (o.map RowD.d), .mp g8 (z9 mode names b) (b.map RowD.d)]) (H1' := [.bx g13 30 (RowD.d q), .bx g10 30 (RowD.d x1), .sl ov 2 30 (o.map RowD.d), .mp g8 (z9 mode names b) (b.map RowD.d)]) ⟨⟨_, rfl, ArgC.id⟩, ⟨_, rfl, ArgC.id⟩, ⟨_, rfl, ArgC.id⟩, ⟨_, rfl, ArgC.id⟩, ⟨_, rfl, ArgC.id⟩, ⟨_, rfl, ArgC.id⟩, ⟨_, rfl, ArgC.own (j := 0) rfl rfl⟩, ⟨_, rfl, ArgC.id⟩, ⟨_, rfl, ArgC.id⟩, ⟨_, rfl, ArgC.id⟩, ⟨_, rfl, ArgC.id⟩, ⟨_, rfl, ArgC.id⟩, ⟨_, rfl, ArgC.id⟩, ⟨_, rfl, ArgC.id⟩, ⟨_, rfl, ArgC.id⟩, ⟨_, rfl, ArgC.id⟩, ⟨_, rfl, ArgC.id⟩, ⟨_, rfl, ArgC.id⟩, ⟨_, rfl, ArgC.id⟩, ⟨_, rfl, ArgC.id⟩, ⟨_, rfl, ArgC.id⟩, ⟨_, rfl, ArgC.own (j := 0) rfl rfl⟩, ⟨_, rfl, ArgC.id⟩, ⟨_, rfl, ArgC.id⟩, ⟨_, rfl, ArgC.own (j := 0) rfl rfl⟩, ⟨_, rfl, ArgC.id⟩, ⟨_, rfl, ArgC.id⟩, ⟨_, rfl, ArgC.id⟩, ⟨_, rfl, ArgC.id⟩, ⟨_, rfl, ArgC.id⟩, ⟨_, rfl, ArgC.id⟩, ⟨_, rfl, ArgC.id⟩, ⟨_, rfl, ArgC.id⟩, ⟨_, rfl, ArgC.id⟩, ⟨_, rfl, ArgC.id⟩, ⟨_, rfl, ArgC.id⟩, ⟨_, rfl, ArgC.id⟩, ⟨_, rfl, ArgC.id⟩, ⟨_, rfl, ArgC.id⟩, ⟨_, rfl, ArgC.id⟩, ⟨_, rfl, ArgC.id⟩, ⟨_, rfl, ArgC.id⟩, ⟨_, rfl, ArgC.id⟩, ⟨_, rfl, ArgC.id⟩, ⟨_, rfl, ArgC.id⟩, ⟨_, rfl, ArgC.id⟩, ⟨_, rfl, ArgC.id⟩, trivial⟩ (.same (.same (.same (.same .nil))))) ?_
                  refine zc rfl (za rfl rfl (zb rfl) (za rfl rfl (zb rfl) (za rfl rfl (zb rfl) (za rfl rfl (zdd [0, 1] [.tmp 95, .tmp 96] (zv := (.agg #[(.slice none 0 0), (.int .i64 0)])) rfl rfl (.cons CellD.sh (.cons (CellD.v rfl) .nil)) (Try.runUnderlying30) Try.zeroValue30 zdI ⟨rfl, rfl, trivial⟩ rfl) (zl rfl rfl (z5 [.tmp 97] rfl rfl (.cons CellD.agg .nil) rfl Try.runUnderlying22 Try.sizeOf30 Try.zeroValue30 rfl rfl rfl rfl) ?_)))))
                  rintro _ _ ⟨g16, rfl, rfl⟩
                  refine zl rfl rfl (z4 (f := RowD.d) (l := o) (l' := [(RowD.mk (keyL mode names x1.ls) ((doE op x1.v q.v).1))]) (i := 3) rfl rfl rfl (SrcD.own (j := 0) rfl rfl) zbm za4 rfl rfl (by unfold maxLen; (try simp only [la, lc, ln, lm, lt', ld, ls, lr]); omega) (by (try simp only [la, lc, ln, lm, lt', ld, ls, lr]); omega)) ?_
                  rintro _ _ ⟨v17, rfl, rfl⟩
                  refine OpsD.norm [.sl (vS g16 1 1) 2 30 ([.agg [.sh 2 ((keyL mode names x1.ls).map Lbl.d), dI ((doE op x1.v q.v).1)]]), .bx g13 30 (RowD.d q), .bx g10 30 (RowD.d x1), .sl v17 2 30 ((o ++ [(RowD.mk (keyL mode names x1.ls) ((doE op x1.v q.v).1))]).map RowD.d), .mp g8 (z9 mode names b) (b.map RowD.d)] rfl (za rfl rfl (ze rfl) (zg rfl (zD (zD (zf (zc rfl (za rfl rfl (z8 (c := ((k + 1 : Nat) : Int)) rfl rfl (zT (by omega) (by omega))) (za rfl rfl (zb rfl) (zg rfl (PD.subH (HSub.perm (zO (i := 4) rfl)) (PD.norm [.mp g8 (z9 mode names b) (b.map RowD.d), .sl (vS g16 1 1) 2 30 ([.agg [.sh 2 ((keyL mode names x1.ls).map Lbl.d), dI ((doE op x1.v q.v).1)]]), .bx g13 30 (RowD.d q), .bx g10 30 (RowD.d x1), .sl v17 2 30 ((o ++ [(RowD.mk (keyL mode names x1.ls) ((doE op x1.v q.v).1))]).map RowD.d)] rfl (PD.subH (HSub.perm (zO (i := 4) rfl)) (PD.norm [.sl v17 2 30 ((o ++ [(RowD.mk (keyL mode names x1.ls) ((doE op x1.v q.v).1))]).map RowD.d), .mp g8 (z9 mode names b) (b.map RowD.d), .sl (vS g16 1 1) 2 30 ([.agg [.sh 2 ((keyL mode names x1.ls).map Lbl.d), dI ((doE op x1.v q.v).1)]]), .bx g13 30 (RowD.d q), .bx g10 30 (RowD.d x1)] rfl (PD.subH (HSub.fst 2 rfl) ?_))))))))))))))
                  refine PD.norm [.sl v17 2 30 ((o ++ [(RowD.mk (keyL mode names x1.ls) ((doE op x1.v q.v).1))]).map RowD.d), .mp g8 (z9 mode names b) (b.map RowD.d)] rfl ?_
                  exact zS (k + 1, v17, (o ++ [(RowD.mk (keyL mode names x1.ls) ((doE op x1.v q.v).1))])) ⟨sk rfl, sk rfl, sk rfl, sk rfl, sk rfl, sk rfl, sk rfl, sk rfl, trivial⟩ HSub.rfl' ⟨by show k + 1 ≤ a.length; omega, by rw [maOut_add (y := (RowD.mk (keyL mode names x1.ls) ((doE op x1.v q.v).1))) hx1 (zds hfq hc15), ← ho], za8 hx1 he (by rw [zaD hfq]; have h := hc14; omega)⟩ (by omega)
                · simp only [Bool.and_eq_true, Bool.or_eq_true, Bool.not_eq_true', Bool.not_eq_false', Bool.and_eq_false_iff, Bool.or_eq_false_iff, decide_eq_true_eq, decide_eq_false_iff_not, Decidable.not_not, ne_eq] at hc15
                  refine zh _ _ rfl rfl rfl (zc rfl (za rfl rfl (zb rfl) (za rfl rfl (zY rfl rfl rfl) (za rfl rfl (ze rfl) (zg rfl (zf ?_))))))
                  refine zu _ _ rfl rfl rfl rfl (fun hc18 => ?_) (fun hc18 => ?_)
                  · replace hc18 := of_decide_eq_true hc18
                    refine zc rfl (za rfl rfl (zb rfl) (za rfl rfl (za2 (d := RowD.d x1) rfl (i := 2) rfl Try.isAgg30 Try.sizeOf30 rfl rfl) (zl rfl rfl (z5 [.tmp 104] rfl rfl (.cons CellD.agg .nil) rfl Try.runUnderlying22 Try.sizeOf30 Try.zeroValue30 rfl rfl rfl rfl) ?_)))
                    rintro _ _ ⟨g19, rfl, rfl⟩
                    refine zl rfl rfl (z4 (f := RowD.d) (l := o) (l' := [x1]) (i := 4) rfl rfl rfl (SrcD.own (j := 0) rfl rfl) zbm za4 rfl rfl (by unfold maxLen; (try simp only [la, lc, ln, lm, lt', ld, ls, lr]); omega) (by (try simp only [la, lc, ln, lm, lt', ld, ls, lr]); omega)) ?_
                    rintro _ _ ⟨v20, rfl, rfl⟩
                    refine OpsD.norm [.sl (vS g19 1 1) 2 30 ([RowD.d x1]), .bx g13 30 (RowD.d q), .sl v11 2 33 ((keyL mode names x1.ls).map Lbl.d), .bx g10 30 (RowD.d x1), .sl v20 2 30 ((o ++ [x1]).map RowD.d), .mp g8 (z9 mode names b) (b.map RowD.d)] rfl (za rfl rfl (ze rfl) (zg rfl (zD (zD (zf (zc rfl (za rfl rfl (z8 (c := ((k + 1 : Nat) : Int)) rfl rfl (zT (by omega) (by omega))) (za rfl rfl (zb rfl) (zg rfl (PD.subH (HSub.perm (zO (i := 5) rfl)) (PD.norm [.mp g8 (z9 mode names b) (b.map RowD.d), .sl (vS g19 1 1) 2 30 ([RowD.d x1]), .bx g13 30 (RowD.d q), .sl v11 2 33 ((keyL mode names x1.ls).map Lbl.d), .bx g10 30 (RowD.d x1), .sl v20 2 30 ((o ++ [x1]).map RowD.d)] rfl (PD.subH (HSub.perm (zO (i := 5) rfl)) (PD.norm [.sl v20 2 30 ((o ++ [x1]).map RowD.d), .mp g8 (z9 mode names b) (b.map RowD.d), .sl (vS g19 1 1) 2 30 ([RowD.d x1]), .bx g13 30 (RowD.d q), .sl v11 2 33 ((keyL mode names x1.ls).map Lbl.d), .bx g10 30 (RowD.d x1)] rfl (PD.subH (HSub.fst 2 rfl) (PD.norm [.sl v20 2 30 ((o ++ [x1]).map RowD.d), .mp g8 (z9 mode names b) (b.map RowD.d)] rfl ?_)))))))))))))))
                    exact zS (k + 1, v20, (o ++ [x1])) ⟨sk rfl, sk rfl, sk rfl, sk rfl, sk rfl, sk rfl, sk rfl, sk rfl, trivial⟩ HSub.rfl' ⟨by show k + 1 ≤ a.length; omega, by rw [maOut_add (y := x1) hx1 (maOne_cmp hfq hc15 hc18), ← ho], za8 hx1 he (by rw [zaD hfq]; have h := hc14; omega)⟩ (by omega)
                  · replace hc18 := of_decide_eq_false hc18
                    refine zz rfl (zD (zD (zf (zc rfl (za rfl rfl (z8 (c := ((k + 1 : Nat) : Int)) rfl rfl (zT (by omega) (by omega))) (za rfl rfl (zb rfl) (zg rfl (PD.subH (HSub.perm (zO (i := 4) rfl)) (PD.norm [.mp g8 (z9 mode names b) (b.map RowD.d), .bx g13 30 (RowD.d q), .sl v11 2 33 ((keyL mode names x1.ls).map Lbl.d), .bx g10 30 (RowD.d x1), .sl ov 2 30 (o.map RowD.d)] rfl (PD.subH (HSub.perm (zO (i := 4) rfl)) (PD.norm [.sl ov 2 30 (o.map RowD.d), .mp g8 (z9 mode names b) (b.map RowD.d), .bx g13 30 (RowD.d q), .sl v11 2 33 ((keyL mode names x1.ls).map Lbl.d), .bx g10 30 (RowD.d x1)] rfl (PD.subH (HSub.fst 2 rfl) (PD.norm [.sl ov 2 30 (o.map RowD.d), .mp g8 (z9 mode names b) (b.map RowD.d)] rfl ?_)))))))))))))
                    exact zS (k + 1, ov, o) ⟨sk rfl, sk rfl, sk rfl, sk rfl, sk rfl, sk rfl, sk rfl, sk rfl, trivial⟩ HSub.rfl' ⟨by show k + 1 ≤ a.length; omega, by rw [maOut_not hx1 (maOne_no hfq hc15 hc18), ← ho], za8 hx1 he (by rw [zaD hfq]; have h := hc14; omega)⟩ (by omega)
            · skip
              refine zc rfl (za rfl rfl (zb rfl) (za rfl rfl (zb rfl) (zl rfl rfl (zt [] _ [.sl v11 2 33 ((keyL mode names x1.ls).map Lbl.d)] rfl rfl (.cons (ArgC.own (j := 0) rfl rfl) .nil) (za3 (j := 0) rfl zo) Try.call27 (Text_c (keyL mode names x1.ls) (by omega) hkz.2) (.inr (zbK rfl))) ?_)))
              rintro _ _ ⟨_, ⟨rfl, rfl⟩, rfl⟩
              refine OpsD.norm [.sl v11 2 33 ((keyL mode names x1.ls).map Lbl.d), .bx g10 30 (RowD.d x1), .sl ov 2 30 (o.map RowD.d), .mp g8 (z9 mode names b) (b.map RowD.d)] rfl (za rfl rfl (p_look_f (i := 3) rfl rfl rfl Try.underlying52 Try.underlying9 Try.zeroValue30 (Cv.vagg (by decide)) hg12) (za rfl rfl (zb rfl) (za rfl rfl (zF rfl rfl) (za rfl rfl (zF rfl rfl) (zl rfl rfl (zaN (zv := (.agg #[(.slice none 0 0), (.int .i64 0)])) Try.zeroValue30 ⟨rfl, rfl, trivial⟩ (Cv.vagg (by decide))) ?_)))))
              rintro _ _ ⟨g21, rfl, rfl⟩
              refine zl rfl rfl (zab (i := 0) (X' := .agg [dZ, dI 0]) rfl rfl rfl (CellD.agg) Try.sizeOf30 rfl rfl rfl) ?_
              rintro _ _ ⟨rfl, rfl⟩
              refine OpsD.norm [.bx g21 30 (.agg [dZ, dI 0]), .sl v11 2 33 ((keyL mode names x1.ls).map Lbl.d), .bx g10 30 (RowD.d x1), .sl ov 2 30 (o.map RowD.d), .mp g8 (z9 mode names b) (b.map RowD.d)] rfl (za rfl rfl (ze rfl) (zg rfl (zf (zh _ _ rfl rfl rfl (zh _ _ rfl rfl rfl (zc rfl (za rfl rfl (zb rfl) (za rfl rfl (zag (q := false) rfl) (zg rfl (zf (zau _ rfl rfl rfl (z3 rfl (zK (zE (zf (zc rfl (za rfl rfl (z8 (c := ((k + 1 : Nat) : Int)) rfl rfl (zT (by omega) (by omega))) (za rfl rfl (zb rfl) (zg rfl (PD.subH (HSub.perm (zO (i := 4) rfl)) ?_))))))))))))))))))))
              refine PD.norm [.mp g8 (z9 mode names b) (b.map RowD.d), .bx g21 30 (.agg [dZ, dI 0]), .sl v11 2 33 ((keyL mode names x1.ls).map Lbl.d), .bx g10 30 (RowD.d x1), .sl ov 2 30 (o.map RowD.d)] rfl (PD.subH (HSub.perm (zO (i := 4) rfl)) (PD.norm [.sl ov 2 30 (o.map RowD.d), .mp g8 (z9 mode names b) (b.map RowD.d), .bx g21 30 (.agg [dZ, dI 0]), .sl v11 2 33 ((keyL mode names x1.ls).map Lbl.d), .bx g10 30 (RowD.d x1)] rfl (PD.subH (HSub.fst 2 rfl) (PD.norm [.sl ov 2 30 (o.map RowD.d), .mp g8 (z9 mode names b) (b.map RowD.d)] rfl ?_))))
              exact zS (k + 1, ov, o) ⟨sk rfl, sk rfl, sk rfl, sk rfl, sk rfl, sk rfl, sk rfl, sk rfl, trivial⟩ HSub.rfl' ⟨by show k + 1 ≤ a.length; omega, by rw [maOut_not hx1 (maF_none hg12).2, ← ho], za8 hx1 he (by rw [(maF_none hg12).1])⟩ (by omega)
          · replace hc9 := of_decide_eq_false hc9
            refine z3 rfl (zK (zI (zE (zf (zh _ _ rfl rfl rfl (JD.mv (Mv.freeze (K' := [(0, .s op), (3, dI mode), (4, .sh 1 (names.map D.s)), (14, .v (.map (some g8))), (16, .sh 2 (o.map RowD.d)), (57, .sh 2 (a.map RowD.d)), (58, dN a.length), (59, dN k), (60, dB (decide (((k : Nat) : Int) < ((a.length : Nat) : Int))))]) [.sl ov 2 30 (o.map RowD.d)] (H1 := [.mp g8 (z9 mode names b) (b.map RowD.d)]) (H1' := [.mp g8 (z9 mode names b) (b.map RowD.d)]) ⟨⟨_, rfl, ArgC.id⟩, ⟨_, rfl, ArgC.id⟩, ⟨_, rfl, ArgC.id⟩, ⟨_, rfl, ArgC.id⟩, ⟨_, rfl, ArgC.own (j := 0) rfl rfl⟩, ⟨_, rfl, ArgC.id⟩, ⟨_, rfl, ArgC.id⟩, ⟨_, rfl, ArgC.id⟩, ⟨_, rfl, ArgC.id⟩, trivial⟩ (.same .nil)) (zc rfl (za rfl rfl (zb rfl) (zl rfl rfl (zt [] _ [] rfl rfl (.cons ArgC.id .nil) zo Try.call30 (vTidy_c o) (.inl rfl)) ?_)))))))))
            rintro _ _ ⟨_, ⟨v22, rfl, rfl⟩, rfl⟩
            refine OpsD.norm [.sl v22 2 30 ((rtL o).map RowD.d), .mp g8 (z9 mode names b) (b.map RowD.d)] rfl (za rfl rfl (zF rfl rfl) (za rfl rfl (zF rfl rfl) (za rfl rfl (ze rfl) (za rfl rfl (ze rfl) (zg rfl (zf (JD.keep [10, 11] [(10, .ov v22), (11, dI (rtE o))] rfl (zB rfl (PD.norm [.sl v22 2 30 ((zq op a b mode names).map RowD.d), .mp g8 (z9 mode names b) (b.map RowD.d)] (by have hw : rtL o = zq op a b mode names := (by first | (rw [ho]; exact (ma_ok hgood hnn he (by omega)).1) | (rw [ho]; exact (ma_ok hgood hnn he (by omega)).2)); rw [hw]) ?_)))))))))
            exact zx Try.results12 (.cons (zs rfl) (.cons (zM (zs rfl) (Cv.eq (congrArg (fun n => D.v (.int .i64 n)) (by first | (rw [ho]; exact (ma_ok hgood hnn he (by omega)).1) | (rw [ho]; exact (ma_ok hgood hnn he (by omega)).2))))) .nil)) rfl (HSub.fst 1 rfl) ⟨v22, rfl, rfl⟩
        · skip
          refine zc rfl (za rfl rfl (zb rfl) (za rfl rfl (zb rfl) (za rfl rfl (zb rfl) (zl rfl rfl (zt [] [.mp g6 (z9 mode names a) (a.map RowD.d)] [] rfl rfl (.cons ArgC.id (.cons ArgC.id (.cons ArgC.id .nil))) zo Try.call26 (keyed_f b mode names (by omega) hzb hg7) (.inl rfl)) ?_))))
          rintro _ _ ⟨_, ⟨rfl, rfl⟩, rfl⟩
          refine OpsD.norm [.mp g6 (z9 mode names a) (a.map RowD.d)] rfl (za rfl rfl (zb rfl) (za rfl rfl (zF rfl rfl) (za rfl rfl (zF rfl rfl) (za rfl rfl (ze rfl) (za rfl rfl (ze rfl) (zg rfl (zf (zh _ _ rfl rfl rfl (zh _ _ rfl rfl rfl (zc rfl (za rfl rfl (zb rfl) (za rfl rfl (zag (q := true) rfl) (za rfl rfl (zb rfl) (zi rfl rfl rfl rfl rfl (zb rfl) (zi rfl rfl rfl rfl rfl (zag (q := false) rfl) (za rfl rfl (zm rfl rfl) (zg rfl (zf (JD.keep [0, 1, 3, 4, 10, 11, 14, 56] [(0, .s op), (1, .sh 2 (a.map RowD.d)), (3, dI mode), (4, .sh 1 (names.map D.s)), (10, dZ), (11, dI 0), (14, .v (.map none)), (56, dB true)] rfl (zau _ rfl rfl rfl (zh _ _ rfl rfl rfl (zc rfl (za rfl rfl (ze rfl) (za rfl rfl (ze rfl) (zg rfl (zf (zB rfl (zp (PD.subH (HSub.nil 2 30) ?_)))))))))))))))))))))))))))))
          refine PD.norm [.sl (.slice none 0 0) 2 30 ((zq op a b mode names).map RowD.d), .mp g6 (z9 mode names a) (a.map RowD.d)] (by have hw : [] = zq op a b mode names := (by first | exact (zaU hgood (fun h => hg7 h.2)).1 | exact (zaU hgood (fun h => hg7 h.2)).2 | (rw [← zaD hfq]; exact (zaU hgood (fun h => hg7 h.2)).2)); rw [show ([] : List D) = List.map RowD.d (zq op a b mode names) from congrArg (List.map RowD.d) hw]) ?_
          exact zx Try.results12 (.cons (zM (zs rfl) (Cv.ov rfl)) (.cons (zM (zs rfl) (Cv.eq (congrArg (fun n => D.v (.int .i64 n)) (by first | exact (zaU hgood (fun h => hg7 h.2)).1 | exact (zaU hgood (fun h => hg7 h.2)).2 | (rw [← zaD hfq]; exact (zaU hgood (fun h => hg7 h.2)).2))))) .nil)) rfl (HSub.fst 1 rfl) ⟨(.slice none 0 0), rfl, rfl⟩
      · skip
        refine zc rfl (za rfl rfl (zb rfl) (za rfl rfl (zb rfl) (za rfl rfl (zb rfl) (zl rfl rfl (zt [] [] [] rfl rfl (.cons ArgC.id (.cons ArgC.id (.cons ArgC.id .nil))) zo Try.call26 (keyed_f a mode names (by omega) hza hg5) (.inl rfl)) ?_))))
        rintro _ _ ⟨_, ⟨rfl, rfl⟩, rfl⟩
        refine OpsD.norm [] rfl (za rfl rfl (zb rfl) (za rfl rfl (zF rfl rfl) (za rfl rfl (zF rfl rfl) (za rfl rfl (ze rfl) (za rfl rfl (ze rfl) (zg rfl (zf (JD.keep [0, 1, 2, 3, 4, 10, 11, 13] [(0, .s op), (1, .sh 2 (a.map RowD.d)), (2, .sh 2 (b.map RowD.d)), (3, dI mode), (4, .sh 1 (names.map D.s)), (10, dZ), (11, dI 0), (13, dB false)] rfl (zh _ _ rfl rfl rfl ?_)))))))))
        by_cases hg23 : ndT mode names b
        · skip
          refine zc rfl (za rfl rfl (zb rfl) (za rfl rfl (zb rfl) (za rfl rfl (zb rfl) (zl rfl rfl (zt [] [] [] rfl rfl (.cons ArgC.id (.cons ArgC.id (.cons ArgC.id .nil))) zo Try.call26 (keyed_t b mode names (by omega) hzb hg23) (.inl rfl)) ?_))))
          rintro _ _ ⟨_, ⟨g24, rfl, rfl⟩, rfl⟩
          refine OpsD.norm [.mp g24 (z9 mode names b) (b.map RowD.d)] rfl (za rfl rfl (zb rfl) (za rfl rfl (zF rfl rfl) (za rfl rfl (zF rfl rfl) (za rfl rfl (ze rfl) (za rfl rfl (ze rfl) (zg rfl (zf (zh _ _ rfl rfl rfl (zh _ _ rfl rfl rfl (zc rfl (za rfl rfl (zb rfl) (za rfl rfl (zag (q := false) rfl) (za rfl rfl (zb rfl) (zj rfl rfl rfl rfl rfl (by decide) (zj rfl rfl rfl rfl rfl (by decide) (za rfl rfl (zr rfl rfl) (zg rfl (zf (JD.keep [0, 1, 3, 4, 10, 11, 14, 56] [(0, .s op), (1, .sh 2 (a.map RowD.d)), (3, dI mode), (4, .sh 1 (names.map D.s)), (10, dZ), (11, dI 0), (14, .v (.map (some g24))), (56, dB true)] rfl (zau _ rfl rfl rfl (zh _ _ rfl rfl rfl (zc rfl (za rfl rfl (ze rfl) (za rfl rfl (ze rfl) (zg rfl (zf (zB rfl (zp (PD.subH (HSub.nil 2 30) ?_)))))))))))))))))))))))))))))
          refine PD.norm [.sl (.slice none 0 0) 2 30 ((zq op a b mode names).map RowD.d), .mp g24 (z9 mode names b) (b.map RowD.d)] (by have hw : [] = zq op a b mode names := (by first | exact (zaU hgood (fun h => hg5 h.1)).1 | exact (zaU hgood (fun h => hg5 h.1)).2 | (rw [← zaD hfq]; exact (zaU hgood (fun h => hg5 h.1)).2)); rw [show ([] : List D) = List.map RowD.d (zq op a b mode names) from congrArg (List.map RowD.d) hw]) ?_
          exact zx Try.results12 (.cons (zM (zs rfl) (Cv.ov rfl)) (.cons (zM (zs rfl) (Cv.eq (congrArg (fun n => D.v (.int .i64 n)) (by first | exact (zaU hgood (fun h => hg5 h.1)).1 | exact (zaU hgood (fun h => hg5 h.1)).2 | (rw [← zaD hfq]; exact (zaU hgood (fun h => hg5 h.1)).2))))) .nil)) rfl (HSub.fst 1 rfl) ⟨(.slice none 0 0), rfl, rfl⟩
        · skip
          refine zc rfl (za rfl rfl (zb rfl) (za rfl rfl (zb rfl) (za rfl rfl (zb rfl) (zl rfl rfl (zt [] [] [] rfl rfl (.cons ArgC.id (.cons ArgC.id (.cons ArgC.id .nil))) zo Try.call26 (keyed_f b mode names (by omega) hzb hg23) (.inl rfl)) ?_))))
          rintro _ _ ⟨_, ⟨rfl, rfl⟩, rfl⟩
          refine OpsD.norm [] rfl (za rfl rfl (zb rfl) (za rfl rfl (zF rfl rfl) (za rfl rfl (zF rfl rfl) (za rfl rfl (ze rfl) (za rfl rfl (ze rfl) (zg rfl (zf (zh _ _ rfl rfl rfl (zh _ _ rfl rfl rfl (zc rfl (za rfl rfl (zb rfl) (za rfl rfl (zag (q := false) rfl) (za rfl rfl (zb rfl) (zj rfl rfl rfl rfl rfl (by decide) (zj rfl rfl rfl rfl rfl (by decide) (za rfl rfl (zr rfl rfl) (zg rfl (zf (JD.keep [0, 1, 3, 4, 10, 11, 14, 56] [(0, .s op), (1, .sh 2 (a.map RowD.d)), (3, dI mode), (4, .sh 1 (names.map D.s)), (10, dZ), (11, dI 0), (14, .v (.map none)), (56, dB true)] rfl (zau _ rfl rfl rfl (zh _ _ rfl rfl rfl (zc rfl (za rfl rfl (ze rfl) (za rfl rfl (ze rfl) (zg rfl (zf (zB rfl (zp (PD.subH (HSub.nil 2 30) ?_)))))))))))))))))))))))))))))
          refine PD.norm [.sl (.slice none 0 0) 2 30 ((zq op a b mode names).map RowD.d)] (by have hw : [] = zq op a b mode names := (by first | exact (zaU hgood (fun h => hg5 h.1)).1 | exact (zaU hgood (fun h => hg5 h.1)).2 | (rw [← zaD hfq]; exact (zaU hgood (fun h => hg5 h.1)).2)); rw [show ([] : List D) = List.map RowD.d (zq op a b mode names) from congrArg (List.map RowD.d) hw]) ?_
          exact zx Try.results12 (.cons (zM (zs rfl) (Cv.ov rfl)) (.cons (zM (zs rfl) (Cv.eq (congrArg (fun n => D.v (.int .i64 n)) (by first | exact (zaU hgood (fun h => hg5 h.1)).1 | exact (zaU hgood (fun h => hg5 h.1)).2 | (rw [← zaD hfq]; exact (zaU hgood (fun h => hg5 h.1)).2))))) .nil)) rfl (HSub.fst 1 rfl) ⟨(.slice none 0 0), rfl, rfl⟩
end Lp
