/- Walks, printed by a program of mine. -/
import Derived.Test.YtoanlikkhjohpaaDoorV39
set_option linter.unusedSimpArgs false
set_option linter.unusedVariables false
namespace Lp
open Go Go.RowKit Go.Proofs

namespace HdYtoanlikkhjohpaaDoorV40
theorem fa_28_1 (b o : Nat) : ∀ w, (Instr.fieldAt 28 (.pointer (some ⟨b, o, none⟩)) 1).run Tryd.prog w = .ok (.pointer (some ⟨b, o + 1, none⟩)) w := fun _ => by kernel_rfl
theorem infz_21 : ∃ i, Tryd.prog.info? 21 = some i ∧ i.zero = some (.int .i32 0) ∧ i.size = 1 ∧ i.bytes = 4 := zcC (by kernel_rfl)
theorem infz_28 : ∃ i, Tryd.prog.info? 28 = some i ∧ i.zero = some (.agg #[(.int .i64 0), (.int .i64 0), (.string ByteArray.empty)]) ∧ i.size = 3 ∧ i.bytes = 32 := zcC (by kernel_rfl)
theorem und_23 : Tryd.prog.underlying 23 = some (.slice 28) := by kernel_rfl
theorem und_47 : Tryd.prog.underlying 47 = some (.slice 21) := by kernel_rfl
end HdYtoanlikkhjohpaaDoorV40
open HdYtoanlikkhjohpaaDoorV40

set_option maxHeartbeats 4000000 in
set_option maxRecDepth 100000 in
theorem Spell_c (s : ByteArray) (hs : s.size ≤ 1000000000) :
    CD Tryd.prog 21 [] [.s s] (isOwn 1 21 ((zaj s).map dR)) := by
  refine zC Tryd.func21 rfl (N := 16) rfl rfl (fun C => ?_)
  refine JD.keep [0] [(0, .s s)] rfl ?_
  refine JD.bd 0 rfl (fun bd0 => ?_)
  have sz0 : s.size ≤ 9223372036854775807 := bd0
  refine zf _ _ rfl rfl rfl (zb rfl (za rfl rfl (zd rfl) (zg rfl (ze (zf _ _ rfl rfl rfl (zb rfl (za rfl rfl (zd rfl) (zg rfl (ze (zf _ _ rfl rfl rfl (zf _ _ rfl rfl rfl (zb rfl (za rfl rfl (zc rfl) (zi rfl rfl (zcq rfl Tryd.runUnderlying9) ?_))))))))))))))
  rintro _ _ ⟨g1, rfl, rfl⟩
  refine zg rfl (ze (zH _ rfl rfl (zaX (fun (g : Nat × Value × List Int) => [(2, dZ), (7, dP g1 0), (3, .ov g.2.1)]) (fun (g : Nat × Value × List Int) => [.it g1 s g.1, .sl g.2.1 1 21 (g.2.2.map dR)]) (fun (g : Nat × Value × List Int) => (g.1 ≤ s.size) ∧ (g.2.2.length ≤ g.1) ∧ (zaj s = g.2.2 ++ zaH s g.1)) (fun (g : Nat × Value × List Int) => s.size - g.1) _ (0, .slice none 0 0, []) rfl rfl ⟨sk rfl, sk rfl, sc rfl (Cv.ov rfl), trivial⟩ (HSub.trans (HSub.nil 1 21) (HSub.perm (List.Perm.swap _ _ _))) ⟨Nat.zero_le _, Nat.le_refl _, rfl⟩ ?_)))
  rintro ⟨p, ov, l⟩ ⟨hp, hn, hf⟩
  replace hp : p ≤ s.size := hp
  replace hn : l.length ≤ p := hn
  replace hf : zaj s = l ++ zaH s p := hf
  refine JD.keep [2, 7, 3] [(2, dZ), (7, dP g1 0), (3, .ov ov)] rfl (JD.norm [.it g1 s p, .sl ov 1 21 (l.map dR)] rfl ?_)
  rcases Nat.lt_or_ge p s.size with hlt | hge
  · skip
    have hrune := zaO hlt
    have hrl := zca s p
    have hdw := zax s p hlt
    have hdp := zV s p
    refine zf _ _ rfl rfl rfl (zb rfl (zi rfl rfl (zb6 (i := 0) rfl rfl hlt) ?_))
    rintro _ _ ⟨rfl, rfl⟩
    refine OpsD.norm [.it g1 s (p + decW s p), .sl ov 1 21 (l.map dR)] rfl (za rfl rfl (zA rfl rfl) (zg rfl (ze (zf _ _ rfl rfl rfl (zbt _ rfl rfl rfl (zD rfl (ze (zH _ rfl rfl (zf _ _ rfl rfl rfl (zb rfl (za rfl rfl (zA rfl rfl) (za rfl rfl (zd rfl) (zg rfl (ze (zb rfl (za rfl rfl (zc rfl) (za rfl rfl (zc rfl) (zi rfl rfl (zP [.tmp 12] rfl rfl (.cons (CellD.v rfl) .nil) rfl Tryd.runUnderlying47 Tryd.sizeOf21 Tryd.zeroValue21 rfl rfl rfl rfl) ?_))))))))))))))))))
    rintro _ _ ⟨g2, rfl, rfl⟩
    refine zi rfl rfl (zad (f := dR) (l := l) (l' := [((decR s p : Nat) : Int)]) (i := 2) rfl rfl rfl (SrcD.own (j := 0) rfl rfl) und_47 infz_21 rfl rfl (by unfold maxLen; (try simp only [la, lc, ln, lm, lt', ld, ls, lr]); omega) (by (try simp only [la, lc, ln, lm, lt', ld, ls, lr]); omega)) ?_
    rintro _ _ ⟨v3, rfl, rfl⟩
    refine OpsD.norm [.sl (vS g2 1 1) 1 21 ([.v (.int .i32 ((decR s p : Nat) : Int))]), .it g1 s (p + decW s p), .sl v3 1 21 ((l ++ [((decR s p : Nat) : Int)]).map dR)] rfl (za rfl rfl (zd rfl) (zg rfl (zG ?_)))
    exact zai (p + decW s p, v3, (l ++ [((decR s p : Nat) : Int)])) ⟨sk rfl, sk rfl, sk rfl, trivial⟩ (HSub.lst 1 rfl) ⟨by have := zax s p hlt; omega, by rw [List.length_append, List.length_singleton]; omega, by rw [hf, hrune, List.append_assoc]; rfl⟩ (by have := zV s p; omega)
  · skip
    have hrune := zba hge
    refine zf _ _ rfl rfl rfl (zb rfl (za rfl rfl (zck (i := 0) rfl rfl hge) (za rfl rfl (zA rfl rfl) (zg rfl (ze (zf _ _ rfl rfl rfl (za1 _ rfl rfl rfl (zaQ rfl (zaa (z7 (zO (ze (zf _ _ rfl rfl rfl (zb rfl (za rfl rfl (zc rfl) (za rfl rfl (zd rfl) (zg rfl (ze (zx rfl (PD.subH (HSub.less (sub_one (i := 1) rfl)) (PD.subH (HSub.turn (h' := .sl ov 1 21 ((zaj s).map dR)) rfl (Hp.eq_sl (show List.map dR l = List.map dR (zaj s) from congrArg _ (by rw [hf, hrune, List.append_nil])))) ?_)))))))))))))))))))))
    exact pd_ret Tryd.results21 (.cons (zq rfl) .nil) rfl ⟨_, rfl, rfl⟩

set_option maxHeartbeats 4000000 in
set_option maxRecDepth 100000 in
theorem first_c (s : ByteArray) (ev : Value) (hev : EvOk ev) (hs : s.size ≤ 1000000) (hz : 0 < s.size) :
    CD Tryd.prog 14 [HPow, HErr ev] [.s s] (fun r H' => r = .tup [TokD.d ((zk (bl8 s)).1), dN ((zk (bl8 s)).2)] ∧ H' = [HPow, HErr ev]) := by
  refine zC Tryd.func14 rfl (N := 36) rfl rfl (fun C => ?_)
  refine JD.keep [0] [(0, .s s)] rfl ?_
  refine JD.bd 0 rfl (fun bd0 => ?_)
  have sz0 : s.size ≤ 9223372036854775807 := bd0
  obtain ⟨y, hy, ey⟩ : ∃ y, (zaj s)[0]? = some y ∧ y = ((decR s 0 : Nat) : Int) := ⟨_, by rw [show zaj s = zaH s 0 from rfl, zaO hz]; rfl, rfl⟩
  have hyl := zca s 0
  refine zf _ _ rfl rfl rfl (zb rfl (zi rfl rfl (za7 (zv := (.agg #[(.int .i64 0), (.int .i64 0), (.string ByteArray.empty)])) Tryd.zeroValue28 ⟨rfl, rfl, rfl, trivial⟩ (Cv.vagg (by decide))) ?_))
  rintro _ _ ⟨g1, rfl, rfl⟩
  refine za rfl rfl (zd rfl) (zg rfl (ze (zf _ _ rfl rfl rfl (zf _ _ rfl rfl rfl (zb rfl (za rfl rfl (zc rfl) (zi rfl rfl (zr [] _ [] rfl rfl (.cons ArgC.id .nil) zm Tryd.call21 (Spell_c s (by omega)) (.inl rfl)) ?_)))))))
  rintro _ _ ⟨_, ⟨v2, rfl, rfl⟩, rfl⟩
  refine OpsD.norm [.sl v2 1 21 ((zaj s).map dR), .bx g1 28 (.agg [dI 0, dI 0, .v (.string ByteArray.empty)]), HPow, HErr ev] rfl (za rfl rfl (zN (k := 0) (j := 0) rfl rfl rfl Tryd.runUnderlying47 Tryd.sizeOf21 (by first | rfl | omega) (zM hy)) (za rfl rfl (zaP rfl (i := 0) rfl (zM hy) Tryd.isAgg21 rfl) (za rfl rfl (zd rfl) (zg rfl (ze (zH _ rfl rfl (zf _ _ rfl rfl rfl (zb rfl (za rfl rfl (zc rfl) (zi rfl rfl (zr [] _ [] rfl rfl (.cons ArgC.id .nil) zm Tryd.call20 (Kind_c y) (.inl rfl)) ?_))))))))))
  rintro _ _ ⟨_, ⟨rfl, rfl⟩, rfl⟩
  refine OpsD.norm [.sl v2 1 21 ((zaj s).map dR), .bx g1 28 (.agg [dI 0, dI 0, .v (.string ByteArray.empty)]), HPow, HErr ev] rfl (za rfl rfl (zR rfl rfl rfl) (za rfl rfl (zd rfl) (zg rfl (ze ?_))))
  refine zw _ _ rfl rfl rfl rfl (fun hc3 => ?_) (fun hc3 => ?_)
  · replace hc3 := of_decide_eq_true hc3
    have q1 : zE ((decR s 0 : Nat) : Int) = 1 := by rw [← ey]; exact hc3
    refine zf _ _ rfl rfl rfl (zb rfl (za rfl rfl (zc rfl) (zi rfl rfl (zr [] _ [] rfl rfl (.cons ArgC.id .nil) zm Tryd.call22 (word_c s (by omega)) (.inl rfl)) ?_)))
    rintro _ _ ⟨_, ⟨rfl, rfl⟩, rfl⟩
    refine OpsD.norm [.sl v2 1 21 ((zaj s).map dR), .bx g1 28 (.agg [dI 0, dI 0, .v (.string ByteArray.empty)]), HPow, HErr ev] rfl (za rfl rfl (zA rfl rfl) (za rfl rfl (zA rfl rfl) (zi rfl rfl (zI (i := 1) (X' := TokD.d ((zaS (bl8 s)).1)) rfl rfl rfl (CellD.agg) Tryd.sizeOf28 rfl rfl rfl) ?_)))
    rintro _ _ ⟨rfl, rfl⟩
    refine OpsD.norm [.sl v2 1 21 ((zaj s).map dR), .bx g1 28 (TokD.d ((zaS (bl8 s)).1)), HPow, HErr ev] rfl (za rfl rfl (zd rfl) (zg rfl (ze (JD.keep [0, 2, 3] [(0, .s s), (2, dP g1 0), (3, dN ((zaS (bl8 s)).2))] rfl (zx rfl (zn (zu (PD.subH (HSub.perm (zl (i := 3) rfl)) (PD.norm [HErr ev, .sl v2 1 21 ((zaj s).map dR), .bx g1 28 (TokD.d ((zaS (bl8 s)).1)), HPow] rfl (PD.subH (HSub.perm (zl (i := 3) rfl)) (PD.norm [HPow, HErr ev, .sl v2 1 21 ((zaj s).map dR), .bx g1 28 (TokD.d ((zaS (bl8 s)).1))] rfl ?_)))))))))))
    exact zp Tryd.results14 (.cons (zB (zaI (X := TokD.d ((zaS (bl8 s)).1)) (d := TokD.d ((zaS (bl8 s)).1)) (i := 3) rfl rfl Tryd.isAgg28 Tryd.sizeOf28 rfl rfl) (Cv.eq (congrArg TokD.d (show (zaS (bl8 s)).1 = (zk (bl8 s)).1 from (by rw [firstT_1 q1]))))) (.cons (zB (zq rfl) (Cv.eq (congrArg dN (by rw [firstT_1 q1])))) .nil)) rfl (HSub.fst 2 rfl) ⟨rfl, rfl⟩
  · replace hc3 := of_decide_eq_false hc3
    have q1 : ¬ zE ((decR s 0 : Nat) : Int) = 1 := by rw [← ey]; exact hc3
    refine zf _ _ rfl rfl rfl (zb rfl (za rfl rfl (zc rfl) (zi rfl rfl (zr [] _ [] rfl rfl (.cons ArgC.id .nil) zm Tryd.call20 (Kind_c y) (.inl rfl)) ?_)))
    rintro _ _ ⟨_, ⟨rfl, rfl⟩, rfl⟩
    refine OpsD.norm [.sl v2 1 21 ((zaj s).map dR), .bx g1 28 (.agg [dI 0, dI 0, .v (.string ByteArray.empty)]), HPow, HErr ev] rfl (za rfl rfl (zR rfl rfl rfl) (za rfl rfl (zd rfl) (zg rfl (ze (JD.keep [0, 2, 3, 4, 17] [(0, .s s), (2, dP g1 0), (3, dI 0), (4, .v (.int .i32 y)), (17, dB (decide (zE y = (2 : Int))))] rfl ?_)))))
    refine zw _ _ rfl rfl rfl rfl (fun hc4 => ?_) (fun hc4 => ?_)
    · replace hc4 := of_decide_eq_true hc4
      have hk2 : zE ((decR s 0 : Nat) : Int) = 2 := by rw [← ey]; exact hc4
      refine zf _ _ rfl rfl rfl (zb rfl (za rfl rfl (zc rfl) (OpsD.subH (HSub.perm (zl (i := 3) rfl)) (OpsD.norm [HErr ev, .sl v2 1 21 ((zaj s).map dR), .bx g1 28 (.agg [dI 0, dI 0, .v (.string ByteArray.empty)]), HPow] rfl (OpsD.subH (HSub.perm (zl (i := 3) rfl)) (OpsD.norm [HPow, HErr ev, .sl v2 1 21 ((zaj s).map dR), .bx g1 28 (.agg [dI 0, dI 0, .v (.string ByteArray.empty)])] rfl (zi rfl rfl (zr [HPow, HErr ev] [.sl v2 1 21 ((zaj s).map dR), .bx g1 28 (.agg [dI 0, dI 0, .v (.string ByteArray.empty)])] [] rfl rfl (.cons ArgC.id .nil) zm Tryd.call23 (number_c s ev hev (by omega) (by omega) hk2) (.inl rfl)) ?_)))))))
      rintro _ _ ⟨_, ⟨rfl, rfl⟩, rfl⟩
      refine OpsD.norm [HPow, HErr ev, .sl v2 1 21 ((zaj s).map dR), .bx g1 28 (.agg [dI 0, dI 0, .v (.string ByteArray.empty)])] rfl (za rfl rfl (zA rfl rfl) (za rfl rfl (zA rfl rfl) (zi rfl rfl (zI (i := 3) (X' := TokD.d ((numT (bl8 s)).1)) rfl rfl rfl (CellD.agg) Tryd.sizeOf28 rfl rfl rfl) ?_)))
      rintro _ _ ⟨rfl, rfl⟩
      refine OpsD.norm [HPow, HErr ev, .sl v2 1 21 ((zaj s).map dR), .bx g1 28 (TokD.d ((numT (bl8 s)).1))] rfl (za rfl rfl (zd rfl) (zg rfl (ze (zx rfl (zn (zu ?_))))))
      exact zp Tryd.results14 (.cons (zB (zaI (X := TokD.d ((numT (bl8 s)).1)) (d := TokD.d ((numT (bl8 s)).1)) (i := 3) rfl rfl Tryd.isAgg28 Tryd.sizeOf28 rfl rfl) (Cv.eq (congrArg TokD.d (show (numT (bl8 s)).1 = (zk (bl8 s)).1 from (by rw [firstT_2 q1 hk2]))))) (.cons (zB (zq rfl) (Cv.eq (congrArg dN (by rw [firstT_2 q1 hk2])))) .nil)) rfl (HSub.fst 2 rfl) ⟨rfl, rfl⟩
    · replace hc4 := of_decide_eq_false hc4
      have q2 : ¬ zE ((decR s 0 : Nat) : Int) = 2 := by rw [← ey]; exact hc4
      refine zf _ _ rfl rfl rfl (zb rfl (za rfl rfl (zc rfl) (za rfl rfl (zR rfl rfl rfl) (za rfl rfl (zd rfl) (zg rfl (ze ?_))))))
      refine zw _ _ rfl rfl rfl rfl (fun hc5 => ?_) (fun hc5 => ?_)
      · replace hc5 := of_decide_eq_true hc5
        have q3 : decR s 0 = 34 := by have := hc5; omega
        refine zf _ _ rfl rfl rfl (zb rfl (za rfl rfl (zc rfl) (zi rfl rfl (zr [] _ [] rfl rfl (.cons ArgC.id .nil) zm Tryd.call24 (quoted_c s (by omega)) (.inl rfl)) ?_)))
        rintro _ _ ⟨_, ⟨rfl, rfl⟩, rfl⟩
        refine OpsD.norm [.sl v2 1 21 ((zaj s).map dR), .bx g1 28 (.agg [dI 0, dI 0, .v (.string ByteArray.empty)]), HPow, HErr ev] rfl (za rfl rfl (zA rfl rfl) (za rfl rfl (zA rfl rfl) (zi rfl rfl (zI (i := 1) (X' := TokD.d ((strT (bl8 s)).1)) rfl rfl rfl (CellD.agg) Tryd.sizeOf28 rfl rfl rfl) ?_)))
        rintro _ _ ⟨rfl, rfl⟩
        refine OpsD.norm [.sl v2 1 21 ((zaj s).map dR), .bx g1 28 (TokD.d ((strT (bl8 s)).1)), HPow, HErr ev] rfl (za rfl rfl (zd rfl) (zg rfl (ze (JD.keep [0, 2, 3] [(0, .s s), (2, dP g1 0), (3, dN ((strT (bl8 s)).2))] rfl (zx rfl (zn (zu (PD.subH (HSub.perm (zl (i := 3) rfl)) (PD.norm [HErr ev, .sl v2 1 21 ((zaj s).map dR), .bx g1 28 (TokD.d ((strT (bl8 s)).1)), HPow] rfl (PD.subH (HSub.perm (zl (i := 3) rfl)) (PD.norm [HPow, HErr ev, .sl v2 1 21 ((zaj s).map dR), .bx g1 28 (TokD.d ((strT (bl8 s)).1))] rfl ?_)))))))))))
        exact zp Tryd.results14 (.cons (zB (zaI (X := TokD.d ((strT (bl8 s)).1)) (d := TokD.d ((strT (bl8 s)).1)) (i := 3) rfl rfl Tryd.isAgg28 Tryd.sizeOf28 rfl rfl) (Cv.eq (congrArg TokD.d (show (strT (bl8 s)).1 = (zk (bl8 s)).1 from (by rw [firstT_3 q1 q2 q3]))))) (.cons (zB (zq rfl) (Cv.eq (congrArg dN (by rw [firstT_3 q1 q2 q3])))) .nil)) rfl (HSub.fst 2 rfl) ⟨rfl, rfl⟩
      · replace hc5 := of_decide_eq_false hc5
        have q3 : ¬ decR s 0 = 34 := by have := hc5; omega
        refine zD rfl (zG (ze (zf _ _ rfl rfl rfl (zb rfl (za rfl rfl (zc rfl) (zi rfl rfl (zr [] _ [] rfl rfl (.cons ArgC.id .nil) zm Tryd.call25 (sign_c s (by omega)) (.inl rfl)) ?_))))))
        rintro _ _ ⟨_, ⟨rfl, rfl⟩, rfl⟩
        refine OpsD.norm [.sl v2 1 21 ((zaj s).map dR), .bx g1 28 (.agg [dI 0, dI 0, .v (.string ByteArray.empty)]), HPow, HErr ev] rfl (za rfl rfl (zA rfl rfl) (za rfl rfl (zA rfl rfl) (zi rfl rfl (zI (i := 1) (X' := TokD.d ((za4 (bl8 s)).1)) rfl rfl rfl (CellD.agg) Tryd.sizeOf28 rfl rfl rfl) ?_)))
        rintro _ _ ⟨rfl, rfl⟩
        refine OpsD.norm [.sl v2 1 21 ((zaj s).map dR), .bx g1 28 (TokD.d ((za4 (bl8 s)).1)), HPow, HErr ev] rfl (za rfl rfl (zd rfl) (zg rfl (ze (JD.keep [2, 3] [(2, dP g1 0), (3, dN ((za4 (bl8 s)).2))] rfl (zx rfl (PD.subH (HSub.perm (zl (i := 3) rfl)) (PD.norm [HErr ev, .sl v2 1 21 ((zaj s).map dR), .bx g1 28 (TokD.d ((za4 (bl8 s)).1)), HPow] rfl (PD.subH (HSub.perm (zl (i := 3) rfl)) (PD.norm [HPow, HErr ev, .sl v2 1 21 ((zaj s).map dR), .bx g1 28 (TokD.d ((za4 (bl8 s)).1))] rfl ?_)))))))))
        exact zp Tryd.results14 (.cons (zB (zaI (X := TokD.d ((za4 (bl8 s)).1)) (d := TokD.d ((za4 (bl8 s)).1)) (i := 3) rfl rfl Tryd.isAgg28 Tryd.sizeOf28 rfl rfl) (Cv.eq (congrArg TokD.d (show (za4 (bl8 s)).1 = (zk (bl8 s)).1 from (by rw [firstT_4 q1 q2 q3]))))) (.cons (zB (zq rfl) (Cv.eq (congrArg dN (by rw [firstT_4 q1 q2 q3])))) .nil)) rfl (HSub.fst 2 rfl) ⟨rfl, rfl⟩

set_option maxHeartbeats 4000000 in
set_option maxRecDepth 100000 in
theorem Words_c (s : ByteArray) (ev : Value) (hev : EvOk ev) :
    CD Tryd.prog 8 [HPow, HErr ev] [.s s] (fun r H' => ∃ v, r = .tup [.ov v, dI (lexE s)] ∧ H' = [.sl v 3 28 ((lexL s).map TokD.d), HPow, HErr ev]) := by
  refine zC Tryd.func8 rfl (N := 44) rfl rfl (fun C => ?_)
  refine JD.keep [0] [(0, .s s)] rfl ?_
  refine JD.bd 0 rfl (fun bd0 => ?_)
  have sz0 : s.size ≤ 9223372036854775807 := bd0
  refine zf _ _ rfl rfl rfl (zb rfl (za rfl rfl (zd rfl) (za rfl rfl (zd rfl) (zg rfl (ze (zf _ _ rfl rfl rfl (zf _ _ rfl rfl rfl (zb rfl (za rfl rfl (zc rfl) (za rfl rfl (zL rfl Tryd.runUnderlying9) (za rfl rfl (zbU rfl rfl rfl) (zg rfl (ze ?_)))))))))))))
  refine zw _ _ rfl rfl rfl rfl (fun hc1 => ?_) (fun hc1 => ?_)
  · replace hc1 := of_decide_eq_true hc1
    have hlong : 600 < s.size := by have := hc1; omega
    refine zf _ _ rfl rfl rfl (zb rfl (za rfl rfl (zd rfl) (za rfl rfl (zd rfl) (zg rfl (ze (zx rfl (zu (PD.subH (HSub.nil 3 28) (PD.norm [.sl (.slice none 0 0) 3 28 ([].map TokD.d), HPow, HErr ev] rfl (PD.norm [.sl (.slice none 0 0) 3 28 ((lexL s).map TokD.d), HPow, HErr ev] (by have hw9 : ([] : List TokD) = lexL s := (lex_long hlong).1; rw [← hw9]) ?_))))))))))
    exact zp Tryd.results8 (.cons (zB (zq rfl) (Cv.ov rfl)) (.cons (zB (zq rfl) (Cv.eq (congrArg dI (show (1 : Int) = lexE s from (lex_long hlong).2)))) .nil)) rfl (HSub.fst 3 rfl) ⟨(.slice none 0 0), rfl, rfl⟩
  · replace hc1 := of_decide_eq_false hc1
    have hshort : ¬ 600 < s.size := by have := hc1; omega
    have hr0 := zbj (inK [3]) s
    refine zD rfl (ze (zf _ _ rfl rfl rfl (zb rfl (za rfl rfl (zd rfl) (zg rfl (ze (zf _ _ rfl rfl rfl (zf _ _ rfl rfl rfl (zb rfl (za rfl rfl (zc rfl) (zi rfl rfl (Qu.ef (d := .sh 1 ([3].map dI)) (zat [.const (.int .i64 3)] rfl rfl (.cons (CellD.v rfl) .nil) rfl Tryd.runUnderlying45 Tryd.sizeOf3 Tryd.zeroValue3 rfl rfl rfl rfl)) ?_)))))))))))
    rintro _ _ ⟨rfl, rfl⟩
    refine zi rfl rfl (zr [] _ [] rfl rfl (.cons ArgC.id (.cons ArgC.id .nil)) zm Tryd.call13 (zc1 s [3]) (.inl rfl)) ?_
    rintro _ _ ⟨_, ⟨rfl, rfl⟩, rfl⟩
    refine OpsD.norm [HPow, HErr ev] rfl (za rfl rfl (zd rfl) (zg rfl (ze (zH _ rfl rfl (zaX (fun (g : Nat × Value × List TokD) => [(0, .s s), (5, dN g.1), (4, .ov g.2.1)]) (fun (g : Nat × Value × List TokD) => [.sl g.2.1 3 28 (g.2.2.map TokD.d), HPow, HErr ev]) (fun (g : Nat × Value × List TokD) => (WInv s g.1 g.2.2) ∧ (g.1 ≤ s.size) ∧ (g.2.2.length ≤ g.1)) (fun (g : Nat × Value × List TokD) => s.size - g.1) _ (runL (inK [3]) (bl8 s), .slice none 0 0, []) rfl rfl ⟨sk rfl, sk rfl, sc rfl (Cv.ov rfl), trivial⟩ (HSub.nil 3 28) ⟨WInv.zero, hr0, Nat.zero_le _⟩ ?_)))))
    rintro ⟨p, ov, out⟩ ⟨hw, hp, ho⟩
    replace hw : WInv s p out := hw
    replace hp : p ≤ s.size := hp
    replace ho : out.length ≤ p := ho
    refine JD.keep [0, 5, 4] [(0, .s s), (5, dN p), (4, .ov ov)] rfl (JD.norm [.sl ov 3 28 (out.map TokD.d), HPow, HErr ev] rfl (zf _ _ rfl rfl rfl (zf _ _ rfl rfl rfl (zb rfl (za rfl rfl (zc rfl) (za rfl rfl (zc rfl) (za rfl rfl (zL rfl Tryd.runUnderlying9) (za rfl rfl (zbL rfl rfl rfl) (zg rfl (ze ?_))))))))))
    refine zw _ _ rfl rfl rfl rfl (fun hc2 => ?_) (fun hc2 => ?_)
    · replace hc2 := of_decide_eq_true hc2
      have hlt : p < s.size := by have := hc2; omega
      have hfr := first_run_le (s := s) (p := p) hp
      refine zD rfl (ze (zf _ _ rfl rfl rfl (zH _ rfl rfl (zf _ _ rfl rfl rfl (zb rfl (za rfl rfl (zc rfl) (za rfl rfl (zc rfl) (za rfl rfl (z1 (a := p) (c := s.size) rfl rfl rfl (by first | rfl | (show _ = _; omega)) (by first | rfl | (show _ = _; omega)) Tryd.runUnderlying9 (by omega) (by omega)) (OpsD.subH (HSub.perm (zl (i := 2) rfl)) (OpsD.norm [HErr ev, .sl ov 3 28 (out.map TokD.d), HPow] rfl (OpsD.subH (HSub.perm (zl (i := 2) rfl)) (OpsD.norm [HPow, HErr ev, .sl ov 3 28 (out.map TokD.d)] rfl (zi rfl rfl (zr [HPow, HErr ev] [.sl ov 3 28 (out.map TokD.d)] [] rfl rfl (.cons ArgC.id .nil) zm Tryd.call14 (first_c (s.extract p s.size) ev hev (by simp only [ByteArray.size_extract]; omega) (by simp only [ByteArray.size_extract]; omega)) (.inl rfl)) ?_)))))))))))))
      rintro _ _ ⟨_, ⟨rfl, rfl⟩, rfl⟩
      refine OpsD.norm [HPow, HErr ev, .sl ov 3 28 (out.map TokD.d)] rfl (za rfl rfl (zc rfl) (za rfl rfl (zA rfl rfl) (za rfl rfl (zA rfl rfl) (zi rfl rfl (za7 (zv := (.agg #[(.int .i64 0), (.int .i64 0), (.string ByteArray.empty)])) Tryd.zeroValue28 ⟨rfl, rfl, rfl, trivial⟩ (Cv.vagg (by decide))) ?_))))
      rintro _ _ ⟨g3, rfl, rfl⟩
      refine zi rfl rfl (zI (i := 0) (X' := TokD.d ((zk (bl8 (s.extract p s.size))).1)) rfl rfl rfl (CellD.agg) Tryd.sizeOf28 rfl rfl rfl) ?_
      rintro _ _ ⟨rfl, rfl⟩
      refine OpsD.norm [.bx g3 28 (TokD.d ((zk (bl8 (s.extract p s.size))).1)), HPow, HErr ev, .sl ov 3 28 (out.map TokD.d)] rfl (za rfl rfl (zd rfl) (zg rfl (ze (zf _ _ rfl rfl rfl (zf _ _ rfl rfl rfl (zb rfl (za rfl rfl (zc rfl) (za rfl rfl (zR rfl rfl rfl) (zg rfl (ze ?_))))))))))
      refine zw _ _ rfl rfl rfl rfl (fun hc4 => ?_) (fun hc4 => ?_)
      · replace hc4 := of_decide_eq_true hc4
        have hbad : (zk (bl8 (s.extract p s.size))).2 = 0 := by have := hc4; omega
        refine zf _ _ rfl rfl rfl (zb rfl (za rfl rfl (zd rfl) (za rfl rfl (zd rfl) (zg rfl (ze (zx rfl (zu (zn (zu (zaz (zn (zu (PD.subH (HSub.nil 3 28) (PD.norm [.sl (.slice none 0 0) 3 28 ([].map TokD.d), .bx g3 28 (TokD.d ((zk (bl8 (s.extract p s.size))).1)), HPow, HErr ev, .sl ov 3 28 (out.map TokD.d)] rfl (PD.subH (HSub.perm (zl (i := 3) rfl)) (PD.norm [HErr ev, .sl (.slice none 0 0) 3 28 ([].map TokD.d), .bx g3 28 (TokD.d ((zk (bl8 (s.extract p s.size))).1)), HPow, .sl ov 3 28 (out.map TokD.d)] rfl (PD.subH (HSub.perm (zl (i := 3) rfl)) (PD.norm [HPow, HErr ev, .sl (.slice none 0 0) 3 28 ([].map TokD.d), .bx g3 28 (TokD.d ((zk (bl8 (s.extract p s.size))).1)), .sl ov 3 28 (out.map TokD.d)] rfl (PD.subH (HSub.perm (zl (i := 2) rfl)) (PD.norm [.sl (.slice none 0 0) 3 28 ([].map TokD.d), HPow, HErr ev, .bx g3 28 (TokD.d ((zk (bl8 (s.extract p s.size))).1)), .sl ov 3 28 (out.map TokD.d)] rfl ?_))))))))))))))))))))
        refine PD.norm [.sl (.slice none 0 0) 3 28 ((lexL s).map TokD.d), HPow, HErr ev, .bx g3 28 (TokD.d ((zk (bl8 (s.extract p s.size))).1)), .sl ov 3 28 (out.map TokD.d)] (by have hw9 : ([] : List TokD) = lexL s := (lex_bad hshort (hw.bad hlt hbad)).1; rw [← hw9]) ?_
        exact zp Tryd.results8 (.cons (zB (zq rfl) (Cv.ov rfl)) (.cons (zB (zq rfl) (Cv.eq (congrArg dI (show (2 : Int) = lexE s from (lex_bad hshort (hw.bad hlt hbad)).2)))) .nil)) rfl (HSub.fst 3 rfl) ⟨(.slice none 0 0), rfl, rfl⟩
      · replace hc4 := of_decide_eq_false hc4
        have hn0 : ¬ (zk (bl8 (s.extract p s.size))).2 = 0 := by have := hc4; omega
        have hrs := zbj (inK [3]) (s.extract (p + (zk (bl8 (s.extract p s.size))).2) s.size)
        rw [ByteArray.size_extract] at hrs
        refine zD rfl (ze (zf _ _ rfl rfl rfl (zb rfl (za rfl rfl (zc rfl) (za rfl rfl (zz rfl fa_28_1 rfl) (zi rfl rfl (zI (i := 0) (X' := .agg [dI (((zk (bl8 (s.extract p s.size))).1).k), dN p, .s (((zk (bl8 (s.extract p s.size))).1).t)]) rfl rfl rfl (CellD.v rfl) Tryd.sizeOf3 rfl rfl rfl) ?_))))))
        rintro _ _ ⟨rfl, rfl⟩
        refine OpsD.norm [.bx g3 28 (.agg [dI (((zk (bl8 (s.extract p s.size))).1).k), dN p, .s (((zk (bl8 (s.extract p s.size))).1).t)]), HPow, HErr ev, .sl ov 3 28 (out.map TokD.d)] rfl (zg rfl (ze (zf _ _ rfl rfl rfl (zb rfl (za rfl rfl (zc rfl) (za rfl rfl (p_load_bx (d := .agg [dI (((zk (bl8 (s.extract p s.size))).1).k), dN p, .s (((zk (bl8 (s.extract p s.size))).1).t)]) rfl (i := 0) rfl Tryd.isAgg28 Tryd.sizeOf28 rfl rfl) (zi rfl rfl (Qu.ef (d := .sh 3 ([(TokD.mk (((zk (bl8 (s.extract p s.size))).1).k) ((p : Nat) : Int) (((zk (bl8 (s.extract p s.size))).1).t))].map TokD.d)) (zat [.tmp 37] rfl rfl (.cons CellD.agg .nil) rfl Tryd.runUnderlying23 Tryd.sizeOf28 Tryd.zeroValue28 rfl rfl rfl rfl)) ?_)))))))
        rintro _ _ ⟨rfl, rfl⟩
        refine zi rfl rfl (zad (f := TokD.d) (l := out) (l' := [(TokD.mk (((zk (bl8 (s.extract p s.size))).1).k) ((p : Nat) : Int) (((zk (bl8 (s.extract p s.size))).1).t))]) (i := 3) rfl rfl rfl (SrcD.sh) und_23 infz_28 rfl rfl (by unfold maxLen; (try simp only [la, lc, ln, lm, lt', ld, ls, lr]); omega) (by (try simp only [la, lc, ln, lm, lt', ld, ls, lr]); omega)) ?_
        rintro _ _ ⟨v5, rfl, rfl⟩
        refine OpsD.norm [.bx g3 28 (.agg [dI (((zk (bl8 (s.extract p s.size))).1).k), dN p, .s (((zk (bl8 (s.extract p s.size))).1).t)]), HPow, HErr ev, .sl v5 3 28 ((out ++ [(TokD.mk (((zk (bl8 (s.extract p s.size))).1).k) ((p : Nat) : Int) (((zk (bl8 (s.extract p s.size))).1).t))]).map TokD.d)] rfl (za rfl rfl (zd rfl) (zg rfl (ze (zb rfl (za rfl rfl (zc rfl) (za rfl rfl (zc rfl) (za rfl rfl (zbd (c := ((p + ((zk (bl8 (s.extract p s.size))).2) : Nat) : Int)) rfl rfl (zas (by omega) (by omega))) (za rfl rfl (zd rfl) (zg rfl (zG (ze (zb rfl (za rfl rfl (zc rfl) (za rfl rfl (zc rfl) (za rfl rfl (zc rfl) (za rfl rfl (z1 (a := p + ((zk (bl8 (s.extract p s.size))).2)) (c := s.size) rfl rfl rfl (by first | rfl | (show _ = _; omega)) (by first | rfl | (show _ = _; omega)) Tryd.runUnderlying9 (by omega) (by omega)) (zi rfl rfl (Qu.ef (d := .sh 1 ([3].map dI)) (zat [.const (.int .i64 3)] rfl rfl (.cons (CellD.v rfl) .nil) rfl Tryd.runUnderlying45 Tryd.sizeOf3 Tryd.zeroValue3 rfl rfl rfl rfl)) ?_)))))))))))))))))
        rintro _ _ ⟨rfl, rfl⟩
        refine zi rfl rfl (zr [] _ [] rfl rfl (.cons ArgC.id (.cons ArgC.id .nil)) zm Tryd.call13 (zc1 (s.extract (p + ((zk (bl8 (s.extract p s.size))).2)) s.size) [3]) (.inl rfl)) ?_
        rintro _ _ ⟨_, ⟨rfl, rfl⟩, rfl⟩
        refine OpsD.norm [.bx g3 28 (.agg [dI (((zk (bl8 (s.extract p s.size))).1).k), dN p, .s (((zk (bl8 (s.extract p s.size))).1).t)]), HPow, HErr ev, .sl v5 3 28 ((out ++ [(TokD.mk (((zk (bl8 (s.extract p s.size))).1).k) ((p : Nat) : Int) (((zk (bl8 (s.extract p s.size))).1).t))]).map TokD.d)] rfl (za rfl rfl (zbd (c := (((p + ((zk (bl8 (s.extract p s.size))).2)) + (runL (inK [3]) (bl8 (s.extract (p + ((zk (bl8 (s.extract p s.size))).2)) s.size))) : Nat) : Int)) rfl rfl (zas (by omega) (by omega))) (za rfl rfl (zd rfl) (zg rfl (PD.subH (HSub.perm (zl (i := 2) rfl)) (PD.norm [HErr ev, .bx g3 28 (.agg [dI (((zk (bl8 (s.extract p s.size))).1).k), dN p, .s (((zk (bl8 (s.extract p s.size))).1).t)]), HPow, .sl v5 3 28 ((out ++ [(TokD.mk (((zk (bl8 (s.extract p s.size))).1).k) ((p : Nat) : Int) (((zk (bl8 (s.extract p s.size))).1).t))]).map TokD.d)] rfl (PD.subH (HSub.perm (zl (i := 2) rfl)) (PD.norm [HPow, HErr ev, .bx g3 28 (.agg [dI (((zk (bl8 (s.extract p s.size))).1).k), dN p, .s (((zk (bl8 (s.extract p s.size))).1).t)]), .sl v5 3 28 ((out ++ [(TokD.mk (((zk (bl8 (s.extract p s.size))).1).k) ((p : Nat) : Int) (((zk (bl8 (s.extract p s.size))).1).t))]).map TokD.d)] rfl ?_)))))))
        refine PD.subH (HSub.perm (zl (i := 3) rfl)) (PD.norm [.sl v5 3 28 ((out ++ [(TokD.mk (((zk (bl8 (s.extract p s.size))).1).k) ((p : Nat) : Int) (((zk (bl8 (s.extract p s.size))).1).t))]).map TokD.d), HPow, HErr ev, .bx g3 28 (.agg [dI (((zk (bl8 (s.extract p s.size))).1).k), dN p, .s (((zk (bl8 (s.extract p s.size))).1).t)])] rfl ?_)
        exact zai ((p + ((zk (bl8 (s.extract p s.size))).2)) + (runL (inK [3]) (bl8 (s.extract (p + ((zk (bl8 (s.extract p s.size))).2)) s.size))), v5, (out ++ [(TokD.mk (((zk (bl8 (s.extract p s.size))).1).k) ((p : Nat) : Int) (((zk (bl8 (s.extract p s.size))).1).t))])) ⟨sk rfl, sk rfl, sk rfl, trivial⟩ (HSub.fst 3 rfl) ⟨hw.next hlt hn0, by omega, by (try simp only [la, List.length_singleton]); omega⟩ (by omega)
    · replace hc2 := of_decide_eq_false hc2
      have hge : s.size ≤ p := by have := hc2; omega
      refine zaQ rfl (zaa (z7 (zO (ze (zf _ _ rfl rfl rfl (zb rfl (za rfl rfl (zc rfl) (za rfl rfl (zd rfl) (za rfl rfl (zd rfl) (zg rfl (ze (zx rfl (PD.norm [.sl ov 3 28 ((lexL s).map TokD.d), HPow, HErr ev] (by have hw9 : (out : List TokD) = lexL s := (lex_ok hshort (hw.done hge)).1; rw [← hw9]) ?_)))))))))))))
      exact zp Tryd.results8 (.cons (zq rfl) (.cons (zB (zq rfl) (Cv.eq (congrArg dI (show (0 : Int) = lexE s from (lex_ok hshort (hw.done hge)).2)))) .nil)) rfl (HSub.fst 3 rfl) ⟨ov, rfl, rfl⟩
end Lp
/-
  The words of one short text.
-/
set_option linter.unusedVariables false
namespace Lp
open Go
def alTxt : ByteArray := ⟨#[97, 32, 62, 61, 32, 53, 109]⟩
def zaC : List TokD := [⟨1, 0, ⟨#[97]⟩⟩, ⟨5, 2, ⟨#[62, 61]⟩⟩, ⟨4, 5, ⟨#[51, 48, 48]⟩⟩]
theorem al_name : zcc (mkB [97]) = true := by
  unfold zcc zaj
  rw [zaO (s := mkB [97]) (p := 0) (by decide), zba (by decide)]; decide
theorem al_dig : digL 300 = [51, 48, 48] := by
  unfold digL; rw [dif_neg (by decide)]; unfold digL; rw [dif_neg (by decide)]; unfold digL; rw [dif_pos (by decide)]; rfl
theorem firstT_w {l : List UInt8} (h : zE ((decL l).1 : Int) = 1) : zk l = zaS l := by unfold zk; rw [if_pos h]
theorem firstT_n {l : List UInt8} (h : zE ((decL l).1 : Int) = 2) : zk l = numT l := by unfold zk; rw [if_neg (by omega), if_pos h]
theorem firstT_q {l : List UInt8} (h : ¬ zE ((decL l).1 : Int) = 1) (h2 : ¬ zE ((decL l).1 : Int) = 2) (h3 : (decL l).1 = 34) : zk l = strT l := by unfold zk; rw [if_neg h, if_neg h2, if_pos h3]
theorem firstT_s {l : List UInt8} (h : ¬ zE ((decL l).1 : Int) = 1) (h2 : ¬ zE ((decL l).1 : Int) = 2) (h3 : ¬ (decL l).1 = 34) : zk l = za4 l := by unfold zk; rw [if_neg h, if_neg h2, if_neg h3]
theorem al_1 : zk [97, 32, 62, 61, 32, 53, 109] = (⟨1, 0, ⟨#[97]⟩⟩, 1) := by
  rw [firstT_w (by decide)]
  have hr : runL isLD [97, 32, 62, 61, 32, 53, 109] = 1 := by
    rw [zaV (by decide) (by decide)]
    show 1 + runL isLD [32, 62, 61, 32, 53, 109] = 1
    rw [zbk (by decide)]
  unfold zaS; rw [hr]
  show (if zcc (mkB [97]) = true then _ else _) = _
  rw [if_pos al_name]; rfl
theorem al_2 : zk [62, 61, 32, 53, 109] = (⟨5, 0, ⟨#[62, 61]⟩⟩, 2) := by
  rw [firstT_s (by decide) (by decide) (by decide)]; decide
theorem al_3 : zk [53, 109] = (⟨4, 0, ⟨#[51, 48, 48]⟩⟩, 2) := by
  rw [firstT_n (by decide)]
  have h1 : runL isD [53, 109] = 1 := by
    rw [zaV (by decide) (by decide)]
    show 1 + runL isD [109] = 1
    rw [zbk (by decide)]
  have h2 : runL isLD [53, 109] = 2 := by
    rw [zaV (by decide) (by decide)]
    show 1 + runL isLD [109] = 2
    rw [zaV (by decide) (by decide)]
    show 1 + (1 + runL isLD []) = 2
    rw [za5]
  unfold numT; rw [h1, h2]
  rw [if_neg (by decide), if_neg (by decide), if_neg (by decide)]
  show ((⟨4, 0, digB 300⟩, 2) : TokD × Nat) = _
  unfold digB; rw [al_dig]; rfl
theorem al_words : zK [97, 32, 62, 61, 32, 53, 109] 0 = some zaC := by
  have b1 : runL isB [97, 32, 62, 61, 32, 53, 109] = 0 := zbk (by decide)
  have b2 : runL isB [32, 62, 61, 32, 53, 109] = 1 := by
    rw [zaV (by decide) (by decide)]
    show 1 + runL isB [62, 61, 32, 53, 109] = 1
    rw [zbk (by decide)]
  have b3 : runL isB [32, 53, 109] = 1 := by
    rw [zaV (by decide) (by decide)]
    show 1 + runL isB [53, 109] = 1
    rw [zbk (by decide)]
  unfold zK; rw [b1]
  show zau 7 [97, 32, 62, 61, 32, 53, 109] 0 = _
  rw [zam (by decide) (by rw [al_1]; decide) (by decide), al_1]
  show (zK [32, 62, 61, 32, 53, 109] 1).map _ = _
  unfold zK; rw [b2]
  show (zau 6 [62, 61, 32, 53, 109] 2).map _ = _
  rw [zam (by decide) (by rw [al_2]; decide) (by decide), al_2]
  show ((zK [32, 53, 109] 4).map _).map _ = _
  unfold zK; rw [b3]
  show ((zau 3 [53, 109] 5).map _).map _ = _
  rw [zam (by decide) (by rw [al_3]; decide) (by decide), al_3]
  show (((zK [] 7).map _).map _).map _ = _
  have h0 : zK [] 7 = some [] := by unfold zK; rw [za5]; exact zak
  rw [h0]; rfl
theorem al_lex : lexL alTxt = zaC ∧ lexE alTxt = 0 := by
  have h : bl8 alTxt = [97, 32, 62, 61, 32, 53, 109] := rfl
  have hs : ¬ 600 < alTxt.size := by decide
  unfold lexL lexE; rw [if_neg hs, if_neg hs, h, al_words]; exact ⟨rfl, rfl⟩
end Lp
/- Walks, printed by a program of mine. -/
set_option linter.unusedSimpArgs false
set_option linter.unusedVariables false
namespace Lp
open Go Go.RowKit Go.Proofs

namespace HdYtoanlikkhjohpaaDoorV41
theorem za8 : ∀ w, ((#[⟨"Kind", 3, 0, false, "", "", 0⟩, ⟨"At", 3, 1, false, "", "", 8⟩, ⟨"Text", 9, 2, false, "", "", 16⟩] : Array Field).mapM fun f => do pure (f.offset, ← Go.sizeOf f.type) : Sem (Array (Nat × Nat))).run Tryd.prog w = .ok ([(0, 1), (1, 1), (2, 1)] : List (Nat × Nat)).toArray w := fun _ => by kernel_rfl
theorem zbo (b o : Nat) : ∀ w, (Instr.fieldAt 28 (.pointer (some ⟨b, o, none⟩)) 2).run Tryd.prog w = .ok (.pointer (some ⟨b, o + 2, none⟩)) w := fun _ => by kernel_rfl
end HdYtoanlikkhjohpaaDoorV41
open HdYtoanlikkhjohpaaDoorV41

theorem p_eqtok_eql {ty t' : TypeId} {K : Kd} {H : List Hp} {x y : Operand} {dx dy : D} {a b : TokD} {q : Bool} (hx : opD K x = some dx) (cx : Cv dx (TokD.d a)) (hy : opD K y = some dy) (cy : Cv dy (TokD.d b)) (hq : decide (a = b) = q) : Pu Tryd.prog (.binOp .eql 28 x y t') ty K H (dB q) :=
  ⟨fun ρ w F hk _ _ => by
    obtain ⟨vs, e, u1, r1, rfl, _, rfl, u2, r2, rfl, _, rfl, u3, r3, rfl, _, ⟨rfl, _⟩, rfl⟩ := cx.out _ _ _ (hk.op hx)
    obtain ⟨vs', e', u4, r4, rfl, _, rfl, u5, r5, rfl, _, rfl, u6, r6, rfl, _, ⟨rfl, _⟩, rfl⟩ := cy.out _ _ _ (hk.op hy)
    refine zbR (r := .bool q) (zy ρ [x, y]) (za3 ρ e) (za2 ρ e') (fun w => ?_) ⟨rfl, rfl⟩
    subst hq
    obtain ⟨a1, a2, a3⟩ := a
    obtain ⟨b1, b2, b3⟩ := b
    simp [go_sem, toList_beq]
    by_cases h1 : a1 = b1 <;> by_cases h2 : a2 = b2 <;> by_cases h3 : a3 = b3 <;> simp [h1, h2, h3]⟩

theorem Words_al (ev : Value) (hev : EvOk ev) : CD Tryd.prog 8 [HPow, HErr ev] [.v (.string (⟨#[97, 32, 62, 61, 32, 53, 109]⟩ : ByteArray))] (fun r H' => ∃ v, r = .tup [.ov v, dI 0] ∧ H' = [.sl v 3 28 (zaC.map TokD.d), HPow, HErr ev]) := by
  have h := Words_c (⟨#[97, 32, 62, 61, 32, 53, 109]⟩ : ByteArray) ev hev
  rw [show lexE (⟨#[97, 32, 62, 61, 32, 53, 109]⟩ : ByteArray) = 0 from al_lex.2, show lexL (⟨#[97, 32, 62, 61, 32, 53, 109]⟩ : ByteArray) = zaC from al_lex.1] at h
  exact ⟨fun w F vs hvs hF hH => h.out w F vs (by obtain ⟨u, us, e, hu, hus⟩ := hvs; exact ⟨u, us, e, ⟨hu, by decide⟩, hus⟩) hF hH⟩

set_option maxHeartbeats 4000000 in
set_option maxRecDepth 100000 in
theorem alive7_c (ev : Value) (hev : EvOk ev) :
    CD Tryd.prog 7 [HPow, HErr ev] [] (fun r H' => r = dB true ∧ H' = [HPow, HErr ev]) := by
  refine zC Tryd.func7 rfl (N := 35) rfl rfl (fun C => ?_)
  refine JD.keep [] [] rfl ?_
  have hlen : zaC.length = 3 := rfl
  obtain ⟨y1, hy1, ey1⟩ : ∃ y, zaC[1]? = some y ∧ y = TokD.mk 5 2 ⟨#[62, 61]⟩ := ⟨_, rfl, rfl⟩
  obtain ⟨y2, hy2, ey2⟩ : ∃ y, zaC[2]? = some y ∧ y = TokD.mk 4 5 ⟨#[51, 48, 48]⟩ := ⟨_, rfl, rfl⟩
  refine zf _ _ rfl rfl rfl (zb rfl (za rfl rfl (zd rfl) (zg rfl (ze (zf _ _ rfl rfl rfl (zb rfl (zi rfl rfl (zr [HPow, HErr ev] [] [] rfl rfl (.cons ArgC.id .nil) zm Tryd.call8 (Words_al ev hev) (.inl rfl)) ?_)))))))
  rintro _ _ ⟨_, ⟨wv1, rfl, rfl⟩, rfl⟩
  refine OpsD.norm [.sl wv1 3 28 (zaC.map TokD.d), HPow, HErr ev] rfl (za rfl rfl (zc rfl) (za rfl rfl (zA rfl rfl) (za rfl rfl (zA rfl rfl) (za rfl rfl (zd rfl) (za rfl rfl (zd rfl) (zg rfl (ze (zf _ _ rfl rfl rfl (JD.keep [1, 2] [(1, .ov wv1), (2, dI 0)] rfl ?_)))))))))
  refine zaF 0 ((((((decide ((0 : Int) = (0 : Int)) && decide (((zaC.length : Nat) : Int) = (3 : Int))) && decide (y1 = (TokD.mk 5 2 (⟨#[62, 61]⟩ : ByteArray)))) && decide (y2.t = (⟨#[51, 48, 48]⟩ : ByteArray))) && hasN z8 (⟨#[61, 126]⟩ : ByteArray)) && !(hasN z8 (⟨#[126]⟩ : ByteArray)))) [.sl wv1 3 28 (zaC.map TokD.d), HPow, HErr ev] (fun _ hQ2 => ?_) ?_
  · skip
    by_cases hg3 : (0 : Int) = (0 : Int)
    · skip
      by_cases hg4 : ((zaC.length : Nat) : Int) = (3 : Int)
      · skip
        by_cases hg5 : y1 = (TokD.mk 5 2 (⟨#[62, 61]⟩ : ByteArray))
        · skip
          by_cases hg6 : y2.t = (⟨#[51, 48, 48]⟩ : ByteArray)
          · skip
            rcases Bool.eq_false_or_eq_true (hasN z8 (⟨#[61, 126]⟩ : ByteArray)) with hg7 | hg7
            · skip
              refine zb rfl (za rfl rfl (zc rfl) (za rfl rfl (zR rfl rfl (decide_eq_true hg3)) (za rfl rfl (zc rfl) (zh rfl rfl rfl rfl rfl (zc rfl) (zh rfl rfl rfl rfl rfl (zap (n := zaC.length) (j := 0) rfl rfl Tryd.runUnderlying23 (List.length_map _)) (zh rfl rfl rfl rfl rfl (zR rfl rfl (decide_eq_true hg4)) (za rfl rfl (zt rfl rfl) (za rfl rfl (zc rfl) (zh rfl rfl rfl rfl rfl (zc rfl) (zh rfl rfl rfl rfl rfl (zN (k := 1) (j := 0) rfl rfl rfl Tryd.runUnderlying23 Tryd.sizeOf28 (by first | rfl | omega) (zM hy1)) (zh rfl rfl rfl rfl rfl (zb1 (d := TokD.d y1) rfl (i := 0) rfl (zM hy1) Tryd.isAgg28 Tryd.sizeOf28 rfl rfl) (zh rfl rfl rfl rfl rfl (zaJ [0, 1, 2] [.const (.int .i64 5), .const (.int .i64 2), .const (.string (⟨#[62, 61]⟩ : ByteArray))] (zv := (.agg #[(.int .i64 0), (.int .i64 0), (.string ByteArray.empty)])) rfl rfl (.cons (CellD.v rfl) (.cons (CellD.v rfl) (.cons (CellD.v rfl) .nil))) (Tryd.runUnderlying28) Tryd.zeroValue28 za8 ⟨rfl, rfl, rfl, trivial⟩ rfl) ?_))))))))))))
              refine zh rfl rfl rfl rfl rfl (p_eqtok_eql (dx := TokD.d y1) (dy := .agg [dI 5, dI 2, .v (.string (⟨#[62, 61]⟩ : ByteArray))]) (a := y1) (b := (TokD.mk 5 2 (⟨#[62, 61]⟩ : ByteArray))) rfl (Cv.rfl') rfl (Cv.agg (.cons Cv.rfl' (.cons Cv.rfl' (.cons ((Cv.str (by first | decide | (unfold maxLen; omega)))) .nil)))) (decide_eq_true hg5)) (za rfl rfl (zt rfl rfl) (za rfl rfl (zc rfl) (zh rfl rfl rfl rfl rfl (zc rfl) (zh rfl rfl rfl rfl rfl (zN (k := 2) (j := 0) rfl rfl rfl Tryd.runUnderlying23 Tryd.sizeOf28 (by first | rfl | omega) (zM hy2)) (zh rfl rfl rfl rfl rfl (zz rfl zbo rfl) (zh rfl rfl rfl rfl rfl (zaP rfl (i := 0) rfl (zM hy2) Tryd.isAgg9 rfl) (zh rfl rfl rfl rfl rfl (zcm rfl rfl (decide_eq_true hg6)) (za rfl rfl (zt rfl rfl) (za rfl rfl (zc rfl) (zcJ rfl rfl rfl rfl rfl (zr [] _ [] rfl rfl (.cons (ArgC.cv (Cv.str (by first | decide | (unfold maxLen; omega)))) .nil) zm Tryd.call12 (Sign_c (⟨#[61, 126]⟩ : ByteArray)) (.inl rfl)) ?_))))))))))
              rintro _ _ ⟨_, ⟨rfl, rfl⟩, rfl⟩
              refine OpsD.norm [.sl wv1 3 28 (zaC.map TokD.d), HPow, HErr ev] rfl (OpsD.sub ((29, dB true) :: [(1, .ov wv1), (2, dI 0), (7, dI 0), (8, dB true), (9, dB true), (10, .ov wv1), (11, dN zaC.length), (12, dB true), (13, dB true), (14, dB true), (15, .ov wv1), (16, .v (.pointer (some ⟨bl wv1, 1 * 3 + 0, none⟩))), (17, TokD.d y1), (18, .agg [dI 5, dI 2, .v (.string (⟨#[62, 61]⟩ : ByteArray))]), (19, dB true), (20, dB true), (21, dB true), (22, .ov wv1), (23, .v (.pointer (some ⟨bl wv1, 2 * 3 + 0, none⟩))), (24, .v (.pointer (some ⟨bl wv1, 2 * 3 + 2, none⟩))), (25, .s y2.t), (26, dB true), (27, dB true), (28, dB true)]) ⟨se rfl (congrArg (fun b => D.v (.bool b)) hg7), sk rfl, sk rfl, sk rfl, sk rfl, sk rfl, sk rfl, sk rfl, sk rfl, sk rfl, sk rfl, sk rfl, sk rfl, sk rfl, sk rfl, sk rfl, sk rfl, sk rfl, sk rfl, sk rfl, sk rfl, sk rfl, sk rfl, sk rfl, sk rfl, trivial⟩ (za rfl rfl (zt rfl rfl) (za rfl rfl (zc rfl) (zcJ rfl rfl rfl rfl rfl (zr [] _ [] rfl rfl (.cons (ArgC.cv (Cv.str (by first | decide | (unfold maxLen; omega)))) .nil) zm Tryd.call12 (Sign_c (⟨#[126]⟩ : ByteArray)) (.inl rfl)) ?_))))
              rintro _ _ ⟨_, ⟨rfl, rfl⟩, rfl⟩
              refine OpsD.norm [.sl wv1 3 28 (zaC.map TokD.d), HPow, HErr ev] rfl (zh rfl rfl rfl rfl rfl (zc0 rfl) (za rfl rfl (zt rfl rfl) (za rfl rfl (zd rfl) (zg rfl ?_))))
              exact PD.sub ((0, dB (((((decide ((0 : Int) = (0 : Int)) && decide (((zaC.length : Nat) : Int) = (3 : Int))) && decide (y1 = (TokD.mk 5 2 (⟨#[62, 61]⟩ : ByteArray)))) && decide (y2.t = (⟨#[51, 48, 48]⟩ : ByteArray))) && hasN z8 (⟨#[61, 126]⟩ : ByteArray)) && !(hasN z8 (⟨#[126]⟩ : ByteArray)))) :: [(1, .ov wv1), (2, dI 0)]) ⟨sc rfl (Cv.eq (congrArg (fun b => D.v (.bool b)) (by first | (simp [hg3, hg4, hg5, hg6, hg7]; done) | (simp_all; done)))), sk rfl, sk rfl, trivial⟩ hQ2
            · skip
              refine zb rfl (za rfl rfl (zc rfl) (za rfl rfl (zR rfl rfl (decide_eq_true hg3)) (za rfl rfl (zc rfl) (zh rfl rfl rfl rfl rfl (zc rfl) (zh rfl rfl rfl rfl rfl (zap (n := zaC.length) (j := 0) rfl rfl Tryd.runUnderlying23 (List.length_map _)) (zh rfl rfl rfl rfl rfl (zR rfl rfl (decide_eq_true hg4)) (za rfl rfl (zt rfl rfl) (za rfl rfl (zc rfl) (zh rfl rfl rfl rfl rfl (zc rfl) (zh rfl rfl rfl rfl rfl (zN (k := 1) (j := 0) rfl rfl rfl Tryd.runUnderlying23 Tryd.sizeOf28 (by first | rfl | omega) (zM hy1)) (zh rfl rfl rfl rfl rfl (zb1 (d := TokD.d y1) rfl (i := 0) rfl (zM hy1) Tryd.isAgg28 Tryd.sizeOf28 rfl rfl) (zh rfl rfl rfl rfl rfl (zaJ [0, 1, 2] [.const (.int .i64 5), .const (.int .i64 2), .const (.string (⟨#[62, 61]⟩ : ByteArray))] (zv := (.agg #[(.int .i64 0), (.int .i64 0), (.string ByteArray.empty)])) rfl rfl (.cons (CellD.v rfl) (.cons (CellD.v rfl) (.cons (CellD.v rfl) .nil))) (Tryd.runUnderlying28) Tryd.zeroValue28 za8 ⟨rfl, rfl, rfl, trivial⟩ rfl) ?_))))))))))))
              refine zh rfl rfl rfl rfl rfl (p_eqtok_eql (dx := TokD.d y1) (dy := .agg [dI 5, dI 2, .v (.string (⟨#[62, 61]⟩ : ByteArray))]) (a := y1) (b := (TokD.mk 5 2 (⟨#[62, 61]⟩ : ByteArray))) rfl (Cv.rfl') rfl (Cv.agg (.cons Cv.rfl' (.cons Cv.rfl' (.cons ((Cv.str (by first | decide | (unfold maxLen; omega)))) .nil)))) (decide_eq_true hg5)) (za rfl rfl (zt rfl rfl) (za rfl rfl (zc rfl) (zh rfl rfl rfl rfl rfl (zc rfl) (zh rfl rfl rfl rfl rfl (zN (k := 2) (j := 0) rfl rfl rfl Tryd.runUnderlying23 Tryd.sizeOf28 (by first | rfl | omega) (zM hy2)) (zh rfl rfl rfl rfl rfl (zz rfl zbo rfl) (zh rfl rfl rfl rfl rfl (zaP rfl (i := 0) rfl (zM hy2) Tryd.isAgg9 rfl) (zh rfl rfl rfl rfl rfl (zcm rfl rfl (decide_eq_true hg6)) (za rfl rfl (zt rfl rfl) (za rfl rfl (zc rfl) (zcJ rfl rfl rfl rfl rfl (zr [] _ [] rfl rfl (.cons (ArgC.cv (Cv.str (by first | decide | (unfold maxLen; omega)))) .nil) zm Tryd.call12 (Sign_c (⟨#[61, 126]⟩ : ByteArray)) (.inl rfl)) ?_))))))))))
              rintro _ _ ⟨_, ⟨rfl, rfl⟩, rfl⟩
              refine OpsD.norm [.sl wv1 3 28 (zaC.map TokD.d), HPow, HErr ev] rfl (OpsD.sub ((29, dB false) :: [(1, .ov wv1), (2, dI 0), (7, dI 0), (8, dB true), (9, dB true), (10, .ov wv1), (11, dN zaC.length), (12, dB true), (13, dB true), (14, dB true), (15, .ov wv1), (16, .v (.pointer (some ⟨bl wv1, 1 * 3 + 0, none⟩))), (17, TokD.d y1), (18, .agg [dI 5, dI 2, .v (.string (⟨#[62, 61]⟩ : ByteArray))]), (19, dB true), (20, dB true), (21, dB true), (22, .ov wv1), (23, .v (.pointer (some ⟨bl wv1, 2 * 3 + 0, none⟩))), (24, .v (.pointer (some ⟨bl wv1, 2 * 3 + 2, none⟩))), (25, .s y2.t), (26, dB true), (27, dB true), (28, dB true)]) ⟨se rfl (congrArg (fun b => D.v (.bool b)) hg7), sk rfl, sk rfl, sk rfl, sk rfl, sk rfl, sk rfl, sk rfl, sk rfl, sk rfl, sk rfl, sk rfl, sk rfl, sk rfl, sk rfl, sk rfl, sk rfl, sk rfl, sk rfl, sk rfl, sk rfl, sk rfl, sk rfl, sk rfl, sk rfl, trivial⟩ (za rfl rfl (zt rfl rfl) (za rfl rfl (zc rfl) (zj rfl rfl rfl rfl rfl (by decide) (zj rfl rfl rfl rfl rfl (by decide) (za rfl rfl (zo rfl rfl) (za rfl rfl (zd rfl) (zg rfl ?_))))))))
              exact PD.sub ((0, dB (((((decide ((0 : Int) = (0 : Int)) && decide (((zaC.length : Nat) : Int) = (3 : Int))) && decide (y1 = (TokD.mk 5 2 (⟨#[62, 61]⟩ : ByteArray)))) && decide (y2.t = (⟨#[51, 48, 48]⟩ : ByteArray))) && hasN z8 (⟨#[61, 126]⟩ : ByteArray)) && !(hasN z8 (⟨#[126]⟩ : ByteArray)))) :: [(1, .ov wv1), (2, dI 0)]) ⟨sc rfl (Cv.eq (congrArg (fun b => D.v (.bool b)) (by first | (simp [hg3, hg4, hg5, hg6, hg7]; done) | (simp_all; done)))), sk rfl, sk rfl, trivial⟩ hQ2
          · skip
            refine zb rfl (za rfl rfl (zc rfl) (za rfl rfl (zR rfl rfl (decide_eq_true hg3)) (za rfl rfl (zc rfl) (zh rfl rfl rfl rfl rfl (zc rfl) (zh rfl rfl rfl rfl rfl (zap (n := zaC.length) (j := 0) rfl rfl Tryd.runUnderlying23 (List.length_map _)) (zh rfl rfl rfl rfl rfl (zR rfl rfl (decide_eq_true hg4)) (za rfl rfl (zt rfl rfl) (za rfl rfl (zc rfl) (zh rfl rfl rfl rfl rfl (zc rfl) (zh rfl rfl rfl rfl rfl (zN (k := 1) (j := 0) rfl rfl rfl Tryd.runUnderlying23 Tryd.sizeOf28 (by first | rfl | omega) (zM hy1)) (zh rfl rfl rfl rfl rfl (zb1 (d := TokD.d y1) rfl (i := 0) rfl (zM hy1) Tryd.isAgg28 Tryd.sizeOf28 rfl rfl) (zh rfl rfl rfl rfl rfl (zaJ [0, 1, 2] [.const (.int .i64 5), .const (.int .i64 2), .const (.string (⟨#[62, 61]⟩ : ByteArray))] (zv := (.agg #[(.int .i64 0), (.int .i64 0), (.string ByteArray.empty)])) rfl rfl (.cons (CellD.v rfl) (.cons (CellD.v rfl) (.cons (CellD.v rfl) .nil))) (Tryd.runUnderlying28) Tryd.zeroValue28 za8 ⟨rfl, rfl, rfl, trivial⟩ rfl) ?_))))))))))))
            refine zh rfl rfl rfl rfl rfl (p_eqtok_eql (dx := TokD.d y1) (dy := .agg [dI 5, dI 2, .v (.string (⟨#[62, 61]⟩ : ByteArray))]) (a := y1) (b := (TokD.mk 5 2 (⟨#[62, 61]⟩ : ByteArray))) rfl (Cv.rfl') rfl (Cv.agg (.cons Cv.rfl' (.cons Cv.rfl' (.cons ((Cv.str (by first | decide | (unfold maxLen; omega)))) .nil)))) (decide_eq_true hg5)) (za rfl rfl (zt rfl rfl) (za rfl rfl (zc rfl) (zh rfl rfl rfl rfl rfl (zc rfl) (zh rfl rfl rfl rfl rfl (zN (k := 2) (j := 0) rfl rfl rfl Tryd.runUnderlying23 Tryd.sizeOf28 (by first | rfl | omega) (zM hy2)) (zh rfl rfl rfl rfl rfl (zz rfl zbo rfl) (zh rfl rfl rfl rfl rfl (zaP rfl (i := 0) rfl (zM hy2) Tryd.isAgg9 rfl) (zh rfl rfl rfl rfl rfl (zcm rfl rfl (decide_eq_false hg6)) (za rfl rfl (zt rfl rfl) (za rfl rfl (zc rfl) (zj rfl rfl rfl rfl rfl (by decide) (za rfl rfl (zo rfl rfl) (za rfl rfl (zc rfl) (zj rfl rfl rfl rfl rfl (by decide) (zj rfl rfl rfl rfl rfl (by decide) (za rfl rfl (zo rfl rfl) (za rfl rfl (zd rfl) (zg rfl ?_)))))))))))))))))
            exact PD.sub ((0, dB (((((decide ((0 : Int) = (0 : Int)) && decide (((zaC.length : Nat) : Int) = (3 : Int))) && decide (y1 = (TokD.mk 5 2 (⟨#[62, 61]⟩ : ByteArray)))) && decide (y2.t = (⟨#[51, 48, 48]⟩ : ByteArray))) && hasN z8 (⟨#[61, 126]⟩ : ByteArray)) && !(hasN z8 (⟨#[126]⟩ : ByteArray)))) :: [(1, .ov wv1), (2, dI 0)]) ⟨sc rfl (Cv.eq (congrArg (fun b => D.v (.bool b)) (by first | (simp [hg3, hg4, hg5, hg6]; done) | (simp_all; done)))), sk rfl, sk rfl, trivial⟩ hQ2
        · skip
          refine zb rfl (za rfl rfl (zc rfl) (za rfl rfl (zR rfl rfl (decide_eq_true hg3)) (za rfl rfl (zc rfl) (zh rfl rfl rfl rfl rfl (zc rfl) (zh rfl rfl rfl rfl rfl (zap (n := zaC.length) (j := 0) rfl rfl Tryd.runUnderlying23 (List.length_map _)) (zh rfl rfl rfl rfl rfl (zR rfl rfl (decide_eq_true hg4)) (za rfl rfl (zt rfl rfl) (za rfl rfl (zc rfl) (zh rfl rfl rfl rfl rfl (zc rfl) (zh rfl rfl rfl rfl rfl (zN (k := 1) (j := 0) rfl rfl rfl Tryd.runUnderlying23 Tryd.sizeOf28 (by first | rfl | omega) (zM hy1)) (zh rfl rfl rfl rfl rfl (zb1 (d := TokD.d y1) rfl (i := 0) rfl (zM hy1) Tryd.isAgg28 Tryd.sizeOf28 rfl rfl) (zh rfl rfl rfl rfl rfl (zaJ [0, 1, 2] [.const (.int .i64 5), .const (.int .i64 2), .const (.string (⟨#[62, 61]⟩ : ByteArray))] (zv := (.agg #[(.int .i64 0), (.int .i64 0), (.string ByteArray.empty)])) rfl rfl (.cons (CellD.v rfl) (.cons (CellD.v rfl) (.cons (CellD.v rfl) .nil))) (Tryd.runUnderlying28) Tryd.zeroValue28 za8 ⟨rfl, rfl, rfl, trivial⟩ rfl) ?_))))))))))))
          refine zh rfl rfl rfl rfl rfl (p_eqtok_eql (dx := TokD.d y1) (dy := .agg [dI 5, dI 2, .v (.string (⟨#[62, 61]⟩ : ByteArray))]) (a := y1) (b := (TokD.mk 5 2 (⟨#[62, 61]⟩ : ByteArray))) rfl (Cv.rfl') rfl (Cv.agg (.cons Cv.rfl' (.cons Cv.rfl' (.cons ((Cv.str (by first | decide | (unfold maxLen; omega)))) .nil)))) (decide_eq_false hg5)) (za rfl rfl (zt rfl rfl) (za rfl rfl (zc rfl) (zj rfl rfl rfl rfl rfl (by decide) (zj rfl rfl rfl rfl rfl (by decide) (zj rfl rfl rfl rfl rfl (by decide) (zj rfl rfl rfl rfl rfl (by decide) (zj rfl rfl rfl rfl rfl (by decide) (za rfl rfl (zo rfl rfl) (za rfl rfl (zc rfl) (zj rfl rfl rfl rfl rfl (by decide) (za rfl rfl (zo rfl rfl) (za rfl rfl (zc rfl) (zj rfl rfl rfl rfl rfl (by decide) (zj rfl rfl rfl rfl rfl (by decide) (za rfl rfl (zo rfl rfl) (za rfl rfl (zd rfl) (zg rfl ?_)))))))))))))))))
          exact PD.sub ((0, dB (((((decide ((0 : Int) = (0 : Int)) && decide (((zaC.length : Nat) : Int) = (3 : Int))) && decide (y1 = (TokD.mk 5 2 (⟨#[62, 61]⟩ : ByteArray)))) && decide (y2.t = (⟨#[51, 48, 48]⟩ : ByteArray))) && hasN z8 (⟨#[61, 126]⟩ : ByteArray)) && !(hasN z8 (⟨#[126]⟩ : ByteArray)))) :: [(1, .ov wv1), (2, dI 0)]) ⟨sc rfl (Cv.eq (congrArg (fun b => D.v (.bool b)) (by first | (simp [hg3, hg4, hg5]; done) | (simp_all; done)))), sk rfl, sk rfl, trivial⟩ hQ2
      · skip
        refine zb rfl (za rfl rfl (zc rfl) (za rfl rfl (zR rfl rfl (decide_eq_true hg3)) (za rfl rfl (zc rfl) (zh rfl rfl rfl rfl rfl (zc rfl) (zh rfl rfl rfl rfl rfl (zap (n := zaC.length) (j := 0) rfl rfl Tryd.runUnderlying23 (List.length_map _)) (zh rfl rfl rfl rfl rfl (zR rfl rfl (decide_eq_false hg4)) (za rfl rfl (zt rfl rfl) (za rfl rfl (zc rfl) (zj rfl rfl rfl rfl rfl (by decide) (zj rfl rfl rfl rfl rfl (by decide) (zj rfl rfl rfl rfl rfl (by decide) (zj rfl rfl rfl rfl rfl (by decide) (zj rfl rfl rfl rfl rfl (by decide) (za rfl rfl (zo rfl rfl) (za rfl rfl (zc rfl) (zj rfl rfl rfl rfl rfl (by decide) (zj rfl rfl rfl rfl rfl (by decide) (zj rfl rfl rfl rfl rfl (by decide) (zj rfl rfl rfl rfl rfl (by decide) (zj rfl rfl rfl rfl rfl (by decide) (za rfl rfl (zo rfl rfl) (za rfl rfl (zc rfl) (zj rfl rfl rfl rfl rfl (by decide) (za rfl rfl (zo rfl rfl) (za rfl rfl (zc rfl) (zj rfl rfl rfl rfl rfl (by decide) (zj rfl rfl rfl rfl rfl (by decide) (za rfl rfl (zo rfl rfl) (za rfl rfl (zd rfl) (zg rfl ?_))))))))))))))))))))))))))))))
        exact PD.sub ((0, dB (((((decide ((0 : Int) = (0 : Int)) && decide (((zaC.length : Nat) : Int) = (3 : Int))) && decide (y1 = (TokD.mk 5 2 (⟨#[62, 61]⟩ : ByteArray)))) && decide (y2.t = (⟨#[51, 48, 48]⟩ : ByteArray))) && hasN z8 (⟨#[61, 126]⟩ : ByteArray)) && !(hasN z8 (⟨#[126]⟩ : ByteArray)))) :: [(1, .ov wv1), (2, dI 0)]) ⟨sc rfl (Cv.eq (congrArg (fun b => D.v (.bool b)) (by first | (simp [hg3, hg4]; done) | (simp_all; done)))), sk rfl, sk rfl, trivial⟩ hQ2
    · skip
      refine zb rfl (za rfl rfl (zc rfl) (za rfl rfl (zR rfl rfl (decide_eq_false hg3)) (za rfl rfl (zc rfl) (zj rfl rfl rfl rfl rfl (by decide) (zj rfl rfl rfl rfl rfl (by decide) (zj rfl rfl rfl rfl rfl (by decide) (za rfl rfl (zo rfl rfl) (za rfl rfl (zc rfl) (zj rfl rfl rfl rfl rfl (by decide) (zj rfl rfl rfl rfl rfl (by decide) (zj rfl rfl rfl rfl rfl (by decide) (zj rfl rfl rfl rfl rfl (by decide) (zj rfl rfl rfl rfl rfl (by decide) (za rfl rfl (zo rfl rfl) (za rfl rfl (zc rfl) (zj rfl rfl rfl rfl rfl (by decide) (zj rfl rfl rfl rfl rfl (by decide) (zj rfl rfl rfl rfl rfl (by decide) (zj rfl rfl rfl rfl rfl (by decide) (zj rfl rfl rfl rfl rfl (by decide) (za rfl rfl (zo rfl rfl) (za rfl rfl (zc rfl) (zj rfl rfl rfl rfl rfl (by decide) (za rfl rfl (zo rfl rfl) (za rfl rfl (zc rfl) (zj rfl rfl rfl rfl rfl (by decide) (zj rfl rfl rfl rfl rfl (by decide) (za rfl rfl (zo rfl rfl) (za rfl rfl (zd rfl) (zg rfl ?_))))))))))))))))))))))))))))))
      exact PD.sub ((0, dB (((((decide ((0 : Int) = (0 : Int)) && decide (((zaC.length : Nat) : Int) = (3 : Int))) && decide (y1 = (TokD.mk 5 2 (⟨#[62, 61]⟩ : ByteArray)))) && decide (y2.t = (⟨#[51, 48, 48]⟩ : ByteArray))) && hasN z8 (⟨#[61, 126]⟩ : ByteArray)) && !(hasN z8 (⟨#[126]⟩ : ByteArray)))) :: [(1, .ov wv1), (2, dI 0)]) ⟨sc rfl (Cv.eq (congrArg (fun b => D.v (.bool b)) (by first | (simp [hg3]; done) | (simp_all; done)))), sk rfl, sk rfl, trivial⟩ hQ2
  · skip
    refine ze (zx rfl (PD.subH (HSub.perm (zl (i := 2) rfl)) (PD.norm [HErr ev, .sl wv1 3 28 (zaC.map TokD.d), HPow] rfl (PD.subH (HSub.perm (zl (i := 2) rfl)) (PD.norm [HPow, HErr ev, .sl wv1 3 28 (zaC.map TokD.d)] rfl ?_)))))
    exact zp Tryd.results7 (.cons (zB (zq rfl) (Cv.eq (congrArg (fun b => D.v (.bool b)) (by simp only [ey1, ey2]; decide)))) .nil) rfl (HSub.fst 2 rfl) ⟨rfl, rfl⟩
end Lp
