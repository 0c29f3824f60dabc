/- Walks, printed by a program of mine. -/
import Derived.Test.YtoanlikkhjohpaaGreatDoorV39
set_option linter.unusedSimpArgs false
set_option linter.unusedVariables false
namespace Lp
open Go Go.RowKit Go.Proofs

namespace HdYtoanlikkhjohpaaGreatDoorV40
theorem fa_45_1 (b o : Nat) : ∀ w, (Instr.fieldAt 45 (.pointer (some ⟨b, o, none⟩)) 1).run Tryz.prog w = .ok (.pointer (some ⟨b, o + 1, none⟩)) w := fun _ => by kernel_rfl
theorem infz_21 : ∃ i, Tryz.prog.info? 21 = some i ∧ i.zero = some (.int .i32 0) ∧ i.size = 1 ∧ i.bytes = 4 := zce (by kernel_rfl)
theorem zcf : ∃ i, Tryz.prog.info? 45 = some i ∧ i.zero = some (.agg #[(.int .i64 0), (.int .i64 0), (.string ByteArray.empty)]) ∧ i.size = 3 ∧ i.bytes = 32 := zce (by kernel_rfl)
theorem zcK : Tryz.prog.underlying 36 = some (.slice 45) := by kernel_rfl
theorem und_77 : Tryz.prog.underlying 77 = some (.slice 21) := by kernel_rfl
end HdYtoanlikkhjohpaaGreatDoorV40
open HdYtoanlikkhjohpaaGreatDoorV40

set_option maxHeartbeats 4000000 in
set_option maxRecDepth 100000 in
theorem Spell_c (s : ByteArray) (hs : s.size ≤ 1000000000) :
    CD Tryz.prog 62 [] [.s s] (isOwn 1 21 ((zaC s).map dR)) := by
  refine zH Tryz.func62 rfl (N := 16) rfl rfl (fun C => ?_)
  refine JD.keep [0] [(0, .s s)] rfl ?_
  refine JD.bd 0 rfl (fun bd0 => ?_)
  have sz0 : s.size ≤ 9223372036854775807 := bd0
  refine zf _ _ rfl rfl rfl (zb rfl (za rfl rfl (zd rfl) (zg rfl (ze (zf _ _ rfl rfl rfl (zb rfl (za rfl rfl (zd rfl) (zg rfl (ze (zf _ _ rfl rfl rfl (zf _ _ rfl rfl rfl (zb rfl (za rfl rfl (zc rfl) (zj rfl rfl (zbH rfl Tryz.runUnderlying9) ?_))))))))))))))
  rintro _ _ ⟨g1, rfl, rfl⟩
  refine zg rfl (ze (zB _ rfl rfl (zS (fun (g : Nat × Value × List Int) => [(2, dZ), (7, dP g1 0), (3, .ov g.2.1)]) (fun (g : Nat × Value × List Int) => [.it g1 s g.1, .sl g.2.1 1 21 (g.2.2.map dR)]) (fun (g : Nat × Value × List Int) => (g.1 ≤ s.size) ∧ (g.2.2.length ≤ g.1) ∧ (zaC s = g.2.2 ++ zbp s g.1)) (fun (g : Nat × Value × List Int) => s.size - g.1) _ (0, .slice none 0 0, []) rfl rfl ⟨sk rfl, sk rfl, sc rfl (Cv.ov rfl), trivial⟩ (HSub.trans (HSub.nil 1 21) (HSub.perm (List.Perm.swap _ _ _))) ⟨Nat.zero_le _, Nat.le_refl _, rfl⟩ ?_)))
  rintro ⟨p, ov, l⟩ ⟨hp, hn, hf⟩
  replace hp : p ≤ s.size := hp
  replace hn : l.length ≤ p := hn
  replace hf : zaC s = l ++ zbp s p := hf
  refine JD.keep [2, 7, 3] [(2, dZ), (7, dP g1 0), (3, .ov ov)] rfl (JD.norm [.it g1 s p, .sl ov 1 21 (l.map dR)] rfl ?_)
  rcases Nat.lt_or_ge p s.size with hlt | hge
  · skip
    have hrune := zaQ hlt
    have hrl := zbu s p
    have hdw := zan s p hlt
    have hdp := zY s p
    refine zf _ _ rfl rfl rfl (zb rfl (zj rfl rfl (zba (i := 0) rfl rfl hlt) ?_))
    rintro _ _ ⟨rfl, rfl⟩
    refine OpsD.norm [.it g1 s (p + decW s p), .sl ov 1 21 (l.map dR)] rfl (za rfl rfl (zJ rfl rfl) (zg rfl (ze (zf _ _ rfl rfl rfl (zaB _ rfl rfl rfl (zy rfl (ze (zB _ rfl rfl (zf _ _ rfl rfl rfl (zb rfl (za rfl rfl (zJ rfl rfl) (za rfl rfl (zd rfl) (zg rfl (ze (zb rfl (za rfl rfl (zc rfl) (za rfl rfl (zc rfl) (zj rfl rfl (zac [.tmp 12] rfl rfl (.cons (CellD.v rfl) .nil) rfl Tryz.runUnderlying77 Tryz.sizeOf21 Tryz.zeroValue21 rfl rfl rfl rfl) ?_))))))))))))))))))
    rintro _ _ ⟨g2, rfl, rfl⟩
    refine zj rfl rfl (zaj (f := dR) (l := l) (l' := [((decR s p : Nat) : Int)]) (i := 2) rfl rfl rfl (SrcD.own (j := 0) rfl rfl) und_77 infz_21 rfl rfl (by unfold maxLen; (try simp only [la, lc, ln, lm, lt', ld, ls, lr]); omega) (by (try simp only [la, lc, ln, lm, lt', ld, ls, lr]); omega)) ?_
    rintro _ _ ⟨v3, rfl, rfl⟩
    refine OpsD.norm [.sl (vS g2 1 1) 1 21 ([.v (.int .i32 ((decR s p : Nat) : Int))]), .it g1 s (p + decW s p), .sl v3 1 21 ((l ++ [((decR s p : Nat) : Int)]).map dR)] rfl (za rfl rfl (zd rfl) (zg rfl (zG ?_)))
    exact zZ (p + decW s p, v3, (l ++ [((decR s p : Nat) : Int)])) ⟨sk rfl, sk rfl, sk rfl, trivial⟩ (HSub.lst 1 rfl) ⟨by have := zan s p hlt; omega, by rw [List.length_append, List.length_singleton]; omega, by rw [hf, hrune, List.append_assoc]; rfl⟩ (by have := zY s p; omega)
  · skip
    have hrune := zaZ hge
    refine zf _ _ rfl rfl rfl (zb rfl (za rfl rfl (zbD (i := 0) rfl rfl hge) (za rfl rfl (zJ rfl rfl) (zg rfl (ze (zf _ _ rfl rfl rfl (zah _ rfl rfl rfl (zO rfl (zD (zz (zw (ze (zf _ _ rfl rfl rfl (zb rfl (za rfl rfl (zc rfl) (za rfl rfl (zd rfl) (zg rfl (ze (zu rfl (PD.subH (HSub.less (sub_one (i := 1) rfl)) (PD.subH (HSub.turn (h' := .sl ov 1 21 ((zaC s).map dR)) rfl (Hp.eq_sl (show List.map dR l = List.map dR (zaC s) from congrArg _ (by rw [hf, hrune, List.append_nil])))) ?_)))))))))))))))))))))
    exact pd_ret Tryz.results62 (.cons (zo rfl) .nil) rfl ⟨_, rfl, rfl⟩

set_option maxHeartbeats 4000000 in
set_option maxRecDepth 100000 in
theorem first_c (s : ByteArray) (ev : Value) (hev : EvOk ev) (hs : s.size ≤ 1000000) (hz : 0 < s.size) :
    CD Tryz.prog 13 [HPow, HErr ev] [.s s] (fun r H' => r = .tup [TokD.d ((zF (bl8 s)).1), dN ((zF (bl8 s)).2)] ∧ H' = [HPow, HErr ev]) := by
  refine zH Tryz.func13 rfl (N := 36) rfl rfl (fun C => ?_)
  refine JD.keep [0] [(0, .s s)] rfl ?_
  refine JD.bd 0 rfl (fun bd0 => ?_)
  have sz0 : s.size ≤ 9223372036854775807 := bd0
  obtain ⟨y, hy, ey⟩ : ∃ y, (zaC s)[0]? = some y ∧ y = ((decR s 0 : Nat) : Int) := ⟨_, by rw [show zaC s = zbp s 0 from rfl, zaQ hz]; rfl, rfl⟩
  have hyl := zbu s 0
  refine zf _ _ rfl rfl rfl (zb rfl (zj rfl rfl (zbo (zv := (.agg #[(.int .i64 0), (.int .i64 0), (.string ByteArray.empty)])) Tryz.zeroValue45 ⟨rfl, rfl, rfl, trivial⟩ (Cv.vagg (by decide))) ?_))
  rintro _ _ ⟨g1, rfl, rfl⟩
  refine za rfl rfl (zd rfl) (zg rfl (ze (zf _ _ rfl rfl rfl (zf _ _ rfl rfl rfl (zb rfl (za rfl rfl (zc rfl) (zj rfl rfl (zx [] _ [] rfl rfl (.cons ArgC.id .nil) zp Tryz.call62 (Spell_c s (by omega)) (.inl rfl)) ?_)))))))
  rintro _ _ ⟨_, ⟨v2, rfl, rfl⟩, rfl⟩
  refine OpsD.norm [.sl v2 1 21 ((zaC s).map dR), .bx g1 45 (.agg [dI 0, dI 0, .v (.string ByteArray.empty)]), HPow, HErr ev] rfl (za rfl rfl (z6 (k := 0) (j := 0) rfl rfl rfl Tryz.runUnderlying77 Tryz.sizeOf21 (by first | rfl | omega) (zab hy)) (za rfl rfl (zaF rfl (i := 0) rfl (zab hy) Tryz.isAgg21 rfl) (za rfl rfl (zd rfl) (zg rfl (ze (zB _ rfl rfl (zf _ _ rfl rfl rfl (zb rfl (za rfl rfl (zc rfl) (zj rfl rfl (zx [] _ [] rfl rfl (.cons ArgC.id .nil) zp Tryz.call61 (Kind_c y) (.inl rfl)) ?_))))))))))
  rintro _ _ ⟨_, ⟨rfl, rfl⟩, rfl⟩
  refine OpsD.norm [.sl v2 1 21 ((zaC s).map dR), .bx g1 45 (.agg [dI 0, dI 0, .v (.string ByteArray.empty)]), HPow, HErr ev] rfl (za rfl rfl (zU rfl rfl rfl) (za rfl rfl (zd rfl) (zg rfl (ze ?_))))
  refine zl _ _ rfl rfl rfl rfl (fun hc3 => ?_) (fun hc3 => ?_)
  · replace hc3 := of_decide_eq_true hc3
    have q1 : zR ((decR s 0 : Nat) : Int) = 1 := by rw [← ey]; exact hc3
    refine zf _ _ rfl rfl rfl (zb rfl (za rfl rfl (zc rfl) (zj rfl rfl (zx [] _ [] rfl rfl (.cons ArgC.id .nil) zp Tryz.call63 (word_c s (by omega)) (.inl rfl)) ?_)))
    rintro _ _ ⟨_, ⟨rfl, rfl⟩, rfl⟩
    refine OpsD.norm [.sl v2 1 21 ((zaC s).map dR), .bx g1 45 (.agg [dI 0, dI 0, .v (.string ByteArray.empty)]), HPow, HErr ev] rfl (za rfl rfl (zJ rfl rfl) (za rfl rfl (zJ rfl rfl) (zj rfl rfl (zK (i := 1) (X' := TokD.d ((zbe (bl8 s)).1)) rfl rfl rfl (CellD.agg) Tryz.sizeOf45 rfl rfl rfl) ?_)))
    rintro _ _ ⟨rfl, rfl⟩
    refine OpsD.norm [.sl v2 1 21 ((zaC s).map dR), .bx g1 45 (TokD.d ((zbe (bl8 s)).1)), HPow, HErr ev] rfl (za rfl rfl (zd rfl) (zg rfl (ze (JD.keep [0, 2, 3] [(0, .s s), (2, dP g1 0), (3, dN ((zbe (bl8 s)).2))] rfl (zu rfl (zn (zq (PD.subH (HSub.perm (zm (i := 3) rfl)) (PD.norm [HErr ev, .sl v2 1 21 ((zaC s).map dR), .bx g1 45 (TokD.d ((zbe (bl8 s)).1)), HPow] rfl (PD.subH (HSub.perm (zm (i := 3) rfl)) (PD.norm [HPow, HErr ev, .sl v2 1 21 ((zaC s).map dR), .bx g1 45 (TokD.d ((zbe (bl8 s)).1))] rfl ?_)))))))))))
    exact zk Tryz.results13 (.cons (zC (zad (X := TokD.d ((zbe (bl8 s)).1)) (d := TokD.d ((zbe (bl8 s)).1)) (i := 3) rfl rfl Tryz.isAgg45 Tryz.sizeOf45 rfl rfl) (Cv.eq (congrArg TokD.d (show (zbe (bl8 s)).1 = (zF (bl8 s)).1 from (by rw [zcy q1]))))) (.cons (zC (zo rfl) (Cv.eq (congrArg dN (by rw [zcy q1])))) .nil)) rfl (HSub.fst 2 rfl) ⟨rfl, rfl⟩
  · replace hc3 := of_decide_eq_false hc3
    have q1 : ¬ zR ((decR s 0 : Nat) : Int) = 1 := by rw [← ey]; exact hc3
    refine zf _ _ rfl rfl rfl (zb rfl (za rfl rfl (zc rfl) (zj rfl rfl (zx [] _ [] rfl rfl (.cons ArgC.id .nil) zp Tryz.call61 (Kind_c y) (.inl rfl)) ?_)))
    rintro _ _ ⟨_, ⟨rfl, rfl⟩, rfl⟩
    refine OpsD.norm [.sl v2 1 21 ((zaC s).map dR), .bx g1 45 (.agg [dI 0, dI 0, .v (.string ByteArray.empty)]), HPow, HErr ev] rfl (za rfl rfl (zU rfl rfl rfl) (za rfl rfl (zd rfl) (zg rfl (ze (JD.keep [0, 2, 3, 4, 17] [(0, .s s), (2, dP g1 0), (3, dI 0), (4, .v (.int .i32 y)), (17, dB (decide (zR y = (2 : Int))))] rfl ?_)))))
    refine zl _ _ rfl rfl rfl rfl (fun hc4 => ?_) (fun hc4 => ?_)
    · replace hc4 := of_decide_eq_true hc4
      have hk2 : zR ((decR s 0 : Nat) : Int) = 2 := by rw [← ey]; exact hc4
      refine zf _ _ rfl rfl rfl (zb rfl (za rfl rfl (zc rfl) (OpsD.subH (HSub.perm (zm (i := 3) rfl)) (OpsD.norm [HErr ev, .sl v2 1 21 ((zaC s).map dR), .bx g1 45 (.agg [dI 0, dI 0, .v (.string ByteArray.empty)]), HPow] rfl (OpsD.subH (HSub.perm (zm (i := 3) rfl)) (OpsD.norm [HPow, HErr ev, .sl v2 1 21 ((zaC s).map dR), .bx g1 45 (.agg [dI 0, dI 0, .v (.string ByteArray.empty)])] rfl (zj rfl rfl (zx [HPow, HErr ev] [.sl v2 1 21 ((zaC s).map dR), .bx g1 45 (.agg [dI 0, dI 0, .v (.string ByteArray.empty)])] [] rfl rfl (.cons ArgC.id .nil) zp Tryz.call64 (number_c s ev hev (by omega) (by omega) hk2) (.inl rfl)) ?_)))))))
      rintro _ _ ⟨_, ⟨rfl, rfl⟩, rfl⟩
      refine OpsD.norm [HPow, HErr ev, .sl v2 1 21 ((zaC s).map dR), .bx g1 45 (.agg [dI 0, dI 0, .v (.string ByteArray.empty)])] rfl (za rfl rfl (zJ rfl rfl) (za rfl rfl (zJ rfl rfl) (zj rfl rfl (zK (i := 3) (X' := TokD.d ((numT (bl8 s)).1)) rfl rfl rfl (CellD.agg) Tryz.sizeOf45 rfl rfl rfl) ?_)))
      rintro _ _ ⟨rfl, rfl⟩
      refine OpsD.norm [HPow, HErr ev, .sl v2 1 21 ((zaC s).map dR), .bx g1 45 (TokD.d ((numT (bl8 s)).1))] rfl (za rfl rfl (zd rfl) (zg rfl (ze (zu rfl (zn (zq ?_))))))
      exact zk Tryz.results13 (.cons (zC (zad (X := TokD.d ((numT (bl8 s)).1)) (d := TokD.d ((numT (bl8 s)).1)) (i := 3) rfl rfl Tryz.isAgg45 Tryz.sizeOf45 rfl rfl) (Cv.eq (congrArg TokD.d (show (numT (bl8 s)).1 = (zF (bl8 s)).1 from (by rw [firstT_2 q1 hk2]))))) (.cons (zC (zo rfl) (Cv.eq (congrArg dN (by rw [firstT_2 q1 hk2])))) .nil)) rfl (HSub.fst 2 rfl) ⟨rfl, rfl⟩
    · replace hc4 := of_decide_eq_false hc4
      have q2 : ¬ zR ((decR s 0 : Nat) : Int) = 2 := by rw [← ey]; exact hc4
      refine zf _ _ rfl rfl rfl (zb rfl (za rfl rfl (zc rfl) (za rfl rfl (zU rfl rfl rfl) (za rfl rfl (zd rfl) (zg rfl (ze ?_))))))
      refine zl _ _ rfl rfl rfl rfl (fun hc5 => ?_) (fun hc5 => ?_)
      · replace hc5 := of_decide_eq_true hc5
        have q3 : decR s 0 = 34 := by have := hc5; omega
        refine zf _ _ rfl rfl rfl (zb rfl (za rfl rfl (zc rfl) (zj rfl rfl (zx [] _ [] rfl rfl (.cons ArgC.id .nil) zp Tryz.call65 (quoted_c s (by omega)) (.inl rfl)) ?_)))
        rintro _ _ ⟨_, ⟨rfl, rfl⟩, rfl⟩
        refine OpsD.norm [.sl v2 1 21 ((zaC s).map dR), .bx g1 45 (.agg [dI 0, dI 0, .v (.string ByteArray.empty)]), HPow, HErr ev] rfl (za rfl rfl (zJ rfl rfl) (za rfl rfl (zJ rfl rfl) (zj rfl rfl (zK (i := 1) (X' := TokD.d ((strT (bl8 s)).1)) rfl rfl rfl (CellD.agg) Tryz.sizeOf45 rfl rfl rfl) ?_)))
        rintro _ _ ⟨rfl, rfl⟩
        refine OpsD.norm [.sl v2 1 21 ((zaC s).map dR), .bx g1 45 (TokD.d ((strT (bl8 s)).1)), HPow, HErr ev] rfl (za rfl rfl (zd rfl) (zg rfl (ze (JD.keep [0, 2, 3] [(0, .s s), (2, dP g1 0), (3, dN ((strT (bl8 s)).2))] rfl (zu rfl (zn (zq (PD.subH (HSub.perm (zm (i := 3) rfl)) (PD.norm [HErr ev, .sl v2 1 21 ((zaC s).map dR), .bx g1 45 (TokD.d ((strT (bl8 s)).1)), HPow] rfl (PD.subH (HSub.perm (zm (i := 3) rfl)) (PD.norm [HPow, HErr ev, .sl v2 1 21 ((zaC s).map dR), .bx g1 45 (TokD.d ((strT (bl8 s)).1))] rfl ?_)))))))))))
        exact zk Tryz.results13 (.cons (zC (zad (X := TokD.d ((strT (bl8 s)).1)) (d := TokD.d ((strT (bl8 s)).1)) (i := 3) rfl rfl Tryz.isAgg45 Tryz.sizeOf45 rfl rfl) (Cv.eq (congrArg TokD.d (show (strT (bl8 s)).1 = (zF (bl8 s)).1 from (by rw [zbR q1 q2 q3]))))) (.cons (zC (zo rfl) (Cv.eq (congrArg dN (by rw [zbR q1 q2 q3])))) .nil)) rfl (HSub.fst 2 rfl) ⟨rfl, rfl⟩
      · replace hc5 := of_decide_eq_false hc5
        have q3 : ¬ decR s 0 = 34 := by have := hc5; omega
        refine zy rfl (zG (ze (zf _ _ rfl rfl rfl (zb rfl (za rfl rfl (zc rfl) (zj rfl rfl (zx [] _ [] rfl rfl (.cons ArgC.id .nil) zp Tryz.call66 (sign_c s (by omega)) (.inl rfl)) ?_))))))
        rintro _ _ ⟨_, ⟨rfl, rfl⟩, rfl⟩
        refine OpsD.norm [.sl v2 1 21 ((zaC s).map dR), .bx g1 45 (.agg [dI 0, dI 0, .v (.string ByteArray.empty)]), HPow, HErr ev] rfl (za rfl rfl (zJ rfl rfl) (za rfl rfl (zJ rfl rfl) (zj rfl rfl (zK (i := 1) (X' := TokD.d ((zbi (bl8 s)).1)) rfl rfl rfl (CellD.agg) Tryz.sizeOf45 rfl rfl rfl) ?_)))
        rintro _ _ ⟨rfl, rfl⟩
        refine OpsD.norm [.sl v2 1 21 ((zaC s).map dR), .bx g1 45 (TokD.d ((zbi (bl8 s)).1)), HPow, HErr ev] rfl (za rfl rfl (zd rfl) (zg rfl (ze (JD.keep [2, 3] [(2, dP g1 0), (3, dN ((zbi (bl8 s)).2))] rfl (zu rfl (PD.subH (HSub.perm (zm (i := 3) rfl)) (PD.norm [HErr ev, .sl v2 1 21 ((zaC s).map dR), .bx g1 45 (TokD.d ((zbi (bl8 s)).1)), HPow] rfl (PD.subH (HSub.perm (zm (i := 3) rfl)) (PD.norm [HPow, HErr ev, .sl v2 1 21 ((zaC s).map dR), .bx g1 45 (TokD.d ((zbi (bl8 s)).1))] rfl ?_)))))))))
        exact zk Tryz.results13 (.cons (zC (zad (X := TokD.d ((zbi (bl8 s)).1)) (d := TokD.d ((zbi (bl8 s)).1)) (i := 3) rfl rfl Tryz.isAgg45 Tryz.sizeOf45 rfl rfl) (Cv.eq (congrArg TokD.d (show (zbi (bl8 s)).1 = (zF (bl8 s)).1 from (by rw [zcx q1 q2 q3]))))) (.cons (zC (zo rfl) (Cv.eq (congrArg dN (by rw [zcx q1 q2 q3])))) .nil)) rfl (HSub.fst 2 rfl) ⟨rfl, rfl⟩

set_option maxHeartbeats 4000000 in
set_option maxRecDepth 100000 in
theorem Words_c (s : ByteArray) (ev : Value) (hev : EvOk ev) :
    CD Tryz.prog 5 [HPow, HErr ev] [.s s] (fun r H' => ∃ v, r = .tup [.ov v, dI (lexE s)] ∧ H' = [.sl v 3 45 ((lexL s).map TokD.d), HPow, HErr ev]) := by
  refine zH Tryz.func5 rfl (N := 44) rfl rfl (fun C => ?_)
  refine JD.keep [0] [(0, .s s)] rfl ?_
  refine JD.bd 0 rfl (fun bd0 => ?_)
  have sz0 : s.size ≤ 9223372036854775807 := bd0
  refine zf _ _ rfl rfl rfl (zb rfl (za rfl rfl (zd rfl) (za rfl rfl (zd rfl) (zg rfl (ze (zf _ _ rfl rfl rfl (zf _ _ rfl rfl rfl (zb rfl (za rfl rfl (zc rfl) (za rfl rfl (zP rfl Tryz.runUnderlying9) (za rfl rfl (zaM rfl rfl rfl) (zg rfl (ze ?_)))))))))))))
  refine zl _ _ rfl rfl rfl rfl (fun hc1 => ?_) (fun hc1 => ?_)
  · replace hc1 := of_decide_eq_true hc1
    have hlong : 600 < s.size := by have := hc1; omega
    refine zf _ _ rfl rfl rfl (zb rfl (za rfl rfl (zd rfl) (za rfl rfl (zd rfl) (zg rfl (ze (zu rfl (zq (PD.subH (HSub.nil 3 45) (PD.norm [.sl (.slice none 0 0) 3 45 ([].map TokD.d), HPow, HErr ev] rfl (PD.norm [.sl (.slice none 0 0) 3 45 ((lexL s).map TokD.d), HPow, HErr ev] (by have hw9 : ([] : List TokD) = lexL s := (zcs hlong).1; rw [← hw9]) ?_))))))))))
    exact zk Tryz.results5 (.cons (zC (zo rfl) (Cv.ov rfl)) (.cons (zC (zo rfl) (Cv.eq (congrArg dI (show (1 : Int) = lexE s from (zcs hlong).2)))) .nil)) rfl (HSub.fst 3 rfl) ⟨(.slice none 0 0), rfl, rfl⟩
  · replace hc1 := of_decide_eq_false hc1
    have hshort : ¬ 600 < s.size := by have := hc1; omega
    have hr0 := zaV (inK [3]) s
    refine zy rfl (ze (zf _ _ rfl rfl rfl (zb rfl (za rfl rfl (zd rfl) (zg rfl (ze (zf _ _ rfl rfl rfl (zf _ _ rfl rfl rfl (zb rfl (za rfl rfl (zc rfl) (zj rfl rfl (Qu.ef (d := .sh 1 ([3].map dI)) (zaz [.const (.int .i64 3)] rfl rfl (.cons (CellD.v rfl) .nil) rfl Tryz.runUnderlying75 Tryz.sizeOf3 Tryz.zeroValue3 rfl rfl rfl rfl)) ?_)))))))))))
    rintro _ _ ⟨rfl, rfl⟩
    refine zj rfl rfl (zx [] _ [] rfl rfl (.cons ArgC.id (.cons ArgC.id .nil)) zp Tryz.call12 (zdC s [3]) (.inl rfl)) ?_
    rintro _ _ ⟨_, ⟨rfl, rfl⟩, rfl⟩
    refine OpsD.norm [HPow, HErr ev] rfl (za rfl rfl (zd rfl) (zg rfl (ze (zB _ rfl rfl (zS (fun (g : Nat × Value × List TokD) => [(0, .s s), (5, dN g.1), (4, .ov g.2.1)]) (fun (g : Nat × Value × List TokD) => [.sl g.2.1 3 45 (g.2.2.map TokD.d), HPow, HErr ev]) (fun (g : Nat × Value × List TokD) => (WInv s g.1 g.2.2) ∧ (g.1 ≤ s.size) ∧ (g.2.2.length ≤ g.1)) (fun (g : Nat × Value × List TokD) => s.size - g.1) _ (runL (inK [3]) (bl8 s), .slice none 0 0, []) rfl rfl ⟨sk rfl, sk rfl, sc rfl (Cv.ov rfl), trivial⟩ (HSub.nil 3 45) ⟨WInv.zero, hr0, Nat.zero_le _⟩ ?_)))))
    rintro ⟨p, ov, out⟩ ⟨hw, hp, ho⟩
    replace hw : WInv s p out := hw
    replace hp : p ≤ s.size := hp
    replace ho : out.length ≤ p := ho
    refine JD.keep [0, 5, 4] [(0, .s s), (5, dN p), (4, .ov ov)] rfl (JD.norm [.sl ov 3 45 (out.map TokD.d), HPow, HErr ev] rfl (zf _ _ rfl rfl rfl (zf _ _ rfl rfl rfl (zb rfl (za rfl rfl (zc rfl) (za rfl rfl (zc rfl) (za rfl rfl (zP rfl Tryz.runUnderlying9) (za rfl rfl (z1 rfl rfl rfl) (zg rfl (ze ?_))))))))))
    refine zl _ _ rfl rfl rfl rfl (fun hc2 => ?_) (fun hc2 => ?_)
    · replace hc2 := of_decide_eq_true hc2
      have hlt : p < s.size := by have := hc2; omega
      have hfr := first_run_le (s := s) (p := p) hp
      refine zy rfl (ze (zf _ _ rfl rfl rfl (zB _ rfl rfl (zf _ _ rfl rfl rfl (zb rfl (za rfl rfl (zc rfl) (za rfl rfl (zc rfl) (za rfl rfl (zV (a := p) (c := s.size) rfl rfl rfl (by first | rfl | (show _ = _; omega)) (by first | rfl | (show _ = _; omega)) Tryz.runUnderlying9 (by omega) (by omega)) (OpsD.subH (HSub.perm (zm (i := 2) rfl)) (OpsD.norm [HErr ev, .sl ov 3 45 (out.map TokD.d), HPow] rfl (OpsD.subH (HSub.perm (zm (i := 2) rfl)) (OpsD.norm [HPow, HErr ev, .sl ov 3 45 (out.map TokD.d)] rfl (zj rfl rfl (zx [HPow, HErr ev] [.sl ov 3 45 (out.map TokD.d)] [] rfl rfl (.cons ArgC.id .nil) zp Tryz.call13 (first_c (s.extract p s.size) ev hev (by simp only [ByteArray.size_extract]; omega) (by simp only [ByteArray.size_extract]; omega)) (.inl rfl)) ?_)))))))))))))
      rintro _ _ ⟨_, ⟨rfl, rfl⟩, rfl⟩
      refine OpsD.norm [HPow, HErr ev, .sl ov 3 45 (out.map TokD.d)] rfl (za rfl rfl (zc rfl) (za rfl rfl (zJ rfl rfl) (za rfl rfl (zJ rfl rfl) (zj rfl rfl (zbo (zv := (.agg #[(.int .i64 0), (.int .i64 0), (.string ByteArray.empty)])) Tryz.zeroValue45 ⟨rfl, rfl, rfl, trivial⟩ (Cv.vagg (by decide))) ?_))))
      rintro _ _ ⟨g3, rfl, rfl⟩
      refine zj rfl rfl (zK (i := 0) (X' := TokD.d ((zF (bl8 (s.extract p s.size))).1)) rfl rfl rfl (CellD.agg) Tryz.sizeOf45 rfl rfl rfl) ?_
      rintro _ _ ⟨rfl, rfl⟩
      refine OpsD.norm [.bx g3 45 (TokD.d ((zF (bl8 (s.extract p s.size))).1)), HPow, HErr ev, .sl ov 3 45 (out.map TokD.d)] rfl (za rfl rfl (zd rfl) (zg rfl (ze (zf _ _ rfl rfl rfl (zf _ _ rfl rfl rfl (zb rfl (za rfl rfl (zc rfl) (za rfl rfl (zU rfl rfl rfl) (zg rfl (ze ?_))))))))))
      refine zl _ _ rfl rfl rfl rfl (fun hc4 => ?_) (fun hc4 => ?_)
      · replace hc4 := of_decide_eq_true hc4
        have hbad : (zF (bl8 (s.extract p s.size))).2 = 0 := by have := hc4; omega
        refine zf _ _ rfl rfl rfl (zb rfl (za rfl rfl (zd rfl) (za rfl rfl (zd rfl) (zg rfl (ze (zu rfl (zq (zn (zq (zam (zn (zq (PD.subH (HSub.nil 3 45) (PD.norm [.sl (.slice none 0 0) 3 45 ([].map TokD.d), .bx g3 45 (TokD.d ((zF (bl8 (s.extract p s.size))).1)), HPow, HErr ev, .sl ov 3 45 (out.map TokD.d)] rfl (PD.subH (HSub.perm (zm (i := 3) rfl)) (PD.norm [HErr ev, .sl (.slice none 0 0) 3 45 ([].map TokD.d), .bx g3 45 (TokD.d ((zF (bl8 (s.extract p s.size))).1)), HPow, .sl ov 3 45 (out.map TokD.d)] rfl (PD.subH (HSub.perm (zm (i := 3) rfl)) (PD.norm [HPow, HErr ev, .sl (.slice none 0 0) 3 45 ([].map TokD.d), .bx g3 45 (TokD.d ((zF (bl8 (s.extract p s.size))).1)), .sl ov 3 45 (out.map TokD.d)] rfl (PD.subH (HSub.perm (zm (i := 2) rfl)) (PD.norm [.sl (.slice none 0 0) 3 45 ([].map TokD.d), HPow, HErr ev, .bx g3 45 (TokD.d ((zF (bl8 (s.extract p s.size))).1)), .sl ov 3 45 (out.map TokD.d)] rfl ?_))))))))))))))))))))
        refine PD.norm [.sl (.slice none 0 0) 3 45 ((lexL s).map TokD.d), HPow, HErr ev, .bx g3 45 (TokD.d ((zF (bl8 (s.extract p s.size))).1)), .sl ov 3 45 (out.map TokD.d)] (by have hw9 : ([] : List TokD) = lexL s := (zc1 hshort (hw.bad hlt hbad)).1; rw [← hw9]) ?_
        exact zk Tryz.results5 (.cons (zC (zo rfl) (Cv.ov rfl)) (.cons (zC (zo rfl) (Cv.eq (congrArg dI (show (2 : Int) = lexE s from (zc1 hshort (hw.bad hlt hbad)).2)))) .nil)) rfl (HSub.fst 3 rfl) ⟨(.slice none 0 0), rfl, rfl⟩
      · replace hc4 := of_decide_eq_false hc4
        have hn0 : ¬ (zF (bl8 (s.extract p s.size))).2 = 0 := by have := hc4; omega
        have hrs := zaV (inK [3]) (s.extract (p + (zF (bl8 (s.extract p s.size))).2) s.size)
        rw [ByteArray.size_extract] at hrs
        refine zy rfl (ze (zf _ _ rfl rfl rfl (zb rfl (za rfl rfl (zc rfl) (za rfl rfl (zE rfl fa_45_1 rfl) (zj rfl rfl (zK (i := 0) (X' := .agg [dI (((zF (bl8 (s.extract p s.size))).1).k), dN p, .s (((zF (bl8 (s.extract p s.size))).1).t)]) rfl rfl rfl (CellD.v rfl) Tryz.sizeOf3 rfl rfl rfl) ?_))))))
        rintro _ _ ⟨rfl, rfl⟩
        refine OpsD.norm [.bx g3 45 (.agg [dI (((zF (bl8 (s.extract p s.size))).1).k), dN p, .s (((zF (bl8 (s.extract p s.size))).1).t)]), HPow, HErr ev, .sl ov 3 45 (out.map TokD.d)] rfl (zg rfl (ze (zf _ _ rfl rfl rfl (zb rfl (za rfl rfl (zc rfl) (za rfl rfl (p_load_bx (d := .agg [dI (((zF (bl8 (s.extract p s.size))).1).k), dN p, .s (((zF (bl8 (s.extract p s.size))).1).t)]) rfl (i := 0) rfl Tryz.isAgg45 Tryz.sizeOf45 rfl rfl) (zj rfl rfl (Qu.ef (d := .sh 3 ([(TokD.mk (((zF (bl8 (s.extract p s.size))).1).k) ((p : Nat) : Int) (((zF (bl8 (s.extract p s.size))).1).t))].map TokD.d)) (zaz [.tmp 37] rfl rfl (.cons CellD.agg .nil) rfl Tryz.runUnderlying36 Tryz.sizeOf45 Tryz.zeroValue45 rfl rfl rfl rfl)) ?_)))))))
        rintro _ _ ⟨rfl, rfl⟩
        refine zj rfl rfl (zaj (f := TokD.d) (l := out) (l' := [(TokD.mk (((zF (bl8 (s.extract p s.size))).1).k) ((p : Nat) : Int) (((zF (bl8 (s.extract p s.size))).1).t))]) (i := 3) rfl rfl rfl (SrcD.sh) zcK zcf rfl rfl (by unfold maxLen; (try simp only [la, lc, ln, lm, lt', ld, ls, lr]); omega) (by (try simp only [la, lc, ln, lm, lt', ld, ls, lr]); omega)) ?_
        rintro _ _ ⟨v5, rfl, rfl⟩
        refine OpsD.norm [.bx g3 45 (.agg [dI (((zF (bl8 (s.extract p s.size))).1).k), dN p, .s (((zF (bl8 (s.extract p s.size))).1).t)]), HPow, HErr ev, .sl v5 3 45 ((out ++ [(TokD.mk (((zF (bl8 (s.extract p s.size))).1).k) ((p : Nat) : Int) (((zF (bl8 (s.extract p s.size))).1).t))]).map TokD.d)] rfl (za rfl rfl (zd rfl) (zg rfl (ze (zb rfl (za rfl rfl (zc rfl) (za rfl rfl (zc rfl) (za rfl rfl (z7 (c := ((p + ((zF (bl8 (s.extract p s.size))).2) : Nat) : Int)) rfl rfl (zX (by omega) (by omega))) (za rfl rfl (zd rfl) (zg rfl (zG (ze (zb rfl (za rfl rfl (zc rfl) (za rfl rfl (zc rfl) (za rfl rfl (zc rfl) (za rfl rfl (zV (a := p + ((zF (bl8 (s.extract p s.size))).2)) (c := s.size) rfl rfl rfl (by first | rfl | (show _ = _; omega)) (by first | rfl | (show _ = _; omega)) Tryz.runUnderlying9 (by omega) (by omega)) (zj rfl rfl (Qu.ef (d := .sh 1 ([3].map dI)) (zaz [.const (.int .i64 3)] rfl rfl (.cons (CellD.v rfl) .nil) rfl Tryz.runUnderlying75 Tryz.sizeOf3 Tryz.zeroValue3 rfl rfl rfl rfl)) ?_)))))))))))))))))
        rintro _ _ ⟨rfl, rfl⟩
        refine zj rfl rfl (zx [] _ [] rfl rfl (.cons ArgC.id (.cons ArgC.id .nil)) zp Tryz.call12 (zdC (s.extract (p + ((zF (bl8 (s.extract p s.size))).2)) s.size) [3]) (.inl rfl)) ?_
        rintro _ _ ⟨_, ⟨rfl, rfl⟩, rfl⟩
        refine OpsD.norm [.bx g3 45 (.agg [dI (((zF (bl8 (s.extract p s.size))).1).k), dN p, .s (((zF (bl8 (s.extract p s.size))).1).t)]), HPow, HErr ev, .sl v5 3 45 ((out ++ [(TokD.mk (((zF (bl8 (s.extract p s.size))).1).k) ((p : Nat) : Int) (((zF (bl8 (s.extract p s.size))).1).t))]).map TokD.d)] rfl (za rfl rfl (z7 (c := (((p + ((zF (bl8 (s.extract p s.size))).2)) + (runL (inK [3]) (bl8 (s.extract (p + ((zF (bl8 (s.extract p s.size))).2)) s.size))) : Nat) : Int)) rfl rfl (zX (by omega) (by omega))) (za rfl rfl (zd rfl) (zg rfl (PD.subH (HSub.perm (zm (i := 2) rfl)) (PD.norm [HErr ev, .bx g3 45 (.agg [dI (((zF (bl8 (s.extract p s.size))).1).k), dN p, .s (((zF (bl8 (s.extract p s.size))).1).t)]), HPow, .sl v5 3 45 ((out ++ [(TokD.mk (((zF (bl8 (s.extract p s.size))).1).k) ((p : Nat) : Int) (((zF (bl8 (s.extract p s.size))).1).t))]).map TokD.d)] rfl (PD.subH (HSub.perm (zm (i := 2) rfl)) (PD.norm [HPow, HErr ev, .bx g3 45 (.agg [dI (((zF (bl8 (s.extract p s.size))).1).k), dN p, .s (((zF (bl8 (s.extract p s.size))).1).t)]), .sl v5 3 45 ((out ++ [(TokD.mk (((zF (bl8 (s.extract p s.size))).1).k) ((p : Nat) : Int) (((zF (bl8 (s.extract p s.size))).1).t))]).map TokD.d)] rfl ?_)))))))
        refine PD.subH (HSub.perm (zm (i := 3) rfl)) (PD.norm [.sl v5 3 45 ((out ++ [(TokD.mk (((zF (bl8 (s.extract p s.size))).1).k) ((p : Nat) : Int) (((zF (bl8 (s.extract p s.size))).1).t))]).map TokD.d), HPow, HErr ev, .bx g3 45 (.agg [dI (((zF (bl8 (s.extract p s.size))).1).k), dN p, .s (((zF (bl8 (s.extract p s.size))).1).t)])] rfl ?_)
        exact zZ ((p + ((zF (bl8 (s.extract p s.size))).2)) + (runL (inK [3]) (bl8 (s.extract (p + ((zF (bl8 (s.extract p s.size))).2)) s.size))), v5, (out ++ [(TokD.mk (((zF (bl8 (s.extract p s.size))).1).k) ((p : Nat) : Int) (((zF (bl8 (s.extract p s.size))).1).t))])) ⟨sk rfl, sk rfl, sk rfl, trivial⟩ (HSub.fst 3 rfl) ⟨hw.next hlt hn0, by omega, by (try simp only [la, List.length_singleton]); omega⟩ (by omega)
    · replace hc2 := of_decide_eq_false hc2
      have hge : s.size ≤ p := by have := hc2; omega
      refine zO rfl (zD (zz (zw (ze (zf _ _ rfl rfl rfl (zb rfl (za rfl rfl (zc rfl) (za rfl rfl (zd rfl) (za rfl rfl (zd rfl) (zg rfl (ze (zu rfl (PD.norm [.sl ov 3 45 ((lexL s).map TokD.d), HPow, HErr ev] (by have hw9 : (out : List TokD) = lexL s := (zdj hshort (hw.done hge)).1; rw [← hw9]) ?_)))))))))))))
      exact zk Tryz.results5 (.cons (zo rfl) (.cons (zC (zo rfl) (Cv.eq (congrArg dI (show (0 : Int) = lexE s from (zdj hshort (hw.done hge)).2)))) .nil)) rfl (HSub.fst 3 rfl) ⟨ov, rfl, rfl⟩
end Lp
/-
  The words of one short text.
-/
set_option linter.unusedVariables false
namespace Lp
open Go
def alTxt : ByteArray := ⟨#[97, 32, 62, 61, 32, 53, 109]⟩
def zaX : List TokD := [⟨1, 0, ⟨#[97]⟩⟩, ⟨5, 2, ⟨#[62, 61]⟩⟩, ⟨4, 5, ⟨#[51, 48, 48]⟩⟩]
theorem al_name : zcT (mkB [97]) = true := by
  unfold zcT zaC
  rw [zaQ (s := mkB [97]) (p := 0) (by decide), zaZ (by decide)]; decide
theorem al_dig : digL 300 = [51, 48, 48] := by
  unfold digL; rw [dif_neg (by decide)]; unfold digL; rw [dif_neg (by decide)]; unfold digL; rw [dif_pos (by decide)]; rfl
theorem firstT_w {l : List UInt8} (h : zR ((decL l).1 : Int) = 1) : zF l = zbe l := by unfold zF; rw [if_pos h]
theorem firstT_n {l : List UInt8} (h : zR ((decL l).1 : Int) = 2) : zF l = numT l := by unfold zF; rw [if_neg (by omega), if_pos h]
theorem firstT_s {l : List UInt8} (h : ¬ zR ((decL l).1 : Int) = 1) (h2 : ¬ zR ((decL l).1 : Int) = 2) (h3 : ¬ (decL l).1 = 34) : zF l = zbi l := by unfold zF; rw [if_neg h, if_neg h2, if_neg h3]
theorem al_1 : zF [97, 32, 62, 61, 32, 53, 109] = (⟨1, 0, ⟨#[97]⟩⟩, 1) := by
  rw [firstT_w (by decide)]
  have hr : runL isLD [97, 32, 62, 61, 32, 53, 109] = 1 := by
    rw [zbj (by decide) (by decide)]
    show 1 + runL isLD [32, 62, 61, 32, 53, 109] = 1
    rw [zcM (by decide)]
  unfold zbe; rw [hr]
  show (if zcT (mkB [97]) = true then _ else _) = _
  rw [if_pos al_name]; rfl
theorem al_2 : zF [62, 61, 32, 53, 109] = (⟨5, 0, ⟨#[62, 61]⟩⟩, 2) := by
  rw [firstT_s (by decide) (by decide) (by decide)]; decide
theorem al_3 : zF [53, 109] = (⟨4, 0, ⟨#[51, 48, 48]⟩⟩, 2) := by
  rw [firstT_n (by decide)]
  have h1 : runL isD [53, 109] = 1 := by
    rw [zbj (by decide) (by decide)]
    show 1 + runL isD [109] = 1
    rw [zcM (by decide)]
  have h2 : runL isLD [53, 109] = 2 := by
    rw [zbj (by decide) (by decide)]
    show 1 + runL isLD [109] = 2
    rw [zbj (by decide) (by decide)]
    show 1 + (1 + runL isLD []) = 2
    rw [zcL]
  unfold numT; rw [h1, h2]
  rw [if_neg (by decide), if_neg (by decide), if_neg (by decide)]
  show ((⟨4, 0, digB 300⟩, 2) : TokD × Nat) = _
  unfold digB; rw [al_dig]; rfl
theorem al_words : zao [97, 32, 62, 61, 32, 53, 109] 0 = some zaX := by
  have b1 : runL isB [97, 32, 62, 61, 32, 53, 109] = 0 := zcM (by decide)
  have b2 : runL isB [32, 62, 61, 32, 53, 109] = 1 := by
    rw [zbj (by decide) (by decide)]
    show 1 + runL isB [62, 61, 32, 53, 109] = 1
    rw [zcM (by decide)]
  have b3 : runL isB [32, 53, 109] = 1 := by
    rw [zbj (by decide) (by decide)]
    show 1 + runL isB [53, 109] = 1
    rw [zcM (by decide)]
  unfold zao; rw [b1]
  show zaT 7 [97, 32, 62, 61, 32, 53, 109] 0 = _
  rw [zbv (by decide) (by rw [al_1]; decide) (by decide), al_1]
  show (zao [32, 62, 61, 32, 53, 109] 1).map _ = _
  unfold zao; rw [b2]
  show (zaT 6 [62, 61, 32, 53, 109] 2).map _ = _
  rw [zbv (by decide) (by rw [al_2]; decide) (by decide), al_2]
  show ((zao [32, 53, 109] 4).map _).map _ = _
  unfold zao; rw [b3]
  show ((zaT 3 [53, 109] 5).map _).map _ = _
  rw [zbv (by decide) (by rw [al_3]; decide) (by decide), al_3]
  show (((zao [] 7).map _).map _).map _ = _
  have h0 : zao [] 7 = some [] := by unfold zao; rw [zcL]; exact zbg
  rw [h0]; rfl
theorem al_lex : lexL alTxt = zaX ∧ lexE alTxt = 0 := by
  have h : bl8 alTxt = [97, 32, 62, 61, 32, 53, 109] := rfl
  have hs : ¬ 600 < alTxt.size := by decide
  unfold lexL lexE; rw [if_neg hs, if_neg hs, h, al_words]; exact ⟨rfl, rfl⟩
end Lp
/- Walks, printed by a program of mine. -/
set_option linter.unusedSimpArgs false
set_option linter.unusedVariables false
namespace Lp
open Go Go.RowKit Go.Proofs

namespace HdYtoanlikkhjohpaaGreatDoorV41
theorem zaq : ∀ w, ((#[⟨"Kind", 3, 0, false, "", "", 0⟩, ⟨"At", 3, 1, false, "", "", 8⟩, ⟨"Text", 9, 2, false, "", "", 16⟩] : Array Field).mapM fun f => do pure (f.offset, ← Go.sizeOf f.type) : Sem (Array (Nat × Nat))).run Tryz.prog w = .ok ([(0, 1), (1, 1), (2, 1)] : List (Nat × Nat)).toArray w := fun _ => by kernel_rfl
theorem fa_45_2 (b o : Nat) : ∀ w, (Instr.fieldAt 45 (.pointer (some ⟨b, o, none⟩)) 2).run Tryz.prog w = .ok (.pointer (some ⟨b, o + 2, none⟩)) w := fun _ => by kernel_rfl
end HdYtoanlikkhjohpaaGreatDoorV41
open HdYtoanlikkhjohpaaGreatDoorV41

theorem zbQ {ty t' : TypeId} {K : Kd} {H : List Hp} {x y : Operand} {dx dy : D} {a b : TokD} {q : Bool} (hx : opD K x = some dx) (cx : Cv dx (TokD.d a)) (hy : opD K y = some dy) (cy : Cv dy (TokD.d b)) (hq : decide (a = b) = q) : Pu Tryz.prog (.binOp .eql 45 x y t') ty K H (dB q) :=
  ⟨fun ρ w F hk _ _ => by
    obtain ⟨vs, e, u1, r1, rfl, _, rfl, u2, r2, rfl, _, rfl, u3, r3, rfl, _, ⟨rfl, _⟩, rfl⟩ := cx.out _ _ _ (hk.op hx)
    obtain ⟨vs', e', u4, r4, rfl, _, rfl, u5, r5, rfl, _, rfl, u6, r6, rfl, _, ⟨rfl, _⟩, rfl⟩ := cy.out _ _ _ (hk.op hy)
    refine zbZ (r := .bool q) (zQ ρ [x, y]) (za4 ρ e) (za3 ρ e') (fun w => ?_) ⟨rfl, rfl⟩
    subst hq
    obtain ⟨a1, a2, a3⟩ := a
    obtain ⟨b1, b2, b3⟩ := b
    simp [go_sem, toList_beq]
    by_cases h1 : a1 = b1 <;> by_cases h2 : a2 = b2 <;> by_cases h3 : a3 = b3 <;> simp [h1, h2, h3]⟩

theorem Words_al (ev : Value) (hev : EvOk ev) : CD Tryz.prog 5 [HPow, HErr ev] [.v (.string (⟨#[97, 32, 62, 61, 32, 53, 109]⟩ : ByteArray))] (fun r H' => ∃ v, r = .tup [.ov v, dI 0] ∧ H' = [.sl v 3 45 (zaX.map TokD.d), HPow, HErr ev]) := by
  have h := Words_c (⟨#[97, 32, 62, 61, 32, 53, 109]⟩ : ByteArray) ev hev
  rw [show lexE (⟨#[97, 32, 62, 61, 32, 53, 109]⟩ : ByteArray) = 0 from al_lex.2, show lexL (⟨#[97, 32, 62, 61, 32, 53, 109]⟩ : ByteArray) = zaX from al_lex.1] at h
  exact ⟨fun w F vs hvs hF hH => h.out w F vs (by obtain ⟨u, us, e, hu, hus⟩ := hvs; exact ⟨u, us, e, ⟨hu, by decide⟩, hus⟩) hF hH⟩

set_option maxHeartbeats 4000000 in
set_option maxRecDepth 100000 in
theorem alive7_c (ev : Value) (hev : EvOk ev) :
    CD Tryz.prog 4 [HPow, HErr ev] [] (fun r H' => r = dB true ∧ H' = [HPow, HErr ev]) := by
  refine zH Tryz.func4 rfl (N := 35) rfl rfl (fun C => ?_)
  refine JD.keep [] [] rfl ?_
  have hlen : zaX.length = 3 := rfl
  obtain ⟨y1, hy1, ey1⟩ : ∃ y, zaX[1]? = some y ∧ y = TokD.mk 5 2 ⟨#[62, 61]⟩ := ⟨_, rfl, rfl⟩
  obtain ⟨y2, hy2, ey2⟩ : ∃ y, zaX[2]? = some y ∧ y = TokD.mk 4 5 ⟨#[51, 48, 48]⟩ := ⟨_, rfl, rfl⟩
  refine zf _ _ rfl rfl rfl (zb rfl (za rfl rfl (zd rfl) (zg rfl (ze (zf _ _ rfl rfl rfl (zb rfl (zj rfl rfl (zx [HPow, HErr ev] [] [] rfl rfl (.cons ArgC.id .nil) zp Tryz.call5 (Words_al ev hev) (.inl rfl)) ?_)))))))
  rintro _ _ ⟨_, ⟨wv1, rfl, rfl⟩, rfl⟩
  refine OpsD.norm [.sl wv1 3 45 (zaX.map TokD.d), HPow, HErr ev] rfl (za rfl rfl (zc rfl) (za rfl rfl (zJ rfl rfl) (za rfl rfl (zJ rfl rfl) (za rfl rfl (zd rfl) (za rfl rfl (zd rfl) (zg rfl (ze (zf _ _ rfl rfl rfl (JD.keep [1, 2] [(1, .ov wv1), (2, dI 0)] rfl ?_)))))))))
  refine zak 0 ((((((decide ((0 : Int) = (0 : Int)) && decide (((zaX.length : Nat) : Int) = (3 : Int))) && decide (y1 = (TokD.mk 5 2 (⟨#[62, 61]⟩ : ByteArray)))) && decide (y2.t = (⟨#[51, 48, 48]⟩ : ByteArray))) && hasN zN (⟨#[61, 126]⟩ : ByteArray)) && !(hasN zN (⟨#[126]⟩ : ByteArray)))) [.sl wv1 3 45 (zaX.map TokD.d), HPow, HErr ev] (fun _ hQ2 => ?_) ?_
  · skip
    by_cases hg3 : (0 : Int) = (0 : Int)
    · skip
      by_cases hg4 : ((zaX.length : Nat) : Int) = (3 : Int)
      · skip
        by_cases hg5 : y1 = (TokD.mk 5 2 (⟨#[62, 61]⟩ : ByteArray))
        · skip
          by_cases hg6 : y2.t = (⟨#[51, 48, 48]⟩ : ByteArray)
          · skip
            rcases Bool.eq_false_or_eq_true (hasN zN (⟨#[61, 126]⟩ : ByteArray)) with hg7 | hg7
            · skip
              refine zb rfl (za rfl rfl (zc rfl) (za rfl rfl (zU rfl rfl (decide_eq_true hg3)) (za rfl rfl (zc rfl) (zh rfl rfl rfl rfl rfl (zc rfl) (zh rfl rfl rfl rfl rfl (zaA (n := zaX.length) (j := 0) rfl rfl Tryz.runUnderlying36 (List.length_map _)) (zh rfl rfl rfl rfl rfl (zU rfl rfl (decide_eq_true hg4)) (za rfl rfl (zr rfl rfl) (za rfl rfl (zc rfl) (zh rfl rfl rfl rfl rfl (zc rfl) (zh rfl rfl rfl rfl rfl (z6 (k := 1) (j := 0) rfl rfl rfl Tryz.runUnderlying36 Tryz.sizeOf45 (by first | rfl | omega) (zab hy1)) (zh rfl rfl rfl rfl rfl (zcp (d := TokD.d y1) rfl (i := 0) rfl (zab hy1) Tryz.isAgg45 Tryz.sizeOf45 rfl rfl) (zh rfl rfl rfl rfl rfl (zaa [0, 1, 2] [.const (.int .i64 5), .const (.int .i64 2), .const (.string (⟨#[62, 61]⟩ : ByteArray))] (zv := (.agg #[(.int .i64 0), (.int .i64 0), (.string ByteArray.empty)])) rfl rfl (.cons (CellD.v rfl) (.cons (CellD.v rfl) (.cons (CellD.v rfl) .nil))) (Tryz.runUnderlying45) Tryz.zeroValue45 zaq ⟨rfl, rfl, rfl, trivial⟩ rfl) ?_))))))))))))
              refine zh rfl rfl rfl rfl rfl (zbQ (dx := TokD.d y1) (dy := .agg [dI 5, dI 2, .v (.string (⟨#[62, 61]⟩ : ByteArray))]) (a := y1) (b := (TokD.mk 5 2 (⟨#[62, 61]⟩ : ByteArray))) rfl (Cv.rfl') rfl (Cv.agg (.cons Cv.rfl' (.cons Cv.rfl' (.cons ((Cv.str (by first | decide | (unfold maxLen; omega)))) .nil)))) (decide_eq_true hg5)) (za rfl rfl (zr rfl rfl) (za rfl rfl (zc rfl) (zh rfl rfl rfl rfl rfl (zc rfl) (zh rfl rfl rfl rfl rfl (z6 (k := 2) (j := 0) rfl rfl rfl Tryz.runUnderlying36 Tryz.sizeOf45 (by first | rfl | omega) (zab hy2)) (zh rfl rfl rfl rfl rfl (zE rfl fa_45_2 rfl) (zh rfl rfl rfl rfl rfl (zaF rfl (i := 0) rfl (zab hy2) Tryz.isAgg9 rfl) (zh rfl rfl rfl rfl rfl (zaD rfl rfl (decide_eq_true hg6)) (za rfl rfl (zr rfl rfl) (za rfl rfl (zc rfl) (zat rfl rfl rfl rfl rfl (zx [] _ [] rfl rfl (.cons (ArgC.cv (Cv.str (by first | decide | (unfold maxLen; omega)))) .nil) zp Tryz.call9 (Sign_c (⟨#[61, 126]⟩ : ByteArray)) (.inl rfl)) ?_))))))))))
              rintro _ _ ⟨_, ⟨rfl, rfl⟩, rfl⟩
              refine OpsD.norm [.sl wv1 3 45 (zaX.map TokD.d), HPow, HErr ev] rfl (OpsD.sub ((29, dB true) :: [(1, .ov wv1), (2, dI 0), (7, dI 0), (8, dB true), (9, dB true), (10, .ov wv1), (11, dN zaX.length), (12, dB true), (13, dB true), (14, dB true), (15, .ov wv1), (16, .v (.pointer (some ⟨bl wv1, 1 * 3 + 0, none⟩))), (17, TokD.d y1), (18, .agg [dI 5, dI 2, .v (.string (⟨#[62, 61]⟩ : ByteArray))]), (19, dB true), (20, dB true), (21, dB true), (22, .ov wv1), (23, .v (.pointer (some ⟨bl wv1, 2 * 3 + 0, none⟩))), (24, .v (.pointer (some ⟨bl wv1, 2 * 3 + 2, none⟩))), (25, .s y2.t), (26, dB true), (27, dB true), (28, dB true)]) ⟨se rfl (congrArg (fun b => D.v (.bool b)) hg7), sk rfl, sk rfl, sk rfl, sk rfl, sk rfl, sk rfl, sk rfl, sk rfl, sk rfl, sk rfl, sk rfl, sk rfl, sk rfl, sk rfl, sk rfl, sk rfl, sk rfl, sk rfl, sk rfl, sk rfl, sk rfl, sk rfl, sk rfl, sk rfl, trivial⟩ (za rfl rfl (zr rfl rfl) (za rfl rfl (zc rfl) (zat rfl rfl rfl rfl rfl (zx [] _ [] rfl rfl (.cons (ArgC.cv (Cv.str (by first | decide | (unfold maxLen; omega)))) .nil) zp Tryz.call9 (Sign_c (⟨#[126]⟩ : ByteArray)) (.inl rfl)) ?_))))
              rintro _ _ ⟨_, ⟨rfl, rfl⟩, rfl⟩
              refine OpsD.norm [.sl wv1 3 45 (zaX.map TokD.d), HPow, HErr ev] rfl (zh rfl rfl rfl rfl rfl (zbr rfl) (za rfl rfl (zr rfl rfl) (za rfl rfl (zd rfl) (zg rfl ?_))))
              exact PD.sub ((0, dB (((((decide ((0 : Int) = (0 : Int)) && decide (((zaX.length : Nat) : Int) = (3 : Int))) && decide (y1 = (TokD.mk 5 2 (⟨#[62, 61]⟩ : ByteArray)))) && decide (y2.t = (⟨#[51, 48, 48]⟩ : ByteArray))) && hasN zN (⟨#[61, 126]⟩ : ByteArray)) && !(hasN zN (⟨#[126]⟩ : ByteArray)))) :: [(1, .ov wv1), (2, dI 0)]) ⟨sc rfl (Cv.eq (congrArg (fun b => D.v (.bool b)) (by first | (simp [hg3, hg4, hg5, hg6, hg7]; done) | (simp_all; done)))), sk rfl, sk rfl, trivial⟩ hQ2
            · skip
              refine zb rfl (za rfl rfl (zc rfl) (za rfl rfl (zU rfl rfl (decide_eq_true hg3)) (za rfl rfl (zc rfl) (zh rfl rfl rfl rfl rfl (zc rfl) (zh rfl rfl rfl rfl rfl (zaA (n := zaX.length) (j := 0) rfl rfl Tryz.runUnderlying36 (List.length_map _)) (zh rfl rfl rfl rfl rfl (zU rfl rfl (decide_eq_true hg4)) (za rfl rfl (zr rfl rfl) (za rfl rfl (zc rfl) (zh rfl rfl rfl rfl rfl (zc rfl) (zh rfl rfl rfl rfl rfl (z6 (k := 1) (j := 0) rfl rfl rfl Tryz.runUnderlying36 Tryz.sizeOf45 (by first | rfl | omega) (zab hy1)) (zh rfl rfl rfl rfl rfl (zcp (d := TokD.d y1) rfl (i := 0) rfl (zab hy1) Tryz.isAgg45 Tryz.sizeOf45 rfl rfl) (zh rfl rfl rfl rfl rfl (zaa [0, 1, 2] [.const (.int .i64 5), .const (.int .i64 2), .const (.string (⟨#[62, 61]⟩ : ByteArray))] (zv := (.agg #[(.int .i64 0), (.int .i64 0), (.string ByteArray.empty)])) rfl rfl (.cons (CellD.v rfl) (.cons (CellD.v rfl) (.cons (CellD.v rfl) .nil))) (Tryz.runUnderlying45) Tryz.zeroValue45 zaq ⟨rfl, rfl, rfl, trivial⟩ rfl) ?_))))))))))))
              refine zh rfl rfl rfl rfl rfl (zbQ (dx := TokD.d y1) (dy := .agg [dI 5, dI 2, .v (.string (⟨#[62, 61]⟩ : ByteArray))]) (a := y1) (b := (TokD.mk 5 2 (⟨#[62, 61]⟩ : ByteArray))) rfl (Cv.rfl') rfl (Cv.agg (.cons Cv.rfl' (.cons Cv.rfl' (.cons ((Cv.str (by first | decide | (unfold maxLen; omega)))) .nil)))) (decide_eq_true hg5)) (za rfl rfl (zr rfl rfl) (za rfl rfl (zc rfl) (zh rfl rfl rfl rfl rfl (zc rfl) (zh rfl rfl rfl rfl rfl (z6 (k := 2) (j := 0) rfl rfl rfl Tryz.runUnderlying36 Tryz.sizeOf45 (by first | rfl | omega) (zab hy2)) (zh rfl rfl rfl rfl rfl (zE rfl fa_45_2 rfl) (zh rfl rfl rfl rfl rfl (zaF rfl (i := 0) rfl (zab hy2) Tryz.isAgg9 rfl) (zh rfl rfl rfl rfl rfl (zaD rfl rfl (decide_eq_true hg6)) (za rfl rfl (zr rfl rfl) (za rfl rfl (zc rfl) (zat rfl rfl rfl rfl rfl (zx [] _ [] rfl rfl (.cons (ArgC.cv (Cv.str (by first | decide | (unfold maxLen; omega)))) .nil) zp Tryz.call9 (Sign_c (⟨#[61, 126]⟩ : ByteArray)) (.inl rfl)) ?_))))))))))
              rintro _ _ ⟨_, ⟨rfl, rfl⟩, rfl⟩
              refine OpsD.norm [.sl wv1 3 45 (zaX.map TokD.d), HPow, HErr ev] rfl (OpsD.sub ((29, dB false) :: [(1, .ov wv1), (2, dI 0), (7, dI 0), (8, dB true), (9, dB true), (10, .ov wv1), (11, dN zaX.length), (12, dB true), (13, dB true), (14, dB true), (15, .ov wv1), (16, .v (.pointer (some ⟨bl wv1, 1 * 3 + 0, none⟩))), (17, TokD.d y1), (18, .agg [dI 5, dI 2, .v (.string (⟨#[62, 61]⟩ : ByteArray))]), (19, dB true), (20, dB true), (21, dB true), (22, .ov wv1), (23, .v (.pointer (some ⟨bl wv1, 2 * 3 + 0, none⟩))), (24, .v (.pointer (some ⟨bl wv1, 2 * 3 + 2, none⟩))), (25, .s y2.t), (26, dB true), (27, dB true), (28, dB true)]) ⟨se rfl (congrArg (fun b => D.v (.bool b)) hg7), sk rfl, sk rfl, sk rfl, sk rfl, sk rfl, sk rfl, sk rfl, sk rfl, sk rfl, sk rfl, sk rfl, sk rfl, sk rfl, sk rfl, sk rfl, sk rfl, sk rfl, sk rfl, sk rfl, sk rfl, sk rfl, sk rfl, sk rfl, sk rfl, trivial⟩ (za rfl rfl (zr rfl rfl) (za rfl rfl (zc rfl) (zi rfl rfl rfl rfl rfl (by decide) (zi rfl rfl rfl rfl rfl (by decide) (za rfl rfl (zt rfl rfl) (za rfl rfl (zd rfl) (zg rfl ?_))))))))
              exact PD.sub ((0, dB (((((decide ((0 : Int) = (0 : Int)) && decide (((zaX.length : Nat) : Int) = (3 : Int))) && decide (y1 = (TokD.mk 5 2 (⟨#[62, 61]⟩ : ByteArray)))) && decide (y2.t = (⟨#[51, 48, 48]⟩ : ByteArray))) && hasN zN (⟨#[61, 126]⟩ : ByteArray)) && !(hasN zN (⟨#[126]⟩ : ByteArray)))) :: [(1, .ov wv1), (2, dI 0)]) ⟨sc rfl (Cv.eq (congrArg (fun b => D.v (.bool b)) (by first | (simp [hg3, hg4, hg5, hg6, hg7]; done) | (simp_all; done)))), sk rfl, sk rfl, trivial⟩ hQ2
          · skip
            refine zb rfl (za rfl rfl (zc rfl) (za rfl rfl (zU rfl rfl (decide_eq_true hg3)) (za rfl rfl (zc rfl) (zh rfl rfl rfl rfl rfl (zc rfl) (zh rfl rfl rfl rfl rfl (zaA (n := zaX.length) (j := 0) rfl rfl Tryz.runUnderlying36 (List.length_map _)) (zh rfl rfl rfl rfl rfl (zU rfl rfl (decide_eq_true hg4)) (za rfl rfl (zr rfl rfl) (za rfl rfl (zc rfl) (zh rfl rfl rfl rfl rfl (zc rfl) (zh rfl rfl rfl rfl rfl (z6 (k := 1) (j := 0) rfl rfl rfl Tryz.runUnderlying36 Tryz.sizeOf45 (by first | rfl | omega) (zab hy1)) (zh rfl rfl rfl rfl rfl (zcp (d := TokD.d y1) rfl (i := 0) rfl (zab hy1) Tryz.isAgg45 Tryz.sizeOf45 rfl rfl) (zh rfl rfl rfl rfl rfl (zaa [0, 1, 2] [.const (.int .i64 5), .const (.int .i64 2), .const (.string (⟨#[62, 61]⟩ : ByteArray))] (zv := (.agg #[(.int .i64 0), (.int .i64 0), (.string ByteArray.empty)])) rfl rfl (.cons (CellD.v rfl) (.cons (CellD.v rfl) (.cons (CellD.v rfl) .nil))) (Tryz.runUnderlying45) Tryz.zeroValue45 zaq ⟨rfl, rfl, rfl, trivial⟩ rfl) ?_))))))))))))
            refine zh rfl rfl rfl rfl rfl (zbQ (dx := TokD.d y1) (dy := .agg [dI 5, dI 2, .v (.string (⟨#[62, 61]⟩ : ByteArray))]) (a := y1) (b := (TokD.mk 5 2 (⟨#[62, 61]⟩ : ByteArray))) rfl (Cv.rfl') rfl (Cv.agg (.cons Cv.rfl' (.cons Cv.rfl' (.cons ((Cv.str (by first | decide | (unfold maxLen; omega)))) .nil)))) (decide_eq_true hg5)) (za rfl rfl (zr rfl rfl) (za rfl rfl (zc rfl) (zh rfl rfl rfl rfl rfl (zc rfl) (zh rfl rfl rfl rfl rfl (z6 (k := 2) (j := 0) rfl rfl rfl Tryz.runUnderlying36 Tryz.sizeOf45 (by first | rfl | omega) (zab hy2)) (zh rfl rfl rfl rfl rfl (zE rfl fa_45_2 rfl) (zh rfl rfl rfl rfl rfl (zaF rfl (i := 0) rfl (zab hy2) Tryz.isAgg9 rfl) (zh rfl rfl rfl rfl rfl (zaD rfl rfl (decide_eq_false hg6)) (za rfl rfl (zr rfl rfl) (za rfl rfl (zc rfl) (zi rfl rfl rfl rfl rfl (by decide) (za rfl rfl (zt rfl rfl) (za rfl rfl (zc rfl) (zi rfl rfl rfl rfl rfl (by decide) (zi rfl rfl rfl rfl rfl (by decide) (za rfl rfl (zt rfl rfl) (za rfl rfl (zd rfl) (zg rfl ?_)))))))))))))))))
            exact PD.sub ((0, dB (((((decide ((0 : Int) = (0 : Int)) && decide (((zaX.length : Nat) : Int) = (3 : Int))) && decide (y1 = (TokD.mk 5 2 (⟨#[62, 61]⟩ : ByteArray)))) && decide (y2.t = (⟨#[51, 48, 48]⟩ : ByteArray))) && hasN zN (⟨#[61, 126]⟩ : ByteArray)) && !(hasN zN (⟨#[126]⟩ : ByteArray)))) :: [(1, .ov wv1), (2, dI 0)]) ⟨sc rfl (Cv.eq (congrArg (fun b => D.v (.bool b)) (by first | (simp [hg3, hg4, hg5, hg6]; done) | (simp_all; done)))), sk rfl, sk rfl, trivial⟩ hQ2
        · skip
          refine zb rfl (za rfl rfl (zc rfl) (za rfl rfl (zU rfl rfl (decide_eq_true hg3)) (za rfl rfl (zc rfl) (zh rfl rfl rfl rfl rfl (zc rfl) (zh rfl rfl rfl rfl rfl (zaA (n := zaX.length) (j := 0) rfl rfl Tryz.runUnderlying36 (List.length_map _)) (zh rfl rfl rfl rfl rfl (zU rfl rfl (decide_eq_true hg4)) (za rfl rfl (zr rfl rfl) (za rfl rfl (zc rfl) (zh rfl rfl rfl rfl rfl (zc rfl) (zh rfl rfl rfl rfl rfl (z6 (k := 1) (j := 0) rfl rfl rfl Tryz.runUnderlying36 Tryz.sizeOf45 (by first | rfl | omega) (zab hy1)) (zh rfl rfl rfl rfl rfl (zcp (d := TokD.d y1) rfl (i := 0) rfl (zab hy1) Tryz.isAgg45 Tryz.sizeOf45 rfl rfl) (zh rfl rfl rfl rfl rfl (zaa [0, 1, 2] [.const (.int .i64 5), .const (.int .i64 2), .const (.string (⟨#[62, 61]⟩ : ByteArray))] (zv := (.agg #[(.int .i64 0), (.int .i64 0), (.string ByteArray.empty)])) rfl rfl (.cons (CellD.v rfl) (.cons (CellD.v rfl) (.cons (CellD.v rfl) .nil))) (Tryz.runUnderlying45) Tryz.zeroValue45 zaq ⟨rfl, rfl, rfl, trivial⟩ rfl) ?_))))))))))))
          refine zh rfl rfl rfl rfl rfl (zbQ (dx := TokD.d y1) (dy := .agg [dI 5, dI 2, .v (.string (⟨#[62, 61]⟩ : ByteArray))]) (a := y1) (b := (TokD.mk 5 2 (⟨#[62, 61]⟩ : ByteArray))) rfl (Cv.rfl') rfl (Cv.agg (.cons Cv.rfl' (.cons Cv.rfl' (.cons ((Cv.str (by first | decide | (unfold maxLen; omega)))) .nil)))) (decide_eq_false hg5)) (za rfl rfl (zr rfl rfl) (za rfl rfl (zc rfl) (zi rfl rfl rfl rfl rfl (by decide) (zi rfl rfl rfl rfl rfl (by decide) (zi rfl rfl rfl rfl rfl (by decide) (zi rfl rfl rfl rfl rfl (by decide) (zi rfl rfl rfl rfl rfl (by decide) (za rfl rfl (zt rfl rfl) (za rfl rfl (zc rfl) (zi rfl rfl rfl rfl rfl (by decide) (za rfl rfl (zt rfl rfl) (za rfl rfl (zc rfl) (zi rfl rfl rfl rfl rfl (by decide) (zi rfl rfl rfl rfl rfl (by decide) (za rfl rfl (zt rfl rfl) (za rfl rfl (zd rfl) (zg rfl ?_)))))))))))))))))
          exact PD.sub ((0, dB (((((decide ((0 : Int) = (0 : Int)) && decide (((zaX.length : Nat) : Int) = (3 : Int))) && decide (y1 = (TokD.mk 5 2 (⟨#[62, 61]⟩ : ByteArray)))) && decide (y2.t = (⟨#[51, 48, 48]⟩ : ByteArray))) && hasN zN (⟨#[61, 126]⟩ : ByteArray)) && !(hasN zN (⟨#[126]⟩ : ByteArray)))) :: [(1, .ov wv1), (2, dI 0)]) ⟨sc rfl (Cv.eq (congrArg (fun b => D.v (.bool b)) (by first | (simp [hg3, hg4, hg5]; done) | (simp_all; done)))), sk rfl, sk rfl, trivial⟩ hQ2
      · skip
        refine zb rfl (za rfl rfl (zc rfl) (za rfl rfl (zU rfl rfl (decide_eq_true hg3)) (za rfl rfl (zc rfl) (zh rfl rfl rfl rfl rfl (zc rfl) (zh rfl rfl rfl rfl rfl (zaA (n := zaX.length) (j := 0) rfl rfl Tryz.runUnderlying36 (List.length_map _)) (zh rfl rfl rfl rfl rfl (zU rfl rfl (decide_eq_false hg4)) (za rfl rfl (zr rfl rfl) (za rfl rfl (zc rfl) (zi rfl rfl rfl rfl rfl (by decide) (zi rfl rfl rfl rfl rfl (by decide) (zi rfl rfl rfl rfl rfl (by decide) (zi rfl rfl rfl rfl rfl (by decide) (zi rfl rfl rfl rfl rfl (by decide) (za rfl rfl (zt rfl rfl) (za rfl rfl (zc rfl) (zi rfl rfl rfl rfl rfl (by decide) (zi rfl rfl rfl rfl rfl (by decide) (zi rfl rfl rfl rfl rfl (by decide) (zi rfl rfl rfl rfl rfl (by decide) (zi rfl rfl rfl rfl rfl (by decide) (za rfl rfl (zt rfl rfl) (za rfl rfl (zc rfl) (zi rfl rfl rfl rfl rfl (by decide) (za rfl rfl (zt rfl rfl) (za rfl rfl (zc rfl) (zi rfl rfl rfl rfl rfl (by decide) (zi rfl rfl rfl rfl rfl (by decide) (za rfl rfl (zt rfl rfl) (za rfl rfl (zd rfl) (zg rfl ?_))))))))))))))))))))))))))))))
        exact PD.sub ((0, dB (((((decide ((0 : Int) = (0 : Int)) && decide (((zaX.length : Nat) : Int) = (3 : Int))) && decide (y1 = (TokD.mk 5 2 (⟨#[62, 61]⟩ : ByteArray)))) && decide (y2.t = (⟨#[51, 48, 48]⟩ : ByteArray))) && hasN zN (⟨#[61, 126]⟩ : ByteArray)) && !(hasN zN (⟨#[126]⟩ : ByteArray)))) :: [(1, .ov wv1), (2, dI 0)]) ⟨sc rfl (Cv.eq (congrArg (fun b => D.v (.bool b)) (by first | (simp [hg3, hg4]; done) | (simp_all; done)))), sk rfl, sk rfl, trivial⟩ hQ2
    · skip
      refine zb rfl (za rfl rfl (zc rfl) (za rfl rfl (zU rfl rfl (decide_eq_false hg3)) (za rfl rfl (zc rfl) (zi rfl rfl rfl rfl rfl (by decide) (zi rfl rfl rfl rfl rfl (by decide) (zi rfl rfl rfl rfl rfl (by decide) (za rfl rfl (zt rfl rfl) (za rfl rfl (zc rfl) (zi rfl rfl rfl rfl rfl (by decide) (zi rfl rfl rfl rfl rfl (by decide) (zi rfl rfl rfl rfl rfl (by decide) (zi rfl rfl rfl rfl rfl (by decide) (zi rfl rfl rfl rfl rfl (by decide) (za rfl rfl (zt rfl rfl) (za rfl rfl (zc rfl) (zi rfl rfl rfl rfl rfl (by decide) (zi rfl rfl rfl rfl rfl (by decide) (zi rfl rfl rfl rfl rfl (by decide) (zi rfl rfl rfl rfl rfl (by decide) (zi rfl rfl rfl rfl rfl (by decide) (za rfl rfl (zt rfl rfl) (za rfl rfl (zc rfl) (zi rfl rfl rfl rfl rfl (by decide) (za rfl rfl (zt rfl rfl) (za rfl rfl (zc rfl) (zi rfl rfl rfl rfl rfl (by decide) (zi rfl rfl rfl rfl rfl (by decide) (za rfl rfl (zt rfl rfl) (za rfl rfl (zd rfl) (zg rfl ?_))))))))))))))))))))))))))))))
      exact PD.sub ((0, dB (((((decide ((0 : Int) = (0 : Int)) && decide (((zaX.length : Nat) : Int) = (3 : Int))) && decide (y1 = (TokD.mk 5 2 (⟨#[62, 61]⟩ : ByteArray)))) && decide (y2.t = (⟨#[51, 48, 48]⟩ : ByteArray))) && hasN zN (⟨#[61, 126]⟩ : ByteArray)) && !(hasN zN (⟨#[126]⟩ : ByteArray)))) :: [(1, .ov wv1), (2, dI 0)]) ⟨sc rfl (Cv.eq (congrArg (fun b => D.v (.bool b)) (by first | (simp [hg3]; done) | (simp_all; done)))), sk rfl, sk rfl, trivial⟩ hQ2
  · skip
    refine ze (zu rfl (PD.subH (HSub.perm (zm (i := 2) rfl)) (PD.norm [HErr ev, .sl wv1 3 45 (zaX.map TokD.d), HPow] rfl (PD.subH (HSub.perm (zm (i := 2) rfl)) (PD.norm [HPow, HErr ev, .sl wv1 3 45 (zaX.map TokD.d)] rfl ?_)))))
    exact zk Tryz.results4 (.cons (zC (zo rfl) (Cv.eq (congrArg (fun b => D.v (.bool b)) (by simp only [ey1, ey2]; decide)))) .nil) rfl (HSub.fst 2 rfl) ⟨rfl, rfl⟩
end Lp
/-
  What is said of words (chapter 7), as plain data.
-/
set_option linter.unusedVariables false
namespace Lp
open Go
theorem zaS {b : UInt8} {t : List UInt8} (h : b.toNat < 128) : decL (b :: t) = (b.toNat, 1) := by
  unfold decL
  have : gb (b :: t) 0 = b.toNat := rfl
  rw [this, if_pos h]
theorem zb7 {b : Bool} {l : List UInt8} (h : l ≠ []) : zay b l = if b = true then (zay false (l.drop (decL l).2)).map (· + (decL l).2)
  else if (decL l).1 = 92 then (zay true (l.drop (decL l).2)).map (· + (decL l).2)
  else if (decL l).1 = 34 then some 0
  else (zay false (l.drop (decL l).2)).map (· + (decL l).2) := by
  conv => lhs; unfold zay
  rw [dif_neg h]
theorem qscan_nil {b : Bool} : zay b [] = none := by unfold zay; rw [dif_pos rfl]
theorem qscan_lt : ∀ (n : Nat) (l : List UInt8) (b : Bool) (i : Nat), l.length = n → zay b l = some i → i < l.length := by
  intro n
  induction n using Nat.strongRecOn with
  | _ n ih =>
    intro l b i hl h
    by_cases hn : l = []
    · subst hn; rw [qscan_nil] at h; cases h
    · have h1 := zaW l
      have h2 := zcD hn
      have key : ∀ (b' : Bool), (zay b' (l.drop (decL l).2)).map (· + (decL l).2) = some i → i < l.length := by
        intro b' h
        cases e : zay b' (l.drop (decL l).2) with
        | none => rw [e] at h; cases h
        | some j =>
          rw [e] at h; injection h with h
          have := ih (l.length - (decL l).2) (by omega) _ b' j List.length_drop e
          rw [List.length_drop] at this
          have h : j + (decL l).2 = i := h
          omega
      rw [zb7 hn] at h
      split at h
      · exact key _ h
      · split at h
        · exact key _ h
        · split at h
          · injection h with h; omega
          · exact key _ h
theorem signIn_size : ∀ (xs : List ByteArray) (l : List UInt8), (zas xs l).2 ≤ l.length
  | [], l => Nat.zero_le _
  | x :: xs, l => by
    unfold zas; split
    · rename_i h
      rw [List.isPrefixOf_iff_prefix] at h
      have := h.length_le
      rw [zag] at this; exact this
    · exact signIn_size xs l
theorem firstT_le {l : List UInt8} : (zF l).2 ≤ l.length := by
  unfold zF
  split
  · unfold zbe; split
    · exact zbO _ _
    · exact Nat.zero_le _
  · split
    · unfold numT; split
      · exact Nat.zero_le _
      · split
        · exact zbO _ _
        · split
          · exact Nat.zero_le _
          · exact zbO _ _
    · split
      · cases e : zay true l with
        | none => unfold strT; rw [e]; exact Nat.zero_le _
        | some i =>
          have h2 := qscan_lt _ l true i rfl e
          unfold strT; rw [e]
          show (match unqB (mkB (l.take (i + 1))) with | none => (zbF, 0) | some t => ((⟨3, 0, t⟩ : TokD), i + 1)).2 ≤ _
          split
          · exact Nat.zero_le _
          · exact h2
      · exact signIn_size _ _
/-! ### words, and what stands behind them -/
theorem run_blank_all {g : List UInt8} (hg : ∀ b ∈ g, b = 32 ∨ b = 9 ∨ b = 10) (x : List UInt8) : runL isB (g ++ x) = g.length + runL isB x := by
  induction g with
  | nil => simp
  | cons b t ih =>
    have hb := hg b List.mem_cons_self
    have hlt : b.toNat < 128 := by rcases hb with rfl | rfl | rfl <;> decide
    have hk : isB ((decL (b :: (t ++ x))).1 : Int) = true := by
      rw [zaS hlt]
      rcases hb with rfl | rfl | rfl <;> decide
    rw [List.cons_append, zbj (by simp) hk, zaS hlt]
    show 1 + runL isB (t ++ x) = _
    rw [ih (fun c hc => hg c (List.mem_cons_of_mem _ hc)), List.length_cons]; omega
theorem wordsL_blank {g : List UInt8} (hg : ∀ b ∈ g, b = 32 ∨ b = 9 ∨ b = 10) (x : List UInt8) (a : Nat) : zao (g ++ x) a = zao x (a + g.length) := by
  rw [zcj (n := g.length + x.length) (by simp), zcj (n := g.length + x.length) (by simp), run_blank_all hg]
  rw [← List.drop_drop, List.drop_left]
  congr 1; omega
/-- words stand where they begin -/
def TokD.by (x : TokD) (c : Nat) : TokD := ⟨x.k, x.a + (c : Int), x.t⟩
end Lp
/-
  Blanks between the words of a text.
-/
set_option linter.unusedVariables false
namespace Lp
open Go
/-! ### where words stand -/
theorem firstT_zero_cases {n : Nat} : ∀ (l : List UInt8) (a : Nat) (ts : List TokD), l.length = n → zao l a = some ts → ts.length ≤ l.length ∧ ∀ x ∈ ts, (a : Int) ≤ x.a ∧ x.a ≤ ((a + l.length : Nat) : Int) := by
  induction n using Nat.strongRecOn with
  | _ n ih =>
    intro l a ts hn h
    have hrl := zbO isB l
    generalize hm : l.drop (runL isB l) = m at *
    have hml : m.length = l.length - runL isB l := by rw [← hm, List.length_drop]
    unfold zao at h
    rw [hm] at h
    by_cases hne : m = []
    · subst hne; rw [zbg] at h; injection h with h; subst h
      exact ⟨Nat.zero_le _, fun x hx => absurd hx (by simp)⟩
    · by_cases h0 : (zF m).2 = 0
      · rw [zb5 hne h0] at h; cases h
      · have hpos := List.length_pos_iff.2 hne
        have hfl := firstT_le (l := m)
        rw [zbv hne h0 (by omega)] at h
        cases e : zao (m.drop (zF m).2) (a + runL isB l + (zF m).2) with
        | none => rw [e] at h; cases h
        | some t2 =>
          rw [e] at h
          have h : (zF m).1.put (a + runL isB l) :: t2 = ts := by injection h
          have := ih (m.drop (zF m).2).length (by rw [List.length_drop]; omega) _ _ t2 rfl e
          rw [List.length_drop] at this
          subst h
          refine ⟨by simp only [List.length_cons]; omega, fun x hx => ?_⟩
          rcases List.mem_cons.1 hx with rfl | hx
          · show (a : Int) ≤ ((a + runL isB l : Nat) : Int) ∧ ((a + runL isB l : Nat) : Int) ≤ _
            omega
          · have := this.2 x hx; omega
theorem lexE_0 {s : ByteArray} (h : lexE s = 0) : ¬ 600 < s.size ∧ zao (bl8 s) 0 = some (lexL s) := by
  unfold lexE at h
  by_cases hs : 600 < s.size
  · rw [if_pos hs] at h; omega
  · rw [if_neg hs] at h
    refine ⟨hs, ?_⟩
    cases e : zao (bl8 s) 0 with
    | none => rw [e] at h; simp at h
    | some ts => unfold lexL; rw [if_neg hs, e]; rfl
theorem lex_none {s : ByteArray} (h : ¬ lexE s = 0) : lexL s = [] := by
  unfold lexE at h; unfold lexL
  by_cases hs : 600 < s.size
  · rw [if_pos hs]
  · rw [if_neg hs] at h ⊢
    cases e : zao (bl8 s) 0 with
    | none => rfl
    | some ts => rw [e] at h; simp at h
theorem lexL_len (s : ByteArray) : (lexL s).length ≤ s.size := by
  by_cases h : lexE s = 0
  · have := (firstT_zero_cases (bl8 s) 0 _ rfl (lexE_0 h).2).1
    rw [zag] at this; exact this
  · rw [lex_none h]; exact Nat.zero_le _
end Lp
/-
  Numbers in a text of words.
-/
set_option linter.unusedVariables false
namespace Lp
open Go
/-! ### digits, step by step -/
theorem digL_step (n : Nat) : digL n = (if n / 10 = 0 then [] else digL (n / 10)) ++ [UInt8.ofNat (48 + n % 10)] := by
  conv => lhs; unfold digL
  by_cases h : n < 10
  · rw [dif_pos h, if_pos (by omega), Nat.mod_eq_of_lt h]; rfl
  · rw [dif_neg h, if_neg (by omega)]
def DigI (v n : Nat) (o : ByteArray) : Prop := (o = ByteArray.empty ∧ n = v) ∨ (o ≠ ByteArray.empty ∧ digL v = (if n = 0 then [] else digL n) ++ bl8 o)
theorem DigI.zero {v : Nat} : DigI v v ByteArray.empty := .inl ⟨rfl, rfl⟩
theorem one_add {b : UInt8} {o : ByteArray} : bl8 ((⟨#[b]⟩ : ByteArray) ++ o) = b :: bl8 o := by simp [bl8]
theorem DigI.next {v n : Nat} {o : ByteArray} (h : DigI v n o) (hc : 0 < n ∨ o = ByteArray.empty) : DigI v (n / 10) ((⟨#[UInt8.ofNat (48 + n % 10)]⟩ : ByteArray) ++ o) := by
  refine .inr ⟨fun e => ?_, ?_⟩
  · have := congrArg bl8 e
    rw [one_add] at this
    cases this
  · rw [one_add]
    rcases h with ⟨rfl, rfl⟩ | ⟨hne, h⟩
    · rw [digL_step]; rfl
    · have hn : ¬ n = 0 := by rcases hc with hc | hc; omega; exact absurd hc hne
      rw [h, if_neg hn, digL_step n, List.append_assoc]; rfl
theorem DigI.done {v n : Nat} {o : ByteArray} (h : DigI v n o) (h0 : ¬ 0 < n) (h1 : ¬ o = ByteArray.empty) : o = digB v := by
  rcases h with ⟨e, _⟩ | ⟨_, h⟩
  · exact absurd e h1
  · rw [if_pos (by omega), List.nil_append] at h
    unfold digB; rw [h, zcU]
/-! ### the value of digits -/
def digF (a : Nat) (l : List UInt8) : Nat := l.foldl (fun n b => 10 * n + (b.toNat - 48)) a
theorem digV_eq (l : List UInt8) : digV l = digF 0 l := rfl
theorem digF_app (a : Nat) (l r : List UInt8) : digF a (l ++ r) = digF (digF a l) r := by unfold digF; rw [List.foldl_append]
def DigsL (l : List UInt8) : Prop := ∀ b ∈ l, 48 ≤ b.toNat ∧ b.toNat ≤ 57
theorem dig_kind {b : UInt8} (hb : 48 ≤ b.toNat ∧ b.toNat ≤ 57) (t : List UInt8) : zR ((decL (b :: t)).1 : Int) = 2 ∧ (decL (b :: t)).2 = 1 := by
  rw [zaS (by omega)]
  refine ⟨?_, rfl⟩
  show zR ((b.toNat : Nat) : Int) = 2
  unfold zR; (repeat (any_goals split)) <;> omega
theorem run_digs {f : Int → Bool} (hf : ∀ r : Int, zR r = 2 → f r = true) : ∀ (l : List UInt8) (x : List UInt8), DigsL l → runL f (l ++ x) = l.length + runL f x
  | [], x, _ => by simp
  | b :: t, x, h => by
    obtain ⟨h1, h2⟩ := dig_kind (h b List.mem_cons_self) (t ++ x)
    rw [List.cons_append, zbj (by simp) (hf _ h1), h2]
    show 1 + runL f (t ++ x) = _
    rw [run_digs hf t x (fun c hc => h c (List.mem_cons_of_mem _ hc)), List.length_cons]; omega
theorem isD_2 : ∀ r : Int, zR r = 2 → isD r = true := fun r h => by show inK [2] r = true; unfold inK; simp [h]
theorem isLD_2 : ∀ r : Int, zR r = 2 → isLD r = true := fun r h => by show inK [1, 2] r = true; unfold inK; simp [h]
end Lp
