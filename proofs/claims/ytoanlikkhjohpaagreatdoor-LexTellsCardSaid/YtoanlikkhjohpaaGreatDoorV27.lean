/- Walks, printed by a program of mine. -/
import Derived.Test.YtoanlikkhjohpaaGreatDoorV51
set_option linter.unusedSimpArgs false
set_option linter.unusedVariables false
namespace Lp
open Go Go.RowKit Go.Proofs

namespace HdYtoanlikkhjohpaaGreatDoorV52
theorem zaq : ∀ w, ((#[⟨"Kind", 3, 0, false, "", "", 0⟩, ⟨"At", 3, 1, false, "", "", 8⟩, ⟨"Text", 9, 2, false, "", "", 16⟩] : Array Field).mapM fun f => do pure (f.offset, ← Go.sizeOf f.type) : Sem (Array (Nat × Nat))).run Tryz.prog w = .ok ([(0, 1), (1, 1), (2, 1)] : List (Nat × Nat)).toArray w := fun _ => by kernel_rfl
theorem fa_45_1 (b o : Nat) : ∀ w, (Instr.fieldAt 45 (.pointer (some ⟨b, o, none⟩)) 1).run Tryz.prog w = .ok (.pointer (some ⟨b, o + 1, none⟩)) w := fun _ => by kernel_rfl
theorem zcf : ∃ i, Tryz.prog.info? 45 = some i ∧ i.zero = some (.agg #[(.int .i64 0), (.int .i64 0), (.string ByteArray.empty)]) ∧ i.size = 3 ∧ i.bytes = 32 := zce (by kernel_rfl)
theorem zcK : Tryz.prog.underlying 36 = some (.slice 45) := by kernel_rfl
end HdYtoanlikkhjohpaaGreatDoorV52
open HdYtoanlikkhjohpaaGreatDoorV52

set_option maxHeartbeats 4000000 in
set_option maxRecDepth 100000 in
theorem rtok_c (s : ByteArray) (hs : s.size ≤ 1000000) (hz : 0 < s.size) :
    CD Tryz.prog 17 [] [.s s] (isR (.tup [TokD.d ((zF (bl8 s)).1), dN ((zF (bl8 s)).2)])) := by
  refine zH Tryz.func17 rfl (N := 87) rfl rfl (fun C => ?_)
  refine JD.keep [0] [(0, .s s)] rfl ?_
  refine JD.bd 0 rfl (fun bd0 => ?_)
  have sz0 : s.size ≤ 9223372036854775807 := bd0
  have hnr := zaV (inK [1, 2]) s
  have hdl := zbu s 0
  have hwl := wc_le _ (bl8 s) rfl
  rw [zag] at hwl
  refine zf _ _ rfl rfl rfl (zb rfl (zj rfl rfl (zbo (zv := (.agg #[(.int .i64 0), (.int .i64 0), (.string ByteArray.empty)])) Tryz.zeroValue45 ⟨rfl, rfl, rfl, trivial⟩ (Cv.vagg (by decide))) ?_))
  rintro _ _ ⟨g1, rfl, rfl⟩
  refine za rfl rfl (zd rfl) (zg rfl (ze (zf _ _ rfl rfl rfl (zb rfl (za rfl rfl (zc rfl) (zj rfl rfl (zx [] _ [] rfl rfl (.cons ArgC.id .nil) zp Tryz.call16 (rfirst_c s (by first | omega | (simp only [ByteArray.size_extract]; omega))) (.inl rfl)) ?_))))))
  rintro _ _ ⟨_, ⟨rfl, rfl⟩, rfl⟩
  refine OpsD.norm [.bx g1 45 (.agg [dI 0, dI 0, .v (.string ByteArray.empty)])] rfl (za rfl rfl (zd rfl) (zg rfl (ze (zf _ _ rfl rfl rfl (zf _ _ rfl rfl rfl (zb rfl (za rfl rfl (zc rfl) (zj rfl rfl (zx [] _ [] rfl rfl (.cons ArgC.id .nil) zp Tryz.call15 (refKind_c ((decR s 0 : Nat) : Int)) (.inl rfl)) ?_))))))))
  rintro _ _ ⟨_, ⟨rfl, rfl⟩, rfl⟩
  refine OpsD.norm [.bx g1 45 (.agg [dI 0, dI 0, .v (.string ByteArray.empty)])] rfl (zg rfl (ze (zB _ rfl rfl (zf _ _ rfl rfl rfl (zb rfl (za rfl rfl (zU rfl rfl rfl) (za rfl rfl (zd rfl) (zg rfl (ze ?_)))))))))
  refine zl _ _ rfl rfl rfl rfl (fun hc2 => ?_) (fun hc2 => ?_)
  · replace hc2 := of_decide_eq_true hc2
    have q1 : zR ((decR s 0 : Nat) : Int) = 1 := hc2
    refine zf _ _ rfl rfl rfl (zb rfl (za rfl rfl (zc rfl) (zj rfl rfl (zx [] _ [] rfl rfl (.cons ArgC.id .nil) zp Tryz.call67 (rword_c s) (.inl rfl)) ?_)))
    rintro _ _ ⟨_, ⟨rfl, rfl⟩, rfl⟩
    refine OpsD.norm [.bx g1 45 (.agg [dI 0, dI 0, .v (.string ByteArray.empty)])] rfl (za rfl rfl (zc rfl) (za rfl rfl (zJ rfl rfl) (za rfl rfl (zJ rfl rfl) (za rfl rfl (zd rfl) (za rfl rfl (zd rfl) (zg rfl (ze (JD.keep [0, 2, 3, 4, 5, 6] [(0, .s s), (2, dP g1 0), (3, dI 0), (4, .v (.int .i32 ((decR s 0 : Nat) : Int))), (5, dN (runL (inK [1, 2]) (bl8 s))), (6, dN (wcL (bl8 s)))] rfl (zf _ _ rfl rfl rfl (zf _ _ rfl rfl rfl (zb rfl (za rfl rfl (zc rfl) (za rfl rfl (zaM rfl rfl rfl) (zg rfl (ze ?_)))))))))))))))
    refine zl _ _ rfl rfl rfl rfl (fun hc3 => ?_) (fun hc3 => ?_)
    · replace hc3 := of_decide_eq_true hc3
      have hwc : ¬ wcL (bl8 s) ≤ 30 := by have := hc3; omega
      refine zf _ _ rfl rfl rfl (zb rfl (za rfl rfl (zaa [] [] (zv := (.agg #[(.int .i64 0), (.int .i64 0), (.string ByteArray.empty)])) rfl rfl (.nil) (Tryz.runUnderlying45) Tryz.zeroValue45 zaq ⟨rfl, rfl, rfl, trivial⟩ rfl) (zj rfl rfl (zK (i := 0) (X' := .agg [dI 0, dI 0, .v (.string ByteArray.empty)]) rfl rfl rfl (CellD.agg) Tryz.sizeOf45 rfl rfl rfl) ?_)))
      rintro _ _ ⟨rfl, rfl⟩
      refine OpsD.norm [.bx g1 45 (.agg [dI 0, dI 0, .v (.string ByteArray.empty)])] rfl (za rfl rfl (zd rfl) (zg rfl (ze (zu rfl (zq (zn (zq ?_)))))))
      exact zk Tryz.results17 (.cons (zC (zad (X := .agg [dI 0, dI 0, .v (.string ByteArray.empty)]) (d := .agg [dI 0, dI 0, .v (.string ByteArray.empty)]) (i := 0) rfl rfl Tryz.isAgg45 Tryz.sizeOf45 rfl rfl) ((Cv.agg (.cons Cv.rfl' (.cons Cv.rfl' (.cons ((Cv.str (by first | decide | (unfold maxLen; omega)))) .nil)))).trans (Cv.eq (congrArg TokD.d (show (TokD.mk 0 0 ByteArray.empty) = (zF (bl8 s)).1 from (by rw [zcy q1, wordT_count (by rw [dec0]; exact q1), if_neg hwc]; try rfl)))))) (.cons (zC (zo rfl) (Cv.eq (congrArg dN (by rw [zcy q1, wordT_count (by rw [dec0]; exact q1), if_neg hwc]; try rfl)))) .nil)) rfl HSub.none ⟨rfl, rfl⟩
    · replace hc3 := of_decide_eq_false hc3
      have hwc : wcL (bl8 s) ≤ 30 := by have := hc3; omega
      refine zy rfl (ze (zf _ _ rfl rfl rfl (zb rfl (za rfl rfl (zc rfl) (za rfl rfl (zc rfl) (za rfl rfl (zV (a := 0) (c := runL (inK [1, 2]) (bl8 s)) rfl rfl rfl (by first | rfl | (show _ = _; omega)) (by first | rfl | (show _ = _; omega)) Tryz.runUnderlying9 (by omega) (by omega)) (za rfl rfl (zaa [0, 2] [.const (.int .i64 1), .tmp 27] (zv := (.agg #[(.int .i64 0), (.int .i64 0), (.string ByteArray.empty)])) rfl rfl (.cons (CellD.v rfl) (.cons CellD.s .nil)) (Tryz.runUnderlying45) Tryz.zeroValue45 zaq ⟨rfl, rfl, rfl, trivial⟩ rfl) (za rfl rfl (zc rfl) (zj rfl rfl (zK (i := 0) (X' := .agg [dI 1, dI 0, .s (s.extract 0 (runL (inK [1, 2]) (bl8 s)))]) rfl rfl rfl (CellD.agg) Tryz.sizeOf45 rfl rfl rfl) ?_)))))))))
      rintro _ _ ⟨rfl, rfl⟩
      refine OpsD.norm [.bx g1 45 (.agg [dI 1, dI 0, .s (s.extract 0 (runL (inK [1, 2]) (bl8 s)))])] rfl (za rfl rfl (zd rfl) (zg rfl (ze (JD.keep [0, 2, 3, 4] [(0, .s s), (2, dP g1 0), (3, dN (runL (inK [1, 2]) (bl8 s))), (4, .v (.int .i32 ((decR s 0 : Nat) : Int)))] rfl (zu rfl (zn (zq ?_)))))))
      exact zk Tryz.results17 (.cons (zC (zad (X := .agg [dI 1, dI 0, .s (s.extract 0 (runL (inK [1, 2]) (bl8 s)))]) (d := .agg [dI 1, dI 0, .s (s.extract 0 (runL (inK [1, 2]) (bl8 s)))]) (i := 0) rfl rfl Tryz.isAgg45 Tryz.sizeOf45 rfl rfl) (Cv.eq (congrArg TokD.d (show (TokD.mk 1 0 (s.extract 0 (runL (inK [1, 2]) (bl8 s)))) = (zF (bl8 s)).1 from (by rw [zcy q1, wordT_count (by rw [dec0]; exact q1), if_pos hwc, ← zbn (zaV _ s)]; try rfl))))) (.cons (zC (zo rfl) (Cv.eq (congrArg dN (by rw [zcy q1, wordT_count (by rw [dec0]; exact q1), if_pos hwc, ← zbn (zaV _ s)]; try rfl)))) .nil)) rfl HSub.none ⟨rfl, rfl⟩
  · replace hc2 := of_decide_eq_false hc2
    have q1 : ¬ zR ((decR s 0 : Nat) : Int) = 1 := hc2
    refine zf _ _ rfl rfl rfl (zb rfl (za rfl rfl (zU rfl rfl rfl) (za rfl rfl (zd rfl) (zg rfl (ze ?_)))))
    refine zl _ _ rfl rfl rfl rfl (fun hc4 => ?_) (fun hc4 => ?_)
    · replace hc4 := of_decide_eq_true hc4
      have q2 : zR ((decR s 0 : Nat) : Int) = 2 := hc4
      refine zf _ _ rfl rfl rfl (zb rfl (za rfl rfl (zc rfl) (zj rfl rfl (zx [] _ [] rfl rfl (.cons ArgC.id .nil) zp Tryz.call68 (rnum_c s (by omega)) (.inl rfl)) ?_)))
      rintro _ _ ⟨_, ⟨rfl, rfl⟩, rfl⟩
      refine OpsD.norm [.bx g1 45 (.agg [dI 0, dI 0, .v (.string ByteArray.empty)])] rfl (za rfl rfl (zJ rfl rfl) (za rfl rfl (zJ rfl rfl) (zj rfl rfl (zK (i := 0) (X' := TokD.d ((numT (bl8 s)).1)) rfl rfl rfl (CellD.agg) Tryz.sizeOf45 rfl rfl rfl) ?_)))
      rintro _ _ ⟨rfl, rfl⟩
      refine OpsD.norm [.bx g1 45 (TokD.d ((numT (bl8 s)).1))] rfl (za rfl rfl (zd rfl) (zg rfl (ze (JD.keep [0, 2, 3, 4] [(0, .s s), (2, dP g1 0), (3, dN ((numT (bl8 s)).2)), (4, .v (.int .i32 ((decR s 0 : Nat) : Int)))] rfl (zu rfl (zn (zq ?_)))))))
      exact zk Tryz.results17 (.cons (zC (zad (X := TokD.d ((numT (bl8 s)).1)) (d := TokD.d ((numT (bl8 s)).1)) (i := 0) rfl rfl Tryz.isAgg45 Tryz.sizeOf45 rfl rfl) (Cv.eq (congrArg TokD.d (show (numT (bl8 s)).1 = (zF (bl8 s)).1 from (by rw [firstT_2 q1 q2]; try rfl))))) (.cons (zC (zo rfl) (Cv.eq (congrArg dN (by rw [firstT_2 q1 q2]; try rfl)))) .nil)) rfl HSub.none ⟨rfl, rfl⟩
    · replace hc4 := of_decide_eq_false hc4
      have q2 : ¬ zR ((decR s 0 : Nat) : Int) = 2 := hc4
      refine zy rfl (zG (ze (zf _ _ rfl rfl rfl (zf _ _ rfl rfl rfl (zb rfl (za rfl rfl (zc rfl) (za rfl rfl (zU rfl rfl rfl) (zg rfl (ze (JD.keep [0, 2, 3, 37] [(0, .s s), (2, dP g1 0), (3, dI 0), (37, dB (decide (((decR s 0 : Nat) : Int) = (34 : Int))))] rfl ?_))))))))))
      refine zl _ _ rfl rfl rfl rfl (fun hc5 => ?_) (fun hc5 => ?_)
      · replace hc5 := of_decide_eq_true hc5
        have q3 : decR s 0 = 34 := by have := hc5; omega
        refine zf _ _ rfl rfl rfl (zf _ _ rfl rfl rfl (zb rfl (za rfl rfl (zd rfl) (zg rfl (ze (zB _ rfl rfl (zS (fun (g : Nat) => [(0, .s s), (2, dP g1 0), (7, dN g)]) (fun (g : Nat) => [.bx g1 45 (.agg [dI 0, dI 0, .v (.string ByteArray.empty)])]) (fun (g : Nat) => (RqI s g)) (fun (g : Nat) => s.size + 1 - g) _ 1 rfl rfl ⟨sk rfl, sk rfl, sc rfl (Cv.eq rfl), trivial⟩ HSub.rfl' (RqI.zero hz) ?_)))))))
        rintro i hq
        refine JD.keep [0, 2, 7] [(0, .s s), (2, dP g1 0), (7, dN i)] rfl (JD.norm [.bx g1 45 (.agg [dI 0, dI 0, .v (.string ByteArray.empty)])] rfl ?_)
        have hq1 := hq.1
        have hq2 := hq.2.1
        refine zf _ _ rfl rfl rfl (zf _ _ rfl rfl rfl (zb rfl (za rfl rfl (zc rfl) (za rfl rfl (zc rfl) (za rfl rfl (zP rfl Tryz.runUnderlying9) (za rfl rfl (z1 rfl rfl rfl) (zg rfl (ze ?_))))))))
        refine zl _ _ rfl rfl rfl rfl (fun hc6 => ?_) (fun hc6 => ?_)
        · replace hc6 := of_decide_eq_true hc6
          refine zy rfl (ze (zf _ _ rfl rfl rfl (zB _ rfl rfl (zf _ _ rfl rfl rfl (zf _ _ rfl rfl rfl (zb rfl (za rfl rfl (zc rfl) (za rfl rfl (zc rfl) ?_))))))))
          obtain ⟨u1, hu1⟩ := zaI s i (by omega)
          have hlu1 := u1.toNat_lt
          refine za rfl rfl (zM (k := i) rfl rfl Tryz.runUnderlying9 (by first | rfl | omega) hu1) (za rfl rfl (zU rfl rfl rfl) (zg rfl (ze ?_)))
          refine zl _ _ rfl rfl rfl rfl (fun hc7 => ?_) (fun hc7 => ?_)
          · replace hc7 := of_decide_eq_true hc7
            refine zf _ _ rfl rfl rfl (zb rfl (za rfl rfl (zc rfl) (za rfl rfl (z7 (c := ((i + 1 : Nat) : Int)) rfl rfl (zX (by omega) (by omega))) (za rfl rfl (zd rfl) (zg rfl (ze (zO rfl (zD (zw (ze (zb rfl (za rfl rfl (zc rfl) (za rfl rfl (z7 (c := (((i + 1) + 1 : Nat) : Int)) rfl rfl (zX (by omega) (by omega))) (za rfl rfl (zd rfl) (zg rfl ?_)))))))))))))))
            exact zZ ((i + 1) + 1) ⟨sk rfl, sk rfl, sk rfl, trivial⟩ HSub.rfl' (hq.esc hu1 (by omega)) (by omega)
          · replace hc7 := of_decide_eq_false hc7
            refine zy rfl (ze (zf _ _ rfl rfl rfl (zb rfl (za rfl rfl (zc rfl) (za rfl rfl (zc rfl) (za rfl rfl (zM (k := i) rfl rfl Tryz.runUnderlying9 (by first | rfl | omega) hu1) (za rfl rfl (zU rfl rfl rfl) (zg rfl (ze ?_)))))))))
            refine zl _ _ rfl rfl rfl rfl (fun hc8 => ?_) (fun hc8 => ?_)
            · replace hc8 := of_decide_eq_true hc8
              have hfd := hq.found hz q3 hu1 (by omega)
              refine zf _ _ rfl rfl rfl (zb rfl (za rfl rfl (zc rfl) (za rfl rfl (zc rfl) (za rfl rfl (z7 (c := ((i + 1 : Nat) : Int)) rfl rfl (zX (by omega) (by omega))) (za rfl rfl (zV (a := 0) (c := i + 1) rfl rfl rfl (by first | rfl | (show _ = _; omega)) (by first | rfl | (show _ = _; omega)) Tryz.runUnderlying9 (by omega) (by omega)) (zj rfl rfl (zx [] _ [] rfl rfl (.cons ArgC.id .nil) zp Tryz.call69 (rUnq_c (s.extract 0 (i + 1)) (by first | omega | (simp only [ByteArray.size_extract]; omega))) (.inl rfl)) ?_))))))
              rintro _ _ ⟨_, ⟨rfl, rfl⟩, rfl⟩
              refine OpsD.norm [.bx g1 45 (.agg [dI 0, dI 0, .v (.string ByteArray.empty)])] rfl (za rfl rfl (zc rfl) (za rfl rfl (zJ rfl rfl) (za rfl rfl (zJ rfl rfl) (za rfl rfl (zd rfl) (za rfl rfl (zd rfl) (zg rfl (ze (zf _ _ rfl rfl rfl (zf _ _ rfl rfl rfl (zb rfl (za rfl rfl (zc rfl) (za rfl rfl (zbr rfl) (zg rfl (ze ?_))))))))))))))
              refine zl _ _ rfl rfl rfl rfl (fun hc9 => ?_) (fun hc9 => ?_)
              · simp only [Bool.and_eq_true, Bool.or_eq_true, Bool.not_eq_true', Bool.not_eq_false', Bool.and_eq_false_iff, Bool.or_eq_false_iff, decide_eq_true_eq, decide_eq_false_iff_not, Decidable.not_not, ne_eq] at hc9
                refine zf _ _ rfl rfl rfl (zb rfl (za rfl rfl (zaa [] [] (zv := (.agg #[(.int .i64 0), (.int .i64 0), (.string ByteArray.empty)])) rfl rfl (.nil) (Tryz.runUnderlying45) Tryz.zeroValue45 zaq ⟨rfl, rfl, rfl, trivial⟩ rfl) (zj rfl rfl (zK (i := 0) (X' := .agg [dI 0, dI 0, .v (.string ByteArray.empty)]) rfl rfl rfl (CellD.agg) Tryz.sizeOf45 rfl rfl rfl) ?_)))
                rintro _ _ ⟨rfl, rfl⟩
                refine OpsD.norm [.bx g1 45 (.agg [dI 0, dI 0, .v (.string ByteArray.empty)])] rfl (za rfl rfl (zd rfl) (zg rfl (ze (zu rfl (zq (zn (zq (zam (zn (zq (zq ?_)))))))))))
                exact zk Tryz.results17 (.cons (zC (zad (X := .agg [dI 0, dI 0, .v (.string ByteArray.empty)]) (d := .agg [dI 0, dI 0, .v (.string ByteArray.empty)]) (i := 0) rfl rfl Tryz.isAgg45 Tryz.sizeOf45 rfl rfl) ((Cv.agg (.cons Cv.rfl' (.cons Cv.rfl' (.cons ((Cv.str (by first | decide | (unfold maxLen; omega)))) .nil)))).trans (Cv.eq (congrArg TokD.d (show (TokD.mk 0 0 ByteArray.empty) = (zF (bl8 s)).1 from (by rw [zbR q1 q2 q3, strT_f hfd (by omega) (by simpa using hc9)]; try rfl)))))) (.cons (zC (zo rfl) (Cv.eq (congrArg dN (by rw [zbR q1 q2 q3, strT_f hfd (by omega) (by simpa using hc9)]; try rfl)))) .nil)) rfl HSub.none ⟨rfl, rfl⟩
              · simp only [Bool.and_eq_true, Bool.or_eq_true, Bool.not_eq_true', Bool.not_eq_false', Bool.and_eq_false_iff, Bool.or_eq_false_iff, decide_eq_true_eq, decide_eq_false_iff_not, Decidable.not_not, ne_eq] at hc9
                refine zy rfl (ze (zf _ _ rfl rfl rfl (zb rfl (za rfl rfl (zc rfl) (za rfl rfl (zaa [0, 2] [.const (.int .i64 3), .tmp 65] (zv := (.agg #[(.int .i64 0), (.int .i64 0), (.string ByteArray.empty)])) rfl rfl (.cons (CellD.v rfl) (.cons CellD.s .nil)) (Tryz.runUnderlying45) Tryz.zeroValue45 zaq ⟨rfl, rfl, rfl, trivial⟩ rfl) (za rfl rfl (zc rfl) (za rfl rfl (z7 (c := ((i + 1 : Nat) : Int)) rfl rfl (zX (by omega) (by omega))) (zj rfl rfl (zK (i := 0) (X' := .agg [dI 3, dI 0, .s (unqT (s.extract 0 (i + 1)))]) rfl rfl rfl (CellD.agg) Tryz.sizeOf45 rfl rfl rfl) ?_))))))))
                rintro _ _ ⟨rfl, rfl⟩
                refine OpsD.norm [.bx g1 45 (.agg [dI 3, dI 0, .s (unqT (s.extract 0 (i + 1)))])] rfl (za rfl rfl (zd rfl) (zg rfl (ze (zu rfl (zn (zq (zam (zn (zq (zq ?_))))))))))
                exact zk Tryz.results17 (.cons (zC (zad (X := .agg [dI 3, dI 0, .s (unqT (s.extract 0 (i + 1)))]) (d := .agg [dI 3, dI 0, .s (unqT (s.extract 0 (i + 1)))]) (i := 0) rfl rfl Tryz.isAgg45 Tryz.sizeOf45 rfl rfl) (Cv.eq (congrArg TokD.d (show (TokD.mk 3 0 (unqT (s.extract 0 (i + 1)))) = (zF (bl8 s)).1 from (by rw [zbR q1 q2 q3, strT_t hfd (by omega) (by simpa using hc9)]; try rfl))))) (.cons (zC (zo rfl) (Cv.eq (congrArg dN (by rw [zbR q1 q2 q3, strT_t hfd (by omega) (by simpa using hc9)]; try rfl)))) .nil)) rfl HSub.none ⟨rfl, rfl⟩
            · replace hc8 := of_decide_eq_false hc8
              refine zy rfl (zG (ze (zb rfl (za rfl rfl (zc rfl) (za rfl rfl (z7 (c := ((i + 1 : Nat) : Int)) rfl rfl (zX (by omega) (by omega))) (za rfl rfl (zd rfl) (zg rfl ?_)))))))
              exact zZ (i + 1) ⟨sk rfl, sk rfl, sk rfl, trivial⟩ HSub.rfl' (hq.raw hu1 (by omega) (by omega)) (by omega)
        · replace hc6 := of_decide_eq_false hc6
          refine zO rfl (zD (zz (zw (ze (zf _ _ rfl rfl rfl (zb rfl (za rfl rfl (zaa [] [] (zv := (.agg #[(.int .i64 0), (.int .i64 0), (.string ByteArray.empty)])) rfl rfl (.nil) (Tryz.runUnderlying45) Tryz.zeroValue45 zaq ⟨rfl, rfl, rfl, trivial⟩ rfl) (zj rfl rfl (zK (i := 0) (X' := .agg [dI 0, dI 0, .v (.string ByteArray.empty)]) rfl rfl rfl (CellD.agg) Tryz.sizeOf45 rfl rfl rfl) ?_))))))))
          rintro _ _ ⟨rfl, rfl⟩
          refine OpsD.norm [.bx g1 45 (.agg [dI 0, dI 0, .v (.string ByteArray.empty)])] rfl (za rfl rfl (zd rfl) (zg rfl (ze (zu rfl (zq ?_)))))
          exact zk Tryz.results17 (.cons (zC (zad (X := .agg [dI 0, dI 0, .v (.string ByteArray.empty)]) (d := .agg [dI 0, dI 0, .v (.string ByteArray.empty)]) (i := 0) rfl rfl Tryz.isAgg45 Tryz.sizeOf45 rfl rfl) ((Cv.agg (.cons Cv.rfl' (.cons Cv.rfl' (.cons ((Cv.str (by first | decide | (unfold maxLen; omega)))) .nil)))).trans (Cv.eq (congrArg TokD.d (show (TokD.mk 0 0 ByteArray.empty) = (zF (bl8 s)).1 from (by rw [zbR q1 q2 q3, hq.none hz q3 (by omega)]; try rfl)))))) (.cons (zC (zo rfl) (Cv.eq (congrArg dN (by rw [zbR q1 q2 q3, hq.none hz q3 (by omega)]; try rfl)))) .nil)) rfl HSub.none ⟨rfl, rfl⟩
      · replace hc5 := of_decide_eq_false hc5
        have q3 : ¬ decR s 0 = 34 := by have := hc5; omega
        have hsg := SgI.zero (s := s) hz
        refine zy rfl (ze (zf _ _ rfl rfl rfl (zf _ _ rfl rfl rfl (zb rfl (za rfl rfl (zc rfl) (za rfl rfl (zP rfl Tryz.runUnderlying9) (za rfl rfl ((p_min rfl rfl rfl).cv (Cv.eq (congrArg dI (show min (2 : Int) ((s.size : Nat) : Int) = ((min 2 s.size : Nat) : Int) by omega)))) (za rfl rfl (zd rfl) (zg rfl (ze (zB _ rfl rfl (zS (fun (g : Nat) => [(0, .s s), (2, dP g1 0), (10, dN g)]) (fun (g : Nat) => [.bx g1 45 (.agg [dI 0, dI 0, .v (.string ByteArray.empty)])]) (fun (g : Nat) => (SgI s g)) (fun (g : Nat) => g) _ (min 2 s.size) rfl rfl ⟨sk rfl, sk rfl, sk rfl, trivial⟩ HSub.rfl' hsg ?_))))))))))))
        rintro n hg
        refine JD.keep [0, 2, 10] [(0, .s s), (2, dP g1 0), (10, dN n)] rfl (JD.norm [.bx g1 45 (.agg [dI 0, dI 0, .v (.string ByteArray.empty)])] rfl ?_)
        have hg1 := hg.1
        have hg2 := hg.2.1
        refine zf _ _ rfl rfl rfl (zf _ _ rfl rfl rfl (zb rfl (za rfl rfl (zc rfl) (za rfl rfl (zaM rfl rfl rfl) (zg rfl (ze ?_))))))
        refine zl _ _ rfl rfl rfl rfl (fun hc10 => ?_) (fun hc10 => ?_)
        · replace hc10 := of_decide_eq_true hc10
          refine zy rfl (ze (zf _ _ rfl rfl rfl (zB _ rfl rfl (zf _ _ rfl rfl rfl (zb rfl (za rfl rfl (zc rfl) (za rfl rfl (zc rfl) (za rfl rfl (zV (a := 0) (c := n) rfl rfl rfl (by first | rfl | (show _ = _; omega)) (by first | rfl | (show _ = _; omega)) Tryz.runUnderlying9 (by omega) (by omega)) (zj rfl rfl (zx [] _ [] rfl rfl (.cons ArgC.id .nil) zp Tryz.call10 (rSign_c (s.extract 0 n)) (.inl rfl)) ?_)))))))))
          rintro _ _ ⟨_, ⟨rfl, rfl⟩, rfl⟩
          refine OpsD.norm [.bx g1 45 (.agg [dI 0, dI 0, .v (.string ByteArray.empty)])] rfl (zg rfl (ze ?_))
          refine zl _ _ rfl rfl rfl rfl (fun hc11 => ?_) (fun hc11 => ?_)
          · skip
            refine zf _ _ rfl rfl rfl (zb rfl (za rfl rfl (zc rfl) (za rfl rfl (zc rfl) (za rfl rfl (zV (a := 0) (c := n) rfl rfl rfl (by first | rfl | (show _ = _; omega)) (by first | rfl | (show _ = _; omega)) Tryz.runUnderlying9 (by omega) (by omega)) (za rfl rfl (zaa [0, 2] [.const (.int .i64 5), .tmp 83] (zv := (.agg #[(.int .i64 0), (.int .i64 0), (.string ByteArray.empty)])) rfl rfl (.cons (CellD.v rfl) (.cons CellD.s .nil)) (Tryz.runUnderlying45) Tryz.zeroValue45 zaq ⟨rfl, rfl, rfl, trivial⟩ rfl) (za rfl rfl (zc rfl) (zj rfl rfl (zK (i := 0) (X' := .agg [dI 5, dI 0, .s (s.extract 0 n)]) rfl rfl rfl (CellD.agg) Tryz.sizeOf45 rfl rfl rfl) ?_)))))))
            rintro _ _ ⟨rfl, rfl⟩
            refine OpsD.norm [.bx g1 45 (.agg [dI 5, dI 0, .s (s.extract 0 n)])] rfl (za rfl rfl (zd rfl) (zg rfl (ze (zu rfl (zn (zq (zam (zn (zq ?_)))))))))
            exact zk Tryz.results17 (.cons (zC (zad (X := .agg [dI 5, dI 0, .s (s.extract 0 n)]) (d := .agg [dI 5, dI 0, .s (s.extract 0 n)]) (i := 0) rfl rfl Tryz.isAgg45 Tryz.sizeOf45 rfl rfl) (Cv.eq (congrArg TokD.d (show (TokD.mk 5 0 (s.extract 0 n)) = (zF (bl8 s)).1 from (by rw [zcx q1 q2 q3, hg.yes (by omega) (by simpa using hc11)]; try rfl))))) (.cons (zC (zo rfl) (Cv.eq (congrArg dN (by rw [zcx q1 q2 q3, hg.yes (by omega) (by simpa using hc11)]; try rfl)))) .nil)) rfl HSub.none ⟨rfl, rfl⟩
          · skip
            refine zy rfl (zG (ze (zb rfl (za rfl rfl (zc rfl) (za rfl rfl (zcG (c := ((n - 1 : Nat) : Int)) rfl rfl (zX (by omega) (by omega))) (za rfl rfl (zd rfl) (zg rfl ?_)))))))
            exact zZ (n - 1) ⟨sk rfl, sk rfl, sk rfl, trivial⟩ HSub.rfl' (hg.next (by omega) (by simpa using hc11)) (by omega)
        · replace hc10 := of_decide_eq_false hc10
          refine zO rfl (zD (zz (zw (ze (zf _ _ rfl rfl rfl (zb rfl (za rfl rfl (zaa [] [] (zv := (.agg #[(.int .i64 0), (.int .i64 0), (.string ByteArray.empty)])) rfl rfl (.nil) (Tryz.runUnderlying45) Tryz.zeroValue45 zaq ⟨rfl, rfl, rfl, trivial⟩ rfl) (zj rfl rfl (zK (i := 0) (X' := .agg [dI 0, dI 0, .v (.string ByteArray.empty)]) rfl rfl rfl (CellD.agg) Tryz.sizeOf45 rfl rfl rfl) ?_))))))))
          rintro _ _ ⟨rfl, rfl⟩
          refine OpsD.norm [.bx g1 45 (.agg [dI 0, dI 0, .v (.string ByteArray.empty)])] rfl (za rfl rfl (zd rfl) (zg rfl (ze (zu rfl ?_))))
          exact zk Tryz.results17 (.cons (zC (zad (X := .agg [dI 0, dI 0, .v (.string ByteArray.empty)]) (d := .agg [dI 0, dI 0, .v (.string ByteArray.empty)]) (i := 0) rfl rfl Tryz.isAgg45 Tryz.sizeOf45 rfl rfl) ((Cv.agg (.cons Cv.rfl' (.cons Cv.rfl' (.cons ((Cv.str (by first | decide | (unfold maxLen; omega)))) .nil)))).trans (Cv.eq (congrArg TokD.d (show (TokD.mk 0 0 ByteArray.empty) = (zF (bl8 s)).1 from (by rw [zcx q1 q2 q3, hg.no (by omega)]; try rfl)))))) (.cons (zC (zo rfl) (Cv.eq (congrArg dN (by rw [zcx q1 q2 q3, hg.no (by omega)]; try rfl)))) .nil)) rfl HSub.none ⟨rfl, rfl⟩

set_option maxHeartbeats 4000000 in
set_option maxRecDepth 100000 in
theorem rWords_c (s : ByteArray)  :
    CD Tryz.prog 7 [] [.s s] (fun r H' => ∃ v0_, r = .tup [.ov v0_, dI (lexE s)] ∧ H' = [.sl v0_ 3 45 ((lexL s).map TokD.d)]) := by
  refine zH Tryz.func7 rfl (N := 42) rfl rfl (fun C => ?_)
  refine JD.keep [0] [(0, .s s)] rfl ?_
  refine JD.bd 0 rfl (fun bd0 => ?_)
  have sz0 : s.size ≤ 9223372036854775807 := bd0
  refine zf _ _ rfl rfl rfl (zb rfl (za rfl rfl (zd rfl) (za rfl rfl (zd rfl) (zg rfl (ze (zf _ _ rfl rfl rfl (zf _ _ rfl rfl rfl (zb rfl (za rfl rfl (zc rfl) (za rfl rfl (zP rfl Tryz.runUnderlying9) (za rfl rfl (zaM rfl rfl rfl) (zg rfl (ze ?_)))))))))))))
  refine zl _ _ rfl rfl rfl rfl (fun hc1 => ?_) (fun hc1 => ?_)
  · replace hc1 := of_decide_eq_true hc1
    have hlong : 600 < s.size := by have := hc1; omega
    refine zf _ _ rfl rfl rfl (zb rfl (za rfl rfl (zd rfl) (za rfl rfl (zd rfl) (zg rfl (ze (zu rfl (zq (PD.subH (HSub.nil 3 45) (PD.norm [.sl (.slice none 0 0) 3 45 ((lexL s).map TokD.d)] (by have hw : [] = lexL s := (by first | exact (zcs hlong).1 | exact (zcs hlong).2); rw [show ([] : List D) = List.map TokD.d (lexL s) from congrArg (List.map TokD.d) hw]) ?_)))))))))
    exact zk Tryz.results7 (.cons (zC (zo rfl) (Cv.ov rfl)) (.cons (zC (zo rfl) (Cv.eq (congrArg (fun n => D.v (.int .i64 n)) (by first | exact (zcs hlong).1 | exact (zcs hlong).2)))) .nil)) rfl (HSub.fst 1 rfl) ⟨(.slice none 0 0), rfl, rfl⟩
  · replace hc1 := of_decide_eq_false hc1
    have hshort : ¬ 600 < s.size := by have := hc1; omega
    refine zy rfl (ze (zf _ _ rfl rfl rfl (zb rfl (za rfl rfl (zd rfl) (zg rfl (ze (zf _ _ rfl rfl rfl (zf _ _ rfl rfl rfl (zb rfl (za rfl rfl (zd rfl) (zg rfl (ze (zB _ rfl rfl (zS (fun (g : Nat × Value × List TokD) => [(0, .s s), (5, dN g.1), (4, .ov g.2.1)]) (fun (g : Nat × Value × List TokD) => [.sl g.2.1 3 45 (g.2.2.map TokD.d)]) (fun (g : Nat × Value × List TokD) => (WI s g.1 g.2.2) ∧ (g.1 ≤ s.size) ∧ (g.2.2.length ≤ g.1)) (fun (g : Nat × Value × List TokD) => s.size - g.1) _ (0, .slice none 0 0, []) rfl rfl ⟨sk rfl, sk rfl, sc rfl (Cv.ov rfl), trivial⟩ (HSub.nil 3 45) ⟨WI.zero, Nat.zero_le _, Nat.zero_le _⟩ ?_))))))))))))))
    rintro ⟨i, ov, out⟩ ⟨hw, hp, ho⟩
    replace hw : WI s i out := hw
    replace hp : i ≤ s.size := hp
    replace ho : out.length ≤ i := ho
    refine JD.keep [0, 5, 4] [(0, .s s), (5, dN i), (4, .ov ov)] rfl (JD.norm [.sl ov 3 45 (out.map TokD.d)] rfl (zf _ _ rfl rfl rfl (zf _ _ rfl rfl rfl (zb rfl (za rfl rfl (zc rfl) (za rfl rfl (zc rfl) (za rfl rfl (zP rfl Tryz.runUnderlying9) (za rfl rfl (z1 rfl rfl rfl) (zg rfl (ze ?_))))))))))
    refine zl _ _ rfl rfl rfl rfl (fun hc2 => ?_) (fun hc2 => ?_)
    · replace hc2 := of_decide_eq_true hc2
      have hlt : i < s.size := by have := hc2; omega
      have hfr := first_run_le (s := s) (p := i) hp
      refine zy rfl (ze (zB _ rfl rfl (zf _ _ rfl rfl rfl (zf _ _ rfl rfl rfl (zb rfl (za rfl rfl (zc rfl) (za rfl rfl (zc rfl) (za rfl rfl (zV (a := i) (c := s.size) rfl rfl rfl (by first | rfl | (show _ = _; omega)) (by first | rfl | (show _ = _; omega)) Tryz.runUnderlying9 (by omega) (by omega)) (zj rfl rfl (zx [] _ [] rfl rfl (.cons ArgC.id .nil) zp Tryz.call16 (rfirst_c (s.extract i s.size) (by first | omega | (simp only [ByteArray.size_extract]; omega))) (.inl rfl)) ?_)))))))))
      rintro _ _ ⟨_, ⟨rfl, rfl⟩, rfl⟩
      refine OpsD.norm [.sl ov 3 45 (out.map TokD.d)] rfl (zj rfl rfl (zx [] _ [] rfl rfl (.cons ArgC.id .nil) zp Tryz.call15 (refKind_c ((decR (s.extract i s.size) 0 : Nat) : Int)) (.inl rfl)) ?_)
      rintro _ _ ⟨_, ⟨rfl, rfl⟩, rfl⟩
      refine OpsD.norm [.sl ov 3 45 (out.map TokD.d)] rfl (za rfl rfl (zU rfl rfl rfl) (zg rfl (ze ?_)))
      refine zl _ _ rfl rfl rfl rfl (fun hc3 => ?_) (fun hc3 => ?_)
      · replace hc3 := of_decide_eq_true hc3
        have hb : zR ((decR (s.extract i s.size) 0 : Nat) : Int) = 3 := hc3
        refine zf _ _ rfl rfl rfl (zb rfl (za rfl rfl (zc rfl) (za rfl rfl (z7 (c := ((i + 1 : Nat) : Int)) rfl rfl (zX (by omega) (by omega))) (za rfl rfl (zd rfl) (zg rfl (ze (zO rfl (zD (zw (PD.norm [.sl ov 3 45 (out.map TokD.d)] rfl ?_))))))))))
        exact zZ (i + 1, ov, out) ⟨sk rfl, sk rfl, sk rfl, trivial⟩ HSub.rfl' ⟨hw.blank hlt hb, by omega, by show out.length ≤ i + 1; omega⟩ (by omega)
      · replace hc3 := of_decide_eq_false hc3
        have hb : ¬ zR ((decR (s.extract i s.size) 0 : Nat) : Int) = 3 := hc3
        refine zy rfl (ze (zf _ _ rfl rfl rfl (zb rfl (za rfl rfl (zc rfl) (za rfl rfl (zc rfl) (za rfl rfl (zV (a := i) (c := s.size) rfl rfl rfl (by first | rfl | (show _ = _; omega)) (by first | rfl | (show _ = _; omega)) Tryz.runUnderlying9 (by omega) (by omega)) (zj rfl rfl (zx [] _ [] rfl rfl (.cons ArgC.id .nil) zp Tryz.call17 (rtok_c (s.extract i s.size) (by first | omega | (simp only [ByteArray.size_extract]; omega)) (by first | omega | (simp only [ByteArray.size_extract]; omega))) (.inl rfl)) ?_)))))))
        rintro _ _ ⟨_, ⟨rfl, rfl⟩, rfl⟩
        refine OpsD.norm [.sl ov 3 45 (out.map TokD.d)] rfl (za rfl rfl (zc rfl) (za rfl rfl (zJ rfl rfl) (za rfl rfl (zJ rfl rfl) (zj rfl rfl (zbo (zv := (.agg #[(.int .i64 0), (.int .i64 0), (.string ByteArray.empty)])) Tryz.zeroValue45 ⟨rfl, rfl, rfl, trivial⟩ (Cv.vagg (by decide))) ?_))))
        rintro _ _ ⟨g4, rfl, rfl⟩
        refine zj rfl rfl (zK (i := 0) (X' := TokD.d ((zF (bl8 (s.extract i s.size))).1)) rfl rfl rfl (CellD.agg) Tryz.sizeOf45 rfl rfl rfl) ?_
        rintro _ _ ⟨rfl, rfl⟩
        refine OpsD.norm [.bx g4 45 (TokD.d ((zF (bl8 (s.extract i s.size))).1)), .sl ov 3 45 (out.map TokD.d)] rfl (za rfl rfl (zd rfl) (zg rfl (ze (zf _ _ rfl rfl rfl (zf _ _ rfl rfl rfl (zb rfl (za rfl rfl (zc rfl) (za rfl rfl (zU rfl rfl rfl) (zg rfl (ze ?_))))))))))
        refine zl _ _ rfl rfl rfl rfl (fun hc5 => ?_) (fun hc5 => ?_)
        · replace hc5 := of_decide_eq_true hc5
          have hbad : (zF (bl8 (s.extract i s.size))).2 = 0 := by have := hc5; omega
          refine zf _ _ rfl rfl rfl (zb rfl (za rfl rfl (zd rfl) (za rfl rfl (zd rfl) (zg rfl (ze (zu rfl (zq (zn (zam (zn (zq (PD.subH (HSub.nil 3 45) (PD.norm [.sl (.slice none 0 0) 3 45 ((lexL s).map TokD.d), .bx g4 45 (TokD.d ((zF (bl8 (s.extract i s.size))).1)), .sl ov 3 45 (out.map TokD.d)] (by have hw : [] = lexL s := (by first | exact (zc1 hshort (hw.bad hlt hb hbad)).1 | exact (zc1 hshort (hw.bad hlt hb hbad)).2); rw [show ([] : List D) = List.map TokD.d (lexL s) from congrArg (List.map TokD.d) hw]) ?_)))))))))))))
          exact zk Tryz.results7 (.cons (zC (zo rfl) (Cv.ov rfl)) (.cons (zC (zo rfl) (Cv.eq (congrArg (fun n => D.v (.int .i64 n)) (by first | exact (zc1 hshort (hw.bad hlt hb hbad)).1 | exact (zc1 hshort (hw.bad hlt hb hbad)).2)))) .nil)) rfl (HSub.fst 1 rfl) ⟨(.slice none 0 0), rfl, rfl⟩
        · replace hc5 := of_decide_eq_false hc5
          have hn0 : ¬ (zF (bl8 (s.extract i s.size))).2 = 0 := by have := hc5; omega
          refine zy rfl (ze (zf _ _ rfl rfl rfl (zb rfl (za rfl rfl (zc rfl) (za rfl rfl (zE rfl fa_45_1 rfl) (zj rfl rfl (zK (i := 0) (X' := .agg [dI (((zF (bl8 (s.extract i s.size))).1).k), dN i, .s (((zF (bl8 (s.extract i s.size))).1).t)]) rfl rfl rfl (CellD.v rfl) Tryz.sizeOf3 rfl rfl rfl) ?_))))))
          rintro _ _ ⟨rfl, rfl⟩
          refine OpsD.norm [.bx g4 45 (.agg [dI (((zF (bl8 (s.extract i s.size))).1).k), dN i, .s (((zF (bl8 (s.extract i s.size))).1).t)]), .sl ov 3 45 (out.map TokD.d)] rfl (zg rfl (ze (zf _ _ rfl rfl rfl (zb rfl (za rfl rfl (zc rfl) (za rfl rfl (p_load_bx (d := .agg [dI (((zF (bl8 (s.extract i s.size))).1).k), dN i, .s (((zF (bl8 (s.extract i s.size))).1).t)]) rfl (i := 0) rfl Tryz.isAgg45 Tryz.sizeOf45 rfl rfl) (zj rfl rfl (Qu.ef (d := .sh 3 ([(TokD.mk (((zF (bl8 (s.extract i s.size))).1).k) ((i : Nat) : Int) (((zF (bl8 (s.extract i s.size))).1).t))].map TokD.d)) (zaz [.tmp 35] rfl rfl (.cons CellD.agg .nil) rfl Tryz.runUnderlying36 Tryz.sizeOf45 Tryz.zeroValue45 rfl rfl rfl rfl)) ?_)))))))
          rintro _ _ ⟨rfl, rfl⟩
          refine zj rfl rfl (zaj (f := TokD.d) (l := out) (l' := [(TokD.mk (((zF (bl8 (s.extract i s.size))).1).k) ((i : Nat) : Int) (((zF (bl8 (s.extract i s.size))).1).t))]) (i := 1) rfl rfl rfl (SrcD.sh) zcK zcf rfl rfl (by unfold maxLen; (try simp only [la, lc, ln, lm, lt', ld, ls, lr]); omega) (by (try simp only [la, lc, ln, lm, lt', ld, ls, lr]); omega)) ?_
          rintro _ _ ⟨v6, rfl, rfl⟩
          refine OpsD.norm [.bx g4 45 (.agg [dI (((zF (bl8 (s.extract i s.size))).1).k), dN i, .s (((zF (bl8 (s.extract i s.size))).1).t)]), .sl v6 3 45 ((out ++ [(TokD.mk (((zF (bl8 (s.extract i s.size))).1).k) ((i : Nat) : Int) (((zF (bl8 (s.extract i s.size))).1).t))]).map TokD.d)] rfl (za rfl rfl (zd rfl) (zg rfl (ze (zb rfl (za rfl rfl (zc rfl) (za rfl rfl (zc rfl) (za rfl rfl (z7 (c := ((i + ((zF (bl8 (s.extract i s.size))).2) : Nat) : Int)) rfl rfl (zX (by omega) (by omega))) (za rfl rfl (zd rfl) (zg rfl (zG (PD.subH (HSub.perm (zm (i := 1) rfl)) (PD.norm [.sl v6 3 45 ((out ++ [(TokD.mk (((zF (bl8 (s.extract i s.size))).1).k) ((i : Nat) : Int) (((zF (bl8 (s.extract i s.size))).1).t))]).map TokD.d), .bx g4 45 (.agg [dI (((zF (bl8 (s.extract i s.size))).1).k), dN i, .s (((zF (bl8 (s.extract i s.size))).1).t)])] rfl (PD.subH (HSub.fst 1 rfl) (PD.norm [.sl v6 3 45 ((out ++ [(TokD.mk (((zF (bl8 (s.extract i s.size))).1).k) ((i : Nat) : Int) (((zF (bl8 (s.extract i s.size))).1).t))]).map TokD.d)] rfl ?_))))))))))))))
          exact zZ (i + ((zF (bl8 (s.extract i s.size))).2), v6, (out ++ [(TokD.mk (((zF (bl8 (s.extract i s.size))).1).k) ((i : Nat) : Int) (((zF (bl8 (s.extract i s.size))).1).t))])) ⟨sk rfl, sk rfl, sk rfl, trivial⟩ HSub.rfl' ⟨hw.next hlt hb hn0, by omega, by (try simp only [la, List.length_singleton]); omega⟩ (by omega)
    · replace hc2 := of_decide_eq_false hc2
      have hge : s.size ≤ i := by have := hc2; omega
      refine zO rfl (zD (zz (zw (ze (zf _ _ rfl rfl rfl (zb rfl (za rfl rfl (zc rfl) (za rfl rfl (zd rfl) (za rfl rfl (zd rfl) (zg rfl (ze (zu rfl (PD.norm [.sl ov 3 45 ((lexL s).map TokD.d)] (by have hw : out = lexL s := (by first | exact (zdj hshort (hw.done hge)).1 | exact (zdj hshort (hw.done hge)).2); rw [hw]) ?_)))))))))))))
      exact zk Tryz.results7 (.cons (zo rfl) (.cons (zC (zo rfl) (Cv.eq (congrArg (fun n => D.v (.int .i64 n)) (by first | exact (zdj hshort (hw.done hge)).1 | exact (zdj hshort (hw.done hge)).2)))) .nil)) rfl (HSub.fst 1 rfl) ⟨ov, rfl, rfl⟩
end Lp
/-
  The tree of a merge, as data; places in lists; the document's own merge.
-/
set_option linter.unusedVariables false
namespace Lp
open Go Go.RowKit

/-- What is left of lists of which so many rows are taken. -/
def rest (ll : LLs) (c : List Nat) : LLs := List.zipWith (fun l n => l.drop n) ll c
end Lp
namespace Lp
end Lp
namespace Lp
open Go
end Lp
/-
  Lists that are kept, marked, grown: plain data.
-/
set_option linter.unusedVariables false
namespace Lp
open Go
/-- marks of the list i, from a place on -/
def mkL {α : Type} (g : Nat → Nat → α) (i f n : Nat) : List α := (List.range' f n).map (g i)
section
variable {α : Type} {g : Nat → Nat → α}
theorem zaN {i f n : Nat} : (mkL g i f n).length = n := by unfold mkL; simp
theorem mkL_app {i f n m : Nat} : mkL g i f n ++ mkL g i (f + n) m = mkL g i f (n + m) := by
  unfold mkL; rw [← List.map_append, List.range'_append_1]
theorem mkL_succ {i f n : Nat} : mkL g i f (n + 1) = mkL g i f n ++ [g i (f + n)] := by rw [← mkL_app]; rfl
theorem mkL_take {i f n m : Nat} (h : n ≤ m) : (mkL g i f m).take n = mkL g i f n := by
  obtain ⟨k, rfl⟩ := Nat.le.dest h
  rw [← mkL_app, List.take_left' zaN]
theorem mkL_more {i n m : Nat} {l l2 : List α} (h : l = mkL g i 0 n) (h2 : l2 = mkL g i n m) : l ++ l2 = mkL g i 0 (n + m) := by
  rw [h, h2]; have := mkL_app (g := g) (i := i) (f := 0) (n := n) (m := m); rwa [Nat.zero_add] at this
/-- what marking leaves -/
def putK (g : Nat → Nat → α) (K : List (Kp α)) : List (Kp α) := K.mapIdx (fun i p => ⟨p.v, mkL g i 0 p.l.length⟩)
theorem putK_len {K : List (Kp α)} : (putK g K).length = K.length := by unfold putK; simp
theorem putK_get {K : List (Kp α)} {i : Nat} {x : Kp α} (h : K[i]? = some x) : (putK g K)[i]? = some ⟨x.v, mkL g i 0 x.l.length⟩ := by unfold putK; rw [List.getElem?_mapIdx, h]; rfl
theorem putK_d {K : List (Kp α)} : (putK g K).map Kp.d = K.map Kp.d := by
  apply List.ext_getElem?; intro i
  unfold putK
  rw [List.getElem?_map, List.getElem?_map, List.getElem?_mapIdx]
  cases K[i]? <;> rfl
theorem putK_marked {K : List (Kp α)} : ∀ i x, (putK g K)[i]? = some x → x.l = mkL g i 0 x.l.length := by
  intro i x h
  unfold putK at h
  rw [List.getElem?_mapIdx] at h
  cases e : K[i]? with
  | none => rw [e] at h; cases h
  | some y => rw [e] at h; injection h with h; subst h; rw [zaN]
theorem putK_light {K : List (Kp α)} {N : Nat} (h : ∀ x ∈ K, x.l.length ≤ N) : ∀ x ∈ putK g K, x.l.length ≤ N := by
  intro x hx
  obtain ⟨i, he⟩ := List.mem_iff_getElem?.1 hx
  unfold putK at he
  rw [List.getElem?_mapIdx] at he
  cases e : K[i]? with
  | none => rw [e] at he; cases he
  | some y => rw [e] at he; injection he with he; subst he; rw [zaN]; exact h _ (List.mem_of_getElem? e)
theorem putK_step {K : List (Kp α)} {i : Nat} {x : Kp α} (h : K[i]? = some x) : (putK g K).take i ++ [⟨x.v, mkL g i 0 x.l.length⟩] = (putK g K).take (i + 1) := (za9 (putK_get h)).symm
/-- grown so far -/
structure Grown (g : Nat → Nat → α) (K : List (Kp α)) (G : List (K2 α)) : Prop where
  v0 : G.map K2.d0 = K.map Kp.d
  at_ : ∀ i y, G[i]? = some y → y.l = mkL g i 0 (y.m + 72) ∧ y.m ≤ 1000000
theorem Grown.nil : Grown g [] [] := ⟨rfl, fun i y h => by simp at h⟩
theorem Grown.len {K : List (Kp α)} {G : List (K2 α)} (h : Grown g K G) : G.length = K.length := by have := congrArg List.length h.v0; simpa using this
theorem Grown.snoc {K : List (Kp α)} {G : List (K2 α)} {i : Nat} {x : Kp α} {v' : Value} {l : List α} (h : Grown g (K.take i) G) (hx : K[i]? = some x) (hl : l = mkL g i 0 (x.l.length + 72)) (hb : x.l.length ≤ 1000000) : Grown g (K.take (i + 1)) (G ++ [⟨x.v, v', x.l.length, l⟩]) := by
  have hi := zdv hx
  have hlen := h.len
  rw [List.length_take] at hlen
  refine ⟨by rw [za9 hx, List.map_append, List.map_append, h.v0]; rfl, fun j y hj => ?_⟩
  rcases Nat.lt_or_ge j G.length with hlt | hge
  · rw [List.getElem?_append_left hlt] at hj; exact h.at_ j y hj
  · rw [List.getElem?_append_right hge] at hj
    have hj0 : j - G.length = 0 := by have := zdv hj; simp at this; omega
    rw [hj0] at hj
    injection hj with hj; subst hj
    have : j = i := by omega
    subst this
    exact ⟨hl, hb⟩
end
end Lp
/- Walks, printed by a program of mine. -/
set_option linter.unusedSimpArgs false
set_option linter.unusedVariables false
namespace Lp
open Go Go.RowKit Go.Proofs

namespace HdYtoanlikkhjohpaaGreatDoorV26
theorem zcz (b o : Nat) : ∀ w, (Instr.fieldAt 35 (.pointer (some ⟨b, o, none⟩)) 16).run Tryz.prog w = .ok (.pointer (some ⟨b, o + 16, none⟩)) w := fun _ => by kernel_rfl
theorem zc3 (b o : Nat) : ∀ w, (Instr.fieldAt 35 (.pointer (some ⟨b, o, none⟩)) 2).run Tryz.prog w = .ok (.pointer (some ⟨b, o + 2, none⟩)) w := fun _ => by kernel_rfl
end HdYtoanlikkhjohpaaGreatDoorV26
open HdYtoanlikkhjohpaaGreatDoorV26

end Lp
/- Walks, printed by a program of mine. -/
set_option linter.unusedSimpArgs false
set_option linter.unusedVariables false
namespace Lp
open Go Go.RowKit Go.Proofs

namespace HdYtoanlikkhjohpaaGreatDoorV27
theorem zcz (b o : Nat) : ∀ w, (Instr.fieldAt 35 (.pointer (some ⟨b, o, none⟩)) 16).run Tryz.prog w = .ok (.pointer (some ⟨b, o + 16, none⟩)) w := fun _ => by kernel_rfl
theorem zc3 (b o : Nat) : ∀ w, (Instr.fieldAt 35 (.pointer (some ⟨b, o, none⟩)) 2).run Tryz.prog w = .ok (.pointer (some ⟨b, o + 2, none⟩)) w := fun _ => by kernel_rfl
end HdYtoanlikkhjohpaaGreatDoorV27
open HdYtoanlikkhjohpaaGreatDoorV27

end Lp
