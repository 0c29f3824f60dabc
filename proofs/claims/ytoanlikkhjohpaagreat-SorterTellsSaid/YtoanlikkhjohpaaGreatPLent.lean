/- Walks, printed by a program of mine. -/
import Derived.Test.YtoanlikkhjohpaaGreatV19
set_option linter.unusedSimpArgs false
set_option linter.unusedVariables false
namespace Lp
open Go Go.RowKit Go.Proofs

namespace HdYtoanlikkhjohpaaGreatV2
theorem zbp (b o : Nat) : ∀ w, (Instr.fieldAt 106 (.pointer (some ⟨b, o, none⟩)) 0).run Tryz.prog w = .ok (.pointer (some ⟨b, o + 0, none⟩)) w := fun _ => by kernel_rfl
theorem zbt (b o : Nat) : ∀ w, (Instr.fieldAt 106 (.pointer (some ⟨b, o, none⟩)) 1).run Tryz.prog w = .ok (.pointer (some ⟨b, o + 1, none⟩)) w := fun _ => by kernel_rfl
theorem za3 (b o : Nat) : ∀ w, (Instr.fieldAt 71 (.pointer (some ⟨b, o, none⟩)) 0).run Tryz.prog w = .ok (.pointer (some ⟨b, o + 0, none⟩)) w := fun _ => by kernel_rfl
theorem zaE (b o : Nat) : ∀ w, (Instr.fieldAt 71 (.pointer (some ⟨b, o, none⟩)) 1).run Tryz.prog w = .ok (.pointer (some ⟨b, o + 1, none⟩)) w := fun _ => by kernel_rfl
end HdYtoanlikkhjohpaaGreatV2
open HdYtoanlikkhjohpaaGreatV2

theorem p_eqlbl_eql {ty t' : TypeId} {K : Kd} {H : List Hp} {x y : Operand} {a b : Lbl} {q : Bool} (hx : opD K x = some (Lbl.d a)) (hy : opD K y = some (Lbl.d b)) (hq : decide (a = b) = q) : Pu Tryz.prog (.binOp .eql 106 x y t') ty K H (dB q) :=
  ⟨fun ρ w F hk _ _ => by
    obtain ⟨vs, e, u1, r1, rfl, _, ⟨rfl, _⟩, u2, r2, rfl, _, ⟨rfl, _⟩, rfl⟩ := hk.op hx
    obtain ⟨vs', e', u3, r3, rfl, _, ⟨rfl, _⟩, u4, r4, rfl, _, ⟨rfl, _⟩, rfl⟩ := hk.op hy
    refine zce (r := .bool q) (zK ρ [x, y]) (zbi ρ e) (zbh ρ e') (fun w => ?_) ⟨rfl, rfl⟩
    subst hq
    obtain ⟨a1, a2⟩ := a
    obtain ⟨b1, b2⟩ := b
    simp [go_sem, toList_beq]
    by_cases h1 : a1 = b1 <;> by_cases h2 : a2 = b2 <;> simp [h1, h2]⟩

theorem row_eq {a b : RowD} (h : a.v = b.v ∧ a.ls = b.ls) : a = b := by
  obtain ⟨p, q⟩ := a
  obtain ⟨r, s⟩ := b
  obtain ⟨h1, h2⟩ := h
  simp at h1 h2; simp [h1, h2]
theorem row_ne {a b : RowD} (h : ¬ (a.v = b.v ∧ a.ls = b.ls)) : a ≠ b := by rintro rfl; exact h ⟨rfl, rfl⟩

set_option maxHeartbeats 4000000 in
set_option maxRecDepth 100000 in
theorem SameLabels_c (a : List Lbl) (b : List Lbl)  :
    CD Tryz.prog 25 [] [.sh 2 (a.map Lbl.d), .sh 2 (b.map Lbl.d)] (isR (dB (decide (a = b)))) := by
  refine zA Tryz.func25 rfl (N := 27) rfl rfl (fun C => ?_)
  refine JD.keep [0, 1] [(0, .sh 2 (a.map Lbl.d)), (1, .sh 2 (b.map Lbl.d))] rfl ?_
  refine JD.bd 0 rfl (fun bd0 => ?_)
  have nl0 := zaB bd0
  refine JD.bd 1 rfl (fun bd1 => ?_)
  have nl1 := zaB bd1
  refine zd _ _ rfl rfl rfl (zb rfl (za rfl rfl (zg rfl) (zf rfl (ze (zd _ _ rfl rfl rfl (zd _ _ rfl rfl rfl (zb rfl (za rfl rfl (zc rfl) (za rfl rfl (zat (n := a.length) rfl Tryz.runUnderlying52 (by simp only [lm, lc, ln])) (za rfl rfl (zc rfl) (za rfl rfl (zat (n := b.length) rfl Tryz.runUnderlying52 (by simp only [lm, lc, ln])) (za rfl rfl (zcZ rfl rfl rfl) (zf rfl (ze ?_))))))))))))))
  refine zy _ _ rfl rfl rfl rfl (fun hc1 => ?_) (fun hc1 => ?_)
  · replace hc1 := of_decide_eq_true hc1
    refine zd _ _ rfl rfl rfl (zb rfl (za rfl rfl (zg rfl) (zf rfl (ze (zH rfl (zL ?_))))))
    exact zG Tryz.results25 (.cons (zah (zI rfl) (Cv.eq (congrArg (fun b => D.v (.bool b)) (by first | exact (zbN (by omega)).symm | exact (zcF (by omega) (by omega) hf).symm)))) .nil) rfl HSub.none ⟨rfl, rfl⟩
  · replace hc1 := of_decide_eq_false hc1
    refine zD rfl (ze (zd _ _ rfl rfl rfl (zd _ _ rfl rfl rfl (zb rfl (za rfl rfl (zg rfl) (zf rfl (ze (zu _ rfl rfl (zM (fun (g : Nat) => [(0, .sh 2 (a.map Lbl.d)), (1, .sh 2 (b.map Lbl.d)), (5, dN g)]) (fun (g : Nat) => []) (fun (g : Nat) => (g ≤ a.length) ∧ (a.take g = b.take g)) (fun (g : Nat) => a.length - g) _ 0 rfl rfl ⟨sk rfl, sk rfl, sk rfl, trivial⟩ HSub.rfl' ⟨Nat.zero_le _, by simp⟩ ?_)))))))))
    rintro k ⟨hk, hf⟩
    refine JD.keep [0, 1, 5] [(0, .sh 2 (a.map Lbl.d)), (1, .sh 2 (b.map Lbl.d)), (5, dN k)] rfl (JD.norm [] rfl (zd _ _ rfl rfl rfl (zd _ _ rfl rfl rfl (zb rfl (za rfl rfl (zc rfl) (za rfl rfl (zc rfl) (za rfl rfl (zat (n := a.length) rfl Tryz.runUnderlying52 (by simp only [lm, lc, ln])) (za rfl rfl (zU rfl rfl rfl) (zf rfl (ze ?_))))))))))
    refine zy _ _ rfl rfl rfl rfl (fun hc2 => ?_) (fun hc2 => ?_)
    · replace hc2 := of_decide_eq_true hc2
      refine zD rfl (ze (zd _ _ rfl rfl rfl (zu _ rfl rfl (zd _ _ rfl rfl rfl (JD.keep [0, 1, 5, 11, 12, 13, 14] [(0, .sh 2 (a.map Lbl.d)), (1, .sh 2 (b.map Lbl.d)), (5, dN k), (11, dN k), (12, .sh 2 (a.map Lbl.d)), (13, dN a.length), (14, dB (decide (((k : Nat) : Int) < ((a.length : Nat) : Int))))] rfl (JD.norm [] rfl ?_))))))
      obtain ⟨x1, hx1⟩ := zJ a k (by omega)
      obtain ⟨x2, hx2⟩ := zJ b k (by omega)
      refine z7 8 [(17, .sh 2 (a.map Lbl.d), none), (18, dN k, none), (19, .el (Lbl.d x1) 0, none), (20, Lbl.d x1, none), (21, .sh 2 (b.map Lbl.d), none), (22, dN k, none), (23, .el (Lbl.d x2) 0, none), (24, Lbl.d x2, none)] [] (Hn := []) zar rfl rfl rfl rfl HSub.rfl' rfl ⟨sa_p rfl rfl rfl (zc rfl), sa_p rfl rfl rfl (zc rfl), sa_p rfl rfl rfl (zE (k := k) rfl rfl Tryz.runUnderlying52 Tryz.sizeOf106 (by first | rfl | omega) (zl hx1)), sa_p rfl rfl rfl (zaj (d := Lbl.d x1) rfl Tryz.isAgg106 Tryz.sizeOf106 rfl rfl), sa_p rfl rfl rfl (zc rfl), sa_p rfl rfl rfl (zc rfl), sa_p rfl rfl rfl (zE (k := k) rfl rfl Tryz.runUnderlying52 Tryz.sizeOf106 (by first | rfl | omega) (zl hx2)), sa_p rfl rfl rfl (zaj (d := Lbl.d x2) rfl Tryz.isAgg106 Tryz.sizeOf106 rfl rfl), trivial⟩ ?_
      refine OpsD.keep [0, 1, 5, 11, 12, 13, 14, 17, 18, 19, 20, 21, 22, 23, 24] [(0, .sh 2 (a.map Lbl.d)), (1, .sh 2 (b.map Lbl.d)), (5, dN k), (11, dN k), (12, .sh 2 (a.map Lbl.d)), (13, dN a.length), (14, dB (decide (((k : Nat) : Int) < ((a.length : Nat) : Int)))), (17, .sh 2 (a.map Lbl.d)), (18, dN k), (19, .el (Lbl.d x1) 0), (20, Lbl.d x1), (21, .sh 2 (b.map Lbl.d)), (22, dN k), (23, .el (Lbl.d x2) 0), (24, Lbl.d x2)] rfl (za rfl rfl (p_eqlbl_eql rfl rfl rfl) (za rfl rfl (za9 rfl) (zf rfl (ze ?_))))
      refine zy _ _ rfl rfl rfl rfl (fun hc3 => ?_) (fun hc3 => ?_)
      · replace hc3 := of_decide_eq_false (p := x1 = x2) (by simpa using hc3)
        refine zd _ _ rfl rfl rfl (zb rfl (za rfl rfl (zg rfl) (zf rfl (ze (zH rfl (zZ (zL (zaW (zZ (zL ?_))))))))))
        exact zG Tryz.results25 (.cons (zah (zI rfl) (Cv.eq (congrArg (fun b => D.v (.bool b)) (by first | exact (zbN (by omega)).symm | exact (same_ne_at hx1 hx2 (by simpa using hc3)).symm | exact (zcF (by omega) (by omega) hf).symm)))) .nil) rfl HSub.none ⟨rfl, rfl⟩
      · replace hc3 := of_decide_eq_true (p := x1 = x2) (by simpa using hc3)
        refine zD rfl (zP (ze (zb rfl (za rfl rfl (zc rfl) (za rfl rfl (z5 (c := ((k + 1 : Nat) : Int)) rfl rfl (zR (by omega) (by omega))) (za rfl rfl (zg rfl) (zf rfl ?_)))))))
        exact zW (k + 1) ⟨sk rfl, sk rfl, sk rfl, trivial⟩ HSub.rfl' ⟨by omega, same_snoc hx1 hx2 hf (by simpa using hc3)⟩ (by omega)
    · replace hc2 := of_decide_eq_false hc2
      refine zN rfl (zw (zt (zq (ze (zd _ _ rfl rfl rfl (zb rfl (za rfl rfl (zg rfl) (zf rfl (ze (zH rfl ?_))))))))))
      exact zG Tryz.results25 (.cons (zah (zI rfl) (Cv.eq (congrArg (fun b => D.v (.bool b)) (by first | exact (zbN (by omega)).symm | exact (zcF (by omega) (by omega) hf).symm)))) .nil) rfl HSub.none ⟨rfl, rfl⟩

set_option maxHeartbeats 4000000 in
set_option maxRecDepth 100000 in
theorem zbL (a : List RowD) (b : List RowD)  :
    CD Tryz.prog 13 [] [.sh 2 (a.map RowD.d), .sh 2 (b.map RowD.d)] (isR (dB (decide (a = b)))) := by
  refine zA Tryz.func13 rfl (N := 42) rfl rfl (fun C => ?_)
  refine JD.keep [0, 1] [(0, .sh 2 (a.map RowD.d)), (1, .sh 2 (b.map RowD.d))] rfl ?_
  refine JD.bd 0 rfl (fun bd0 => ?_)
  have nl0 := zaB bd0
  refine JD.bd 1 rfl (fun bd1 => ?_)
  have nl1 := zaB bd1
  refine zd _ _ rfl rfl rfl (zb rfl (za rfl rfl (zg rfl) (zf rfl (ze (zd _ _ rfl rfl rfl (zd _ _ rfl rfl rfl (zb rfl (za rfl rfl (zc rfl) (za rfl rfl (zat (n := a.length) rfl Tryz.runUnderlying22 (by simp only [lm, lc, ln])) (za rfl rfl (zc rfl) (za rfl rfl (zat (n := b.length) rfl Tryz.runUnderlying22 (by simp only [lm, lc, ln])) (za rfl rfl (zcZ rfl rfl rfl) (zf rfl (ze ?_))))))))))))))
  refine zy _ _ rfl rfl rfl rfl (fun hc1 => ?_) (fun hc1 => ?_)
  · replace hc1 := of_decide_eq_true hc1
    refine zd _ _ rfl rfl rfl (zb rfl (za rfl rfl (zg rfl) (zf rfl (ze (zH rfl (zL ?_))))))
    exact zG Tryz.results13 (.cons (zah (zI rfl) (Cv.eq (congrArg (fun b => D.v (.bool b)) (by first | exact (zbN (by omega)).symm | exact (zcF (by omega) (by omega) hf).symm)))) .nil) rfl HSub.none ⟨rfl, rfl⟩
  · replace hc1 := of_decide_eq_false hc1
    refine zD rfl (ze (zd _ _ rfl rfl rfl (zd _ _ rfl rfl rfl (zb rfl (za rfl rfl (zg rfl) (zf rfl (ze (zu _ rfl rfl (zM (fun (g : Nat) => [(0, .sh 2 (a.map RowD.d)), (1, .sh 2 (b.map RowD.d)), (5, dN g)]) (fun (g : Nat) => []) (fun (g : Nat) => (g ≤ a.length) ∧ (a.take g = b.take g)) (fun (g : Nat) => a.length - g) _ 0 rfl rfl ⟨sk rfl, sk rfl, sk rfl, trivial⟩ HSub.rfl' ⟨Nat.zero_le _, by simp⟩ ?_)))))))))
    rintro k ⟨hk, hf⟩
    refine JD.keep [0, 1, 5] [(0, .sh 2 (a.map RowD.d)), (1, .sh 2 (b.map RowD.d)), (5, dN k)] rfl (JD.norm [] rfl (zd _ _ rfl rfl rfl (zd _ _ rfl rfl rfl (zb rfl (za rfl rfl (zc rfl) (za rfl rfl (zc rfl) (za rfl rfl (zat (n := a.length) rfl Tryz.runUnderlying22 (by simp only [lm, lc, ln])) (za rfl rfl (zU rfl rfl rfl) (zf rfl (ze ?_))))))))))
    refine zy _ _ rfl rfl rfl rfl (fun hc2 => ?_) (fun hc2 => ?_)
    · replace hc2 := of_decide_eq_true hc2
      refine zD rfl (ze (zd _ _ rfl rfl rfl (zu _ rfl rfl (zd _ _ rfl rfl rfl ?_))))
      obtain ⟨x1, hx1⟩ := zJ a k (by omega)
      obtain ⟨x2, hx2⟩ := zJ b k (by omega)
      refine JD.keep [0, 1, 5, 11, 12, 13, 14] [(0, .sh 2 (a.map RowD.d)), (1, .sh 2 (b.map RowD.d)), (5, dN k), (11, dN k), (12, .sh 2 (a.map RowD.d)), (13, dN a.length), (14, dB (decide (((k : Nat) : Int) < ((a.length : Nat) : Int))))] rfl ?_
      refine zbf 41 (!((decide (x1.v = x2.v) && decide (x1.ls = x2.ls)))) [] (fun _ hQ3 => ?_) ?_
      · skip
        by_cases hg4 : x1.v = x2.v
        · skip
          refine JD.keep [0, 1, 5, 11, 12, 13, 14] [(0, .sh 2 (a.map RowD.d)), (1, .sh 2 (b.map RowD.d)), (5, dN k), (11, dN k), (12, .sh 2 (a.map RowD.d)), (13, dN a.length), (14, dB (decide (((k : Nat) : Int) < ((a.length : Nat) : Int))))] rfl (JD.norm [] rfl ?_)
          refine z7 22 [(17, .sh 2 (a.map RowD.d), none), (18, dN k, none), (19, .el (RowD.d x1) 0, none), (20, .el (RowD.d x1) 1, none), (21, dI x1.v, none), (22, .sh 2 (b.map RowD.d), none), (23, dN k, none), (24, .el (RowD.d x2) 0, none), (25, .el (RowD.d x2) 1, none), (26, dI x2.v, none), (27, dB true, none), (28, dB true, none), (29, .sh 2 (a.map RowD.d), none), (30, dN k, none), (31, .el (RowD.d x1) 0, none), (32, .el (RowD.d x1) 0, none), (33, .sh 2 (x1.ls.map Lbl.d), none), (34, .sh 2 (b.map RowD.d), none), (35, dN k, none), (36, .el (RowD.d x2) 0, none), (37, .el (RowD.d x2) 0, none), (38, .sh 2 (x2.ls.map Lbl.d), none)] [] (Hn := []) zar rfl rfl rfl rfl HSub.rfl' rfl ⟨sa_p rfl rfl rfl (zc rfl), sa_p rfl rfl rfl (zc rfl), sa_p rfl rfl rfl (zE (k := k) rfl rfl Tryz.runUnderlying22 Tryz.sizeOf71 (by first | rfl | omega) (zl hx1)), sa_p rfl rfl rfl (zX rfl zaE rfl), sa_p rfl rfl rfl (zV rfl Tryz.isAgg3 rfl), sa_p rfl rfl rfl (zc rfl), sa_p rfl rfl rfl (zc rfl), sa_p rfl rfl rfl (zE (k := k) rfl rfl Tryz.runUnderlying22 Tryz.sizeOf71 (by first | rfl | omega) (zl hx2)), sa_p rfl rfl rfl (zX rfl zaE rfl), sa_p rfl rfl rfl (zV rfl Tryz.isAgg3 rfl), sa_p rfl rfl rfl (zaz rfl rfl (decide_eq_true hg4)), sa_p rfl rfl rfl (zc rfl), z6 rfl rfl rfl rfl rfl rfl (zc rfl).qu, z6 rfl rfl rfl rfl rfl rfl (zc rfl).qu, z6 rfl rfl rfl rfl rfl rfl (zE (k := k) rfl rfl Tryz.runUnderlying22 Tryz.sizeOf71 (by first | rfl | omega) (zl hx1)).qu, z6 rfl rfl rfl rfl rfl rfl (zX rfl za3 rfl).qu, z6 rfl rfl rfl rfl rfl rfl (zV rfl Tryz.isAgg52 rfl).qu, z6 rfl rfl rfl rfl rfl rfl (zc rfl).qu, z6 rfl rfl rfl rfl rfl rfl (zc rfl).qu, z6 rfl rfl rfl rfl rfl rfl (zE (k := k) rfl rfl Tryz.runUnderlying22 Tryz.sizeOf71 (by first | rfl | omega) (zl hx2)).qu, z6 rfl rfl rfl rfl rfl rfl (zX rfl za3 rfl).qu, z6 rfl rfl rfl rfl rfl rfl (zV rfl Tryz.isAgg52 rfl).qu, trivial⟩ ?_
          refine OpsD.keep [0, 1, 5, 11, 12, 13, 14, 17, 18, 19, 20, 21, 22, 23, 24, 25, 26, 27, 28, 29, 30, 31, 32, 33, 34, 35, 36, 37, 38] [(0, .sh 2 (a.map RowD.d)), (1, .sh 2 (b.map RowD.d)), (5, dN k), (11, dN k), (12, .sh 2 (a.map RowD.d)), (13, dN a.length), (14, dB (decide (((k : Nat) : Int) < ((a.length : Nat) : Int)))), (17, .sh 2 (a.map RowD.d)), (18, dN k), (19, .el (RowD.d x1) 0), (20, .el (RowD.d x1) 1), (21, dI x1.v), (22, .sh 2 (b.map RowD.d)), (23, dN k), (24, .el (RowD.d x2) 0), (25, .el (RowD.d x2) 1), (26, dI x2.v), (27, dB true), (28, dB true), (29, .sh 2 (a.map RowD.d)), (30, dN k), (31, .el (RowD.d x1) 0), (32, .el (RowD.d x1) 0), (33, .sh 2 (x1.ls.map Lbl.d)), (34, .sh 2 (b.map RowD.d)), (35, dN k), (36, .el (RowD.d x2) 0), (37, .el (RowD.d x2) 0), (38, .sh 2 (x2.ls.map Lbl.d))] rfl (zaI rfl rfl rfl rfl rfl (zx [] _ [] rfl rfl (.cons ArgC.id (.cons ArgC.id .nil)) zr Tryz.call25 (SameLabels_c x1.ls x2.ls) (.inl rfl)) ?_)
          rintro _ _ ⟨_, ⟨rfl, rfl⟩, rfl⟩
          refine OpsD.norm [] rfl (za rfl rfl (zF rfl rfl) (za rfl rfl (za9 rfl) (zf rfl ?_)))
          exact PD.sub ((41, dB (!((decide (x1.v = x2.v) && decide (x1.ls = x2.ls))))) :: [(0, .sh 2 (a.map RowD.d)), (1, .sh 2 (b.map RowD.d)), (5, dN k), (11, dN k), (12, .sh 2 (a.map RowD.d)), (13, dN a.length), (14, dB (decide (((k : Nat) : Int) < ((a.length : Nat) : Int))))]) ⟨sc rfl (Cv.eq (congrArg (fun b => D.v (.bool b)) (by first | (simp [hc2, hg4]; done) | (simp_all; done)))), sk rfl, sk rfl, sk rfl, sk rfl, sk rfl, sk rfl, sk rfl, trivial⟩ hQ3
        · skip
          refine JD.keep [0, 1, 5, 11, 12, 13, 14] [(0, .sh 2 (a.map RowD.d)), (1, .sh 2 (b.map RowD.d)), (5, dN k), (11, dN k), (12, .sh 2 (a.map RowD.d)), (13, dN a.length), (14, dB (decide (((k : Nat) : Int) < ((a.length : Nat) : Int))))] rfl (JD.norm [] rfl ?_)
          refine z7 22 [(17, .sh 2 (a.map RowD.d), none), (18, dN k, none), (19, .el (RowD.d x1) 0, none), (20, .el (RowD.d x1) 1, none), (21, dI x1.v, none), (22, .sh 2 (b.map RowD.d), none), (23, dN k, none), (24, .el (RowD.d x2) 0, none), (25, .el (RowD.d x2) 1, none), (26, dI x2.v, none), (27, dB false, none), (28, dB false, none), (29, .v undef, none), (30, .v undef, none), (31, .v undef, none), (32, .v undef, none), (33, .v undef, none), (34, .v undef, none), (35, .v undef, none), (36, .v undef, none), (37, .v undef, none), (38, .v undef, none)] [] (Hn := []) zar rfl rfl rfl rfl HSub.rfl' rfl ⟨sa_p rfl rfl rfl (zc rfl), sa_p rfl rfl rfl (zc rfl), sa_p rfl rfl rfl (zE (k := k) rfl rfl Tryz.runUnderlying22 Tryz.sizeOf71 (by first | rfl | omega) (zl hx1)), sa_p rfl rfl rfl (zX rfl zaE rfl), sa_p rfl rfl rfl (zV rfl Tryz.isAgg3 rfl), sa_p rfl rfl rfl (zc rfl), sa_p rfl rfl rfl (zc rfl), sa_p rfl rfl rfl (zE (k := k) rfl rfl Tryz.runUnderlying22 Tryz.sizeOf71 (by first | rfl | omega) (zl hx2)), sa_p rfl rfl rfl (zX rfl zaE rfl), sa_p rfl rfl rfl (zV rfl Tryz.isAgg3 rfl), sa_p rfl rfl rfl (zaz rfl rfl (decide_eq_false hg4)), sa_p rfl rfl rfl (zc rfl), sa_s rfl rfl rfl rfl rfl rfl (by decide), sa_s rfl rfl rfl rfl rfl rfl (by decide), sa_s rfl rfl rfl rfl rfl rfl (by decide), sa_s rfl rfl rfl rfl rfl rfl (by decide), sa_s rfl rfl rfl rfl rfl rfl (by decide), sa_s rfl rfl rfl rfl rfl rfl (by decide), sa_s rfl rfl rfl rfl rfl rfl (by decide), sa_s rfl rfl rfl rfl rfl rfl (by decide), sa_s rfl rfl rfl rfl rfl rfl (by decide), sa_s rfl rfl rfl rfl rfl rfl (by decide), trivial⟩ ?_
          refine OpsD.keep [0, 1, 5, 11, 12, 13, 14, 17, 18, 19, 20, 21, 22, 23, 24, 25, 26, 27, 28, 29, 30, 31, 32, 33, 34, 35, 36, 37, 38] [(0, .sh 2 (a.map RowD.d)), (1, .sh 2 (b.map RowD.d)), (5, dN k), (11, dN k), (12, .sh 2 (a.map RowD.d)), (13, dN a.length), (14, dB (decide (((k : Nat) : Int) < ((a.length : Nat) : Int)))), (17, .sh 2 (a.map RowD.d)), (18, dN k), (19, .el (RowD.d x1) 0), (20, .el (RowD.d x1) 1), (21, dI x1.v), (22, .sh 2 (b.map RowD.d)), (23, dN k), (24, .el (RowD.d x2) 0), (25, .el (RowD.d x2) 1), (26, dI x2.v), (27, dB false), (28, dB false), (29, .v undef), (30, .v undef), (31, .v undef), (32, .v undef), (33, .v undef), (34, .v undef), (35, .v undef), (36, .v undef), (37, .v undef), (38, .v undef)] rfl (zn rfl rfl rfl rfl rfl (by decide) (za rfl rfl (zS rfl rfl) (za rfl rfl (za9 (q := false) rfl) (zf rfl ?_))))
          exact PD.sub ((41, dB (!((decide (x1.v = x2.v) && decide (x1.ls = x2.ls))))) :: [(0, .sh 2 (a.map RowD.d)), (1, .sh 2 (b.map RowD.d)), (5, dN k), (11, dN k), (12, .sh 2 (a.map RowD.d)), (13, dN a.length), (14, dB (decide (((k : Nat) : Int) < ((a.length : Nat) : Int))))]) ⟨sc rfl (Cv.eq (congrArg (fun b => D.v (.bool b)) (by first | (simp [hc2, hg4]; done) | (simp_all; done)))), sk rfl, sk rfl, sk rfl, sk rfl, sk rfl, sk rfl, sk rfl, trivial⟩ hQ3
      · skip
        refine ze ?_
        refine zy _ _ rfl rfl rfl rfl (fun hc5 => ?_) (fun hc5 => ?_)
        · simp only [Bool.and_eq_true, Bool.or_eq_true, Bool.not_eq_true', Bool.not_eq_false', Bool.and_eq_false_iff, Bool.or_eq_false_iff, decide_eq_true_eq, decide_eq_false_iff_not, Decidable.not_not, ne_eq] at hc5
          refine zd _ _ rfl rfl rfl (zb rfl (za rfl rfl (zg rfl) (zf rfl (ze (zH rfl (zZ (zL (zaW (zZ (zL ?_))))))))))
          exact zG Tryz.results13 (.cons (zah (zI rfl) (Cv.eq (congrArg (fun b => D.v (.bool b)) (by first | exact (zbN (by omega)).symm | exact (same_ne_at hx1 hx2 (row_ne (fun e => by rcases hc5 with h | h; exact h e.1; exact h e.2))).symm | exact (zcF (by omega) (by omega) hf).symm)))) .nil) rfl HSub.none ⟨rfl, rfl⟩
        · simp only [Bool.and_eq_true, Bool.or_eq_true, Bool.not_eq_true', Bool.not_eq_false', Bool.and_eq_false_iff, Bool.or_eq_false_iff, decide_eq_true_eq, decide_eq_false_iff_not, Decidable.not_not, ne_eq] at hc5
          refine zD rfl (zP (ze (zb rfl (za rfl rfl (zc rfl) (za rfl rfl (z5 (c := ((k + 1 : Nat) : Int)) rfl rfl (zR (by omega) (by omega))) (za rfl rfl (zg rfl) (zf rfl ?_)))))))
          exact zW (k + 1) ⟨sk rfl, sk rfl, sk rfl, trivial⟩ HSub.rfl' ⟨by omega, same_snoc hx1 hx2 hf (by refine row_eq ?_; simpa using hc5)⟩ (by omega)
    · replace hc2 := of_decide_eq_false hc2
      refine zN rfl (zw (zt (zq (ze (zd _ _ rfl rfl rfl (zb rfl (za rfl rfl (zg rfl) (zf rfl (ze (zH rfl ?_))))))))))
      exact zG Tryz.results13 (.cons (zah (zI rfl) (Cv.eq (congrArg (fun b => D.v (.bool b)) (by first | exact (zbN (by omega)).symm | exact (zcF (by omega) (by omega) hf).symm)))) .nil) rfl HSub.none ⟨rfl, rfl⟩

set_option maxHeartbeats 4000000 in
set_option maxRecDepth 100000 in
theorem Light2_c (l : List Lbl)  :
    CD Tryz.prog 16 [] [.sh 2 (l.map Lbl.d)] (isR (dB (zbd l))) := by
  refine zA Tryz.func16 rfl (N := 33) rfl rfl (fun C => ?_)
  refine JD.keep [0] [(0, .sh 2 (l.map Lbl.d))] rfl ?_
  refine JD.bd 0 rfl (fun bd0 => ?_)
  have nl0 := zaB bd0
  refine zd _ _ rfl rfl rfl (zb rfl (za rfl rfl (zg rfl) (zf rfl (ze (zd _ _ rfl rfl rfl (zd _ _ rfl rfl rfl (zb rfl (za rfl rfl (zg rfl) (zf rfl (ze (zu _ rfl rfl (zM (fun (g : Nat) => [(0, .sh 2 (l.map Lbl.d)), (3, dN g)]) (fun (g : Nat) => []) (fun (g : Nat) => (g ≤ l.length ∧ g ≤ 30) ∧ ((l.take g).all (fun x => decide (x.n.size ≤ 200) && decide (x.v.size ≤ 200)) = true)) (fun (g : Nat) => l.length - g) _ 0 rfl rfl ⟨sk rfl, sk rfl, trivial⟩ HSub.rfl' ⟨⟨Nat.zero_le _, Nat.zero_le _⟩, by simp⟩ ?_))))))))))))
  rintro k ⟨hk, hf⟩
  refine JD.keep [0, 3] [(0, .sh 2 (l.map Lbl.d)), (3, dN k)] rfl (JD.norm [] rfl (zd _ _ rfl rfl rfl (zd _ _ rfl rfl rfl (JD.keep [0, 3] [(0, .sh 2 (l.map Lbl.d)), (3, dN k)] rfl ?_))))
  refine zbf 11 ((decide (((k : Nat) : Int) < ((l.length : Nat) : Int)) && decide (((k : Nat) : Int) < (30 : Int)))) [] (fun _ hQ1 => ?_) ?_
  · skip
    by_cases hg2 : ((k : Nat) : Int) < ((l.length : Nat) : Int)
    · skip
      refine zb rfl (za rfl rfl (zc rfl) (za rfl rfl (zc rfl) (za rfl rfl (zat (n := l.length) rfl Tryz.runUnderlying52 (by simp only [lm, lc, ln])) (za rfl rfl (zU rfl rfl (decide_eq_true hg2)) (za rfl rfl (zc rfl) (zj rfl rfl rfl rfl rfl (zc rfl) (zj rfl rfl rfl rfl rfl (zU rfl rfl rfl) (za rfl rfl (zF rfl rfl) (zf rfl ?_)))))))))
      exact PD.sub ((11, dB (decide (((k : Nat) : Int) < ((l.length : Nat) : Int)) && decide (((k : Nat) : Int) < (30 : Int)))) :: [(0, .sh 2 (l.map Lbl.d)), (3, dN k)]) ⟨sc rfl (Cv.eq (congrArg (fun b => D.v (.bool b)) (by first | (simp [hg2]; done) | (simp_all; done)))), sk rfl, sk rfl, trivial⟩ hQ1
    · skip
      refine zb rfl (za rfl rfl (zc rfl) (za rfl rfl (zc rfl) (za rfl rfl (zat (n := l.length) rfl Tryz.runUnderlying52 (by simp only [lm, lc, ln])) (za rfl rfl (zU rfl rfl (decide_eq_false hg2)) (za rfl rfl (zc rfl) (zn rfl rfl rfl rfl rfl (by decide) (zn rfl rfl rfl rfl rfl (by decide) (za rfl rfl (zS rfl rfl) (zf rfl ?_)))))))))
      exact PD.sub ((11, dB (decide (((k : Nat) : Int) < ((l.length : Nat) : Int)) && decide (((k : Nat) : Int) < (30 : Int)))) :: [(0, .sh 2 (l.map Lbl.d)), (3, dN k)]) ⟨sc rfl (Cv.eq (congrArg (fun b => D.v (.bool b)) (by first | (simp [hg2]; done) | (simp_all; done)))), sk rfl, sk rfl, trivial⟩ hQ1
  · skip
    refine ze ?_
    refine zy _ _ rfl rfl rfl rfl (fun hc3 => ?_) (fun hc3 => ?_)
    · simp only [Bool.and_eq_true, Bool.or_eq_true, Bool.not_eq_true', Bool.not_eq_false', Bool.and_eq_false_iff, Bool.or_eq_false_iff, decide_eq_true_eq, decide_eq_false_iff_not, Decidable.not_not, ne_eq] at hc3
      refine zD rfl (ze (zd _ _ rfl rfl rfl (zu _ rfl rfl (zd _ _ rfl rfl rfl ?_))))
      obtain ⟨x1, hx1⟩ := zJ l k (by omega)
      refine JD.keep [0, 3, 11] [(0, .sh 2 (l.map Lbl.d)), (3, dN k), (11, dB (decide (((k : Nat) : Int) < ((l.length : Nat) : Int)) && decide (((k : Nat) : Int) < (30 : Int))))] rfl ?_
      refine zbf 29 ((decide ((200 : Int) < ((x1.n.size : Nat) : Int)) || decide ((200 : Int) < ((x1.v.size : Nat) : Int)))) [] (fun _ hQ4 => ?_) ?_
      · skip
        by_cases hg5 : (200 : Int) < ((x1.n.size : Nat) : Int)
        · skip
          refine zb rfl (za rfl rfl (zc rfl) (za rfl rfl (zc rfl) (za rfl rfl (zE (k := k) rfl rfl Tryz.runUnderlying52 Tryz.sizeOf106 (by first | rfl | omega) (zl hx1)) (za rfl rfl (zX rfl zbp rfl) (za rfl rfl (zV rfl Tryz.isAgg9 rfl) (za rfl rfl (zb0 rfl Tryz.runUnderlying9) (za rfl rfl (za4 rfl rfl (decide_eq_true hg5)) (za rfl rfl (zc rfl) (zn rfl rfl rfl rfl rfl (by decide) (zn rfl rfl rfl rfl rfl (by decide) (zn rfl rfl rfl rfl rfl (by decide) (zn rfl rfl rfl rfl rfl (by decide) (zn rfl rfl rfl rfl rfl (by decide) (zn rfl rfl rfl rfl rfl (by decide) (zn rfl rfl rfl rfl rfl (by decide) (za rfl rfl (zF rfl rfl) (zf rfl ?_)))))))))))))))))
          exact PD.sub ((29, dB (decide ((200 : Int) < ((x1.n.size : Nat) : Int)) || decide ((200 : Int) < ((x1.v.size : Nat) : Int)))) :: [(0, .sh 2 (l.map Lbl.d)), (3, dN k), (11, dB (decide (((k : Nat) : Int) < ((l.length : Nat) : Int)) && decide (((k : Nat) : Int) < (30 : Int))))]) ⟨sc rfl (Cv.eq (congrArg (fun b => D.v (.bool b)) (by first | (simp [hg5]; done) | (simp_all; done)))), sk rfl, sk rfl, sk rfl, trivial⟩ hQ4
        · skip
          refine zb rfl (za rfl rfl (zc rfl) (za rfl rfl (zc rfl) (za rfl rfl (zE (k := k) rfl rfl Tryz.runUnderlying52 Tryz.sizeOf106 (by first | rfl | omega) (zl hx1)) (za rfl rfl (zX rfl zbp rfl) (za rfl rfl (zV rfl Tryz.isAgg9 rfl) (za rfl rfl (zb0 rfl Tryz.runUnderlying9) (za rfl rfl (za4 rfl rfl (decide_eq_false hg5)) (za rfl rfl (zc rfl) (zj rfl rfl rfl rfl rfl (zc rfl) (zj rfl rfl rfl rfl rfl (zc rfl) (zj rfl rfl rfl rfl rfl (zE (k := k) rfl rfl Tryz.runUnderlying52 Tryz.sizeOf106 (by first | rfl | omega) (zl hx1)) (zj rfl rfl rfl rfl rfl (zX rfl zbt rfl) (zj rfl rfl rfl rfl rfl (zV rfl Tryz.isAgg9 rfl) (zj rfl rfl rfl rfl rfl (zb0 rfl Tryz.runUnderlying9) (zj rfl rfl rfl rfl rfl (za4 rfl rfl rfl) (za rfl rfl (zS rfl rfl) (zf rfl ?_)))))))))))))))))
          exact PD.sub ((29, dB (decide ((200 : Int) < ((x1.n.size : Nat) : Int)) || decide ((200 : Int) < ((x1.v.size : Nat) : Int)))) :: [(0, .sh 2 (l.map Lbl.d)), (3, dN k), (11, dB (decide (((k : Nat) : Int) < ((l.length : Nat) : Int)) && decide (((k : Nat) : Int) < (30 : Int))))]) ⟨sc rfl (Cv.eq (congrArg (fun b => D.v (.bool b)) (by first | (simp [hg5]; done) | (simp_all; done)))), sk rfl, sk rfl, sk rfl, trivial⟩ hQ4
      · skip
        refine ze ?_
        refine zy _ _ rfl rfl rfl rfl (fun hc6 => ?_) (fun hc6 => ?_)
        · simp only [Bool.and_eq_true, Bool.or_eq_true, Bool.not_eq_true', Bool.not_eq_false', Bool.and_eq_false_iff, Bool.or_eq_false_iff, decide_eq_true_eq, decide_eq_false_iff_not, Decidable.not_not, ne_eq] at hc6
          refine zd _ _ rfl rfl rfl (zb rfl (za rfl rfl (zg rfl) (zf rfl (ze (zH rfl (zZ (zL (zaW (zZ (zL ?_))))))))))
          exact zG Tryz.results16 (.cons (zah (zI rfl) (Cv.eq (congrArg (fun b => D.v (.bool b)) (by first | rw [lightL_bad hx1 (by omega) (by omega)] | (rw [lightL_end hf (by omega)]; exact decide_eq_decide.2 (by omega)))))) .nil) rfl HSub.none ⟨rfl, rfl⟩
        · simp only [Bool.and_eq_true, Bool.or_eq_true, Bool.not_eq_true', Bool.not_eq_false', Bool.and_eq_false_iff, Bool.or_eq_false_iff, decide_eq_true_eq, decide_eq_false_iff_not, Decidable.not_not, ne_eq] at hc6
          refine zD rfl (zP (ze (zb rfl (za rfl rfl (zc rfl) (za rfl rfl (z5 (c := ((k + 1 : Nat) : Int)) rfl rfl (zR (by omega) (by omega))) (za rfl rfl (zg rfl) (zf rfl ?_)))))))
          exact zW (k + 1) ⟨sk rfl, sk rfl, trivial⟩ HSub.rfl' ⟨by omega, all_take_snoc hx1 hf (by simp only [Bool.and_eq_true, decide_eq_true_eq]; omega)⟩ (by omega)
    · simp only [Bool.and_eq_true, Bool.or_eq_true, Bool.not_eq_true', Bool.not_eq_false', Bool.and_eq_false_iff, Bool.or_eq_false_iff, decide_eq_true_eq, decide_eq_false_iff_not, Decidable.not_not, ne_eq] at hc3
      refine zN rfl (zw (zt (zq (ze (zd _ _ rfl rfl rfl (zb rfl (za rfl rfl (zc rfl) (za rfl rfl (zat (n := l.length) rfl Tryz.runUnderlying52 (by simp only [lm, lc, ln])) (za rfl rfl (p_leq rfl rfl rfl) (za rfl rfl (zg rfl) (zf rfl (ze (zH rfl ?_)))))))))))))
      exact zG Tryz.results16 (.cons (zah (zI rfl) (Cv.eq (congrArg (fun b => D.v (.bool b)) (by first | rw [lightL_bad hk (by omega) (by omega)] | (rw [lightL_end hf (by omega)]; exact decide_eq_decide.2 (by omega)))))) .nil) rfl HSub.none ⟨rfl, rfl⟩

set_option maxHeartbeats 4000000 in
set_option maxRecDepth 100000 in
theorem Light10_c (l : List RowD)  :
    CD Tryz.prog 5 [] [.sh 2 (l.map RowD.d)] (isR (dB (zbK l))) := by
  refine zA Tryz.func5 rfl (N := 24) rfl rfl (fun C => ?_)
  refine JD.keep [0] [(0, .sh 2 (l.map RowD.d))] rfl ?_
  refine JD.bd 0 rfl (fun bd0 => ?_)
  have nl0 := zaB bd0
  refine zd _ _ rfl rfl rfl (zb rfl (za rfl rfl (zg rfl) (zf rfl (ze (zd _ _ rfl rfl rfl (zd _ _ rfl rfl rfl (zb rfl (za rfl rfl (zg rfl) (zf rfl (ze (zu _ rfl rfl (zM (fun (g : Nat) => [(0, .sh 2 (l.map RowD.d)), (3, dN g)]) (fun (g : Nat) => []) (fun (g : Nat) => (g ≤ l.length ∧ g ≤ 100) ∧ ((l.take g).all (fun r => zbd r.ls) = true)) (fun (g : Nat) => l.length - g) _ 0 rfl rfl ⟨sk rfl, sk rfl, trivial⟩ HSub.rfl' ⟨⟨Nat.zero_le _, Nat.zero_le _⟩, by simp⟩ ?_))))))))))))
  rintro k ⟨hk, hf⟩
  refine JD.keep [0, 3] [(0, .sh 2 (l.map RowD.d)), (3, dN k)] rfl (JD.norm [] rfl (zd _ _ rfl rfl rfl (zd _ _ rfl rfl rfl (JD.keep [0, 3] [(0, .sh 2 (l.map RowD.d)), (3, dN k)] rfl ?_))))
  refine zbf 11 ((decide (((k : Nat) : Int) < ((l.length : Nat) : Int)) && decide (((k : Nat) : Int) < (100 : Int)))) [] (fun _ hQ1 => ?_) ?_
  · skip
    by_cases hg2 : ((k : Nat) : Int) < ((l.length : Nat) : Int)
    · skip
      refine zb rfl (za rfl rfl (zc rfl) (za rfl rfl (zc rfl) (za rfl rfl (zat (n := l.length) rfl Tryz.runUnderlying22 (by simp only [lm, lc, ln])) (za rfl rfl (zU rfl rfl (decide_eq_true hg2)) (za rfl rfl (zc rfl) (zj rfl rfl rfl rfl rfl (zc rfl) (zj rfl rfl rfl rfl rfl (zU rfl rfl rfl) (za rfl rfl (zF rfl rfl) (zf rfl ?_)))))))))
      exact PD.sub ((11, dB (decide (((k : Nat) : Int) < ((l.length : Nat) : Int)) && decide (((k : Nat) : Int) < (100 : Int)))) :: [(0, .sh 2 (l.map RowD.d)), (3, dN k)]) ⟨sc rfl (Cv.eq (congrArg (fun b => D.v (.bool b)) (by first | (simp [hg2]; done) | (simp_all; done)))), sk rfl, sk rfl, trivial⟩ hQ1
    · skip
      refine zb rfl (za rfl rfl (zc rfl) (za rfl rfl (zc rfl) (za rfl rfl (zat (n := l.length) rfl Tryz.runUnderlying22 (by simp only [lm, lc, ln])) (za rfl rfl (zU rfl rfl (decide_eq_false hg2)) (za rfl rfl (zc rfl) (zn rfl rfl rfl rfl rfl (by decide) (zn rfl rfl rfl rfl rfl (by decide) (za rfl rfl (zS rfl rfl) (zf rfl ?_)))))))))
      exact PD.sub ((11, dB (decide (((k : Nat) : Int) < ((l.length : Nat) : Int)) && decide (((k : Nat) : Int) < (100 : Int)))) :: [(0, .sh 2 (l.map RowD.d)), (3, dN k)]) ⟨sc rfl (Cv.eq (congrArg (fun b => D.v (.bool b)) (by first | (simp [hg2]; done) | (simp_all; done)))), sk rfl, sk rfl, trivial⟩ hQ1
  · skip
    refine ze ?_
    refine zy _ _ rfl rfl rfl rfl (fun hc3 => ?_) (fun hc3 => ?_)
    · simp only [Bool.and_eq_true, Bool.or_eq_true, Bool.not_eq_true', Bool.not_eq_false', Bool.and_eq_false_iff, Bool.or_eq_false_iff, decide_eq_true_eq, decide_eq_false_iff_not, Decidable.not_not, ne_eq] at hc3
      refine zD rfl (ze (zd _ _ rfl rfl rfl (zu _ rfl rfl (zd _ _ rfl rfl rfl (zb rfl (za rfl rfl (zc rfl) (za rfl rfl (zc rfl) ?_)))))))
      obtain ⟨x1, hx1⟩ := zJ l k (by omega)
      refine za rfl rfl (zE (k := k) rfl rfl Tryz.runUnderlying22 Tryz.sizeOf71 (by first | rfl | omega) (zl hx1)) (za rfl rfl (zX rfl za3 rfl) (za rfl rfl (zV rfl Tryz.isAgg52 rfl) (zi rfl rfl (zx [] _ [] rfl rfl (.cons ArgC.id .nil) zr Tryz.call16 (Light2_c x1.ls) (.inl rfl)) ?_)))
      rintro _ _ ⟨_, ⟨rfl, rfl⟩, rfl⟩
      refine OpsD.norm [] rfl (za rfl rfl (za9 rfl) (zf rfl (ze ?_)))
      refine zy _ _ rfl rfl rfl rfl (fun hc4 => ?_) (fun hc4 => ?_)
      · simp only [Bool.and_eq_true, Bool.or_eq_true, Bool.not_eq_true', Bool.not_eq_false', Bool.and_eq_false_iff, Bool.or_eq_false_iff, decide_eq_true_eq, decide_eq_false_iff_not, Decidable.not_not, ne_eq] at hc4
        refine zd _ _ rfl rfl rfl (zb rfl (za rfl rfl (zg rfl) (zf rfl (ze (zH rfl (zZ (zL (zaW (zZ (zL ?_))))))))))
        exact zG Tryz.results5 (.cons (zah (zI rfl) (Cv.eq (congrArg (fun b => D.v (.bool b)) (by first | rw [lightR_bad hx1 (by omega) (by simpa using hc4)] | (rw [lightR_end hf (by omega)]; exact decide_eq_decide.2 (by omega)))))) .nil) rfl HSub.none ⟨rfl, rfl⟩
      · simp only [Bool.and_eq_true, Bool.or_eq_true, Bool.not_eq_true', Bool.not_eq_false', Bool.and_eq_false_iff, Bool.or_eq_false_iff, decide_eq_true_eq, decide_eq_false_iff_not, Decidable.not_not, ne_eq] at hc4
        refine zD rfl (zP (ze (zb rfl (za rfl rfl (zc rfl) (za rfl rfl (z5 (c := ((k + 1 : Nat) : Int)) rfl rfl (zR (by omega) (by omega))) (za rfl rfl (zg rfl) (zf rfl ?_)))))))
        exact zW (k + 1) ⟨sk rfl, sk rfl, trivial⟩ HSub.rfl' ⟨by omega, all_take_snoc hx1 hf (by simpa using hc4)⟩ (by omega)
    · simp only [Bool.and_eq_true, Bool.or_eq_true, Bool.not_eq_true', Bool.not_eq_false', Bool.and_eq_false_iff, Bool.or_eq_false_iff, decide_eq_true_eq, decide_eq_false_iff_not, Decidable.not_not, ne_eq] at hc3
      refine zN rfl (zw (zt (zq (ze (zd _ _ rfl rfl rfl (zb rfl (za rfl rfl (zc rfl) (za rfl rfl (zat (n := l.length) rfl Tryz.runUnderlying22 (by simp only [lm, lc, ln])) (za rfl rfl (p_leq rfl rfl rfl) (za rfl rfl (zg rfl) (zf rfl (ze (zH rfl ?_)))))))))))))
      exact zG Tryz.results5 (.cons (zah (zI rfl) (Cv.eq (congrArg (fun b => D.v (.bool b)) (by first | rw [lightR_bad hk (by omega) (by simpa using hc4)] | (rw [lightR_end hf (by omega)]; exact decide_eq_decide.2 (by omega)))))) .nil) rfl HSub.none ⟨rfl, rfl⟩
end Lp
/-
  What is said of the sorter (chapter 18), as plain data.
-/
set_option linter.unusedVariables false
namespace Lp
open Go
/-- lists that are in order, merged: the stable sort of all -/
theorem runR_isort {o : Int} {ll : LLs} (h : ∀ l ∈ ll, zaK o l) : (runR o ll).1 = zag (zC o) ll.flatten := by
  have st := (zbS o ll).stable h
  exact Stab.eq (zab o) ⟨st.sorted.to, st.same⟩ (zaJ (zab o) _ _ rfl)

/-! ### the first call -/
abbrev al18 : List RowD := [⟨[], 3⟩, ⟨[], 1⟩, ⟨[], 2⟩]
theorem al18_light : z9 al18 := by unfold z9 al18; decide
theorem al18_make : mkGo 1 [] al18 (zak 32) = ⟨[⟨true, [⟨[], 1⟩, ⟨[], 3⟩]⟩, ⟨true, [⟨[], 2⟩]⟩], 2, 0, ⟨32, 0, 32⟩⟩ := by rfl
theorem al18_E : zaa 32 2 al18 = 0 := by decide
theorem al18_S : zac (zbM 1 32 2 al18).runs = [⟨[], 1⟩, ⟨[], 2⟩, ⟨[], 3⟩] ∧ (zbM 1 32 2 al18).nr = 2 ∧ (zbM 1 32 2 al18).nm = 1 ∧ (zbM 1 32 2 al18).p.high = 32 := by
  have hs := sorted0 (o := 1) (room := 32) (fan := 2) (by omega) (by omega) (by omega) al18_light
  have h1 := hs.p.hr
  have h2 := hs.room
  have h3 := hs.high
  have h4 := hs.nr
  have h5 := hs.nm
  rw [al18_make] at h2 h3 h4 h5
  refine ⟨?_, h4, by rw [h5]; rfl, ?_⟩
  · unfold zbM
    rw [al18_make]
    show zac (zbo 1 2 3 _).runs = _
    rw [mergeAll_next (by decide), mergeAll_end (by rw [mergeS_runs]; decide)]
    show zac (_ ++ [_]) = _
    rw [zbB, zbP, runR_isort (by
      intro l hl
      simp [lls] at hl
      rcases hl with rfl | rfl
      · exact (Srt.to (o := 1) (l := [⟨[], 1⟩, ⟨[], 3⟩]) (by unfold Srt; decide))
      · exact (Srt.to (o := 1) (l := [⟨[], 2⟩]) (by unfold Srt; decide)))]
    rfl
  · have e1 : (SortD.p (SortD.mk [⟨true, [⟨[], 1⟩, ⟨[], 3⟩]⟩, ⟨true, [⟨[], 2⟩]⟩] 2 0 ⟨32, 0, 32⟩)).high = 32 := rfl
    have e2 : (SortD.p (SortD.mk [⟨true, [⟨[], 1⟩, ⟨[], 3⟩]⟩, ⟨true, [⟨[], 2⟩]⟩] 2 0 ⟨32, 0, 32⟩)).room = 32 := rfl
    rw [e1] at h3
    rw [e2] at h2
    omega
theorem al18_L : zB 1 32 2 al18 = [⟨[], 1⟩, ⟨[], 2⟩, ⟨[], 3⟩] := by rw [(za8 (fn := 2) al18_E rfl).1, al18_S.1]
theorem al18_P : zT 1 32 2 al18 = ⟨2, 1, 32⟩ := by rw [(za8 (fn := 2) al18_E rfl).2, al18_S.2.1, al18_S.2.2.1, al18_S.2.2.2]

theorem maxC_light {l : List RowD} (h : zbK l = true) : z9 l := fun r hr => lightR_row h hr
end Lp
/- Walks, printed by a program of mine. -/
set_option linter.unusedSimpArgs false
set_option linter.unusedVariables false
namespace Lp
open Go Go.RowKit Go.Proofs

namespace HdYtoanlikkhjohpaaGreatV20
theorem zdo : ∀ w, ((#[⟨"Runs", 3, 0, false, "", "", 0⟩, ⟨"Merges", 3, 1, false, "", "", 8⟩, ⟨"High", 3, 2, false, "", "", 16⟩] : Array Field).mapM fun f => do pure (f.offset, ← Go.sizeOf f.type) : Sem (Array (Nat × Nat))).run Tryz.prog w = .ok ([(0, 1), (1, 1), (2, 1)] : List (Nat × Nat)).toArray w := fun _ => by kernel_rfl
theorem zda : ∀ w, ((#[⟨"Labels", 52, 0, false, "", "", 0⟩, ⟨"V", 3, 1, false, "", "", 24⟩] : Array Field).mapM fun f => do pure (f.offset, ← Go.sizeOf f.type) : Sem (Array (Nat × Nat))).run Tryz.prog w = .ok ([(0, 1), (1, 1)] : List (Nat × Nat)).toArray w := fun _ => by kernel_rfl
theorem zaE (b o : Nat) : ∀ w, (Instr.fieldAt 71 (.pointer (some ⟨b, o, none⟩)) 1).run Tryz.prog w = .ok (.pointer (some ⟨b, o + 1, none⟩)) w := fun _ => by kernel_rfl
end HdYtoanlikkhjohpaaGreatV20
open HdYtoanlikkhjohpaaGreatV20

theorem zc7 {ty t' : TypeId} {K : Kd} {H : List Hp} {x y : Operand} {a b : RepD} {q : Bool} (hx : opD K x = some (RepD.d a)) (hy : opD K y = some (RepD.d b)) (hq : decide (a = b) = q) : Pu Tryz.prog (.binOp .eql 40 x y t') ty K H (dB q) :=
  ⟨fun ρ w F hk _ _ => by
    obtain ⟨vs, e, u1, r1, rfl, _, rfl, u2, r2, rfl, _, rfl, u3, r3, rfl, _, rfl, rfl⟩ := hk.op hx
    obtain ⟨vs', e', u4, r4, rfl, _, rfl, u5, r5, rfl, _, rfl, u6, r6, rfl, _, rfl, rfl⟩ := hk.op hy
    refine zce (r := .bool q) (zK ρ [x, y]) (zbi ρ e) (zbh ρ e') (fun w => ?_) ⟨rfl, rfl⟩
    subst hq
    obtain ⟨a1, a2, a3⟩ := a
    obtain ⟨b1, b2, b3⟩ := b
    simp [go_sem]
    by_cases h1 : a1 = b1 <;> by_cases h2 : a2 = b2 <;> by_cases h3 : a3 = b3 <;> simp [h1, h2, h3]⟩

set_option maxHeartbeats 4000000 in
set_option maxRecDepth 100000 in
theorem alive18_c   :
    CD Tryz.prog 6 [] [] (isR (dB true)) := by
  refine zA Tryz.func6 rfl (N := 45) rfl rfl (fun C => ?_)
  refine JD.keep [] [] rfl (zd _ _ rfl rfl rfl (zb rfl (za rfl rfl (zg rfl) (zf rfl (ze (zd _ _ rfl rfl rfl (zb rfl (za rfl rfl (zau [1] [.const (.int .i64 3)] (zv := (.agg #[(.slice none 0 0), (.int .i64 0)])) rfl rfl (.cons (CellD.v rfl) .nil) (Tryz.runUnderlying71) Tryz.zeroValue71 zda ⟨rfl, rfl, trivial⟩ rfl) (za rfl rfl (zau [1] [.const (.int .i64 1)] (zv := (.agg #[(.slice none 0 0), (.int .i64 0)])) rfl rfl (.cons (CellD.v rfl) .nil) (Tryz.runUnderlying71) Tryz.zeroValue71 zda ⟨rfl, rfl, trivial⟩ rfl) (za rfl rfl (zau [1] [.const (.int .i64 2)] (zv := (.agg #[(.slice none 0 0), (.int .i64 0)])) rfl rfl (.cons (CellD.v rfl) .nil) (Tryz.runUnderlying71) Tryz.zeroValue71 zda ⟨rfl, rfl, trivial⟩ rfl) (zi rfl rfl (Qu.ef (d := .sh 2 ([(RowD.mk [] 3), (RowD.mk [] 1), (RowD.mk [] 2)].map RowD.d)) ((zaT [.tmp 5, .tmp 6, .tmp 7] rfl rfl (.cons CellD.agg (.cons CellD.agg (.cons CellD.agg .nil))) rfl Tryz.runUnderlying22 Tryz.sizeOf71 Tryz.zeroValue71 rfl rfl rfl rfl).cv (Cv.shs (.cons (Cv.agg (.cons (Cv.nil) (.cons Cv.rfl' .nil))) (.cons (Cv.agg (.cons (Cv.nil) (.cons Cv.rfl' .nil))) (.cons (Cv.agg (.cons (Cv.nil) (.cons Cv.rfl' .nil))) .nil)))))) ?_)))))))))))
  rintro _ _ ⟨rfl, rfl⟩
  refine zi rfl rfl (zx [] _ [] rfl rfl (.cons ArgC.id (.cons ArgC.id (.cons ArgC.id (.cons ArgC.id .nil)))) zr Tryz.call8 (Sort_c 1 32 2 [(RowD.mk [] 3), (RowD.mk [] 1), (RowD.mk [] 2)] (by unfold z9; decide) (by first | omega | decide)) (.inl rfl)) ?_
  rintro _ _ ⟨_, ⟨v1, rfl, rfl⟩, rfl⟩
  refine OpsD.norm [.sl v1 2 71 ((zB 1 32 2 [(RowD.mk [] 3), (RowD.mk [] 1), (RowD.mk [] 2)]).map RowD.d)] rfl (za rfl rfl (zc rfl) (za rfl rfl (zY rfl rfl) (za rfl rfl (zY rfl rfl) (za rfl rfl (zY rfl rfl) (zi rfl rfl (zao (zv := (.agg #[(.int .i64 0), (.int .i64 0), (.int .i64 0)])) Tryz.zeroValue40 ⟨rfl, rfl, rfl, trivial⟩ (Cv.vagg (by decide))) ?_)))))
  rintro _ _ ⟨g2, rfl, rfl⟩
  refine za rfl rfl (zg rfl) (zi rfl rfl (zO (i := 0) (X' := RepD.d (zT 1 32 2 [(RowD.mk [] 3), (RowD.mk [] 1), (RowD.mk [] 2)])) rfl rfl rfl (CellD.agg) Tryz.sizeOf40 rfl rfl rfl) ?_)
  rintro _ _ ⟨rfl, rfl⟩
  refine OpsD.norm [.bx g2 40 (RepD.d (zT 1 32 2 [(RowD.mk [] 3), (RowD.mk [] 1), (RowD.mk [] 2)])), .sl v1 2 71 ((zB 1 32 2 [(RowD.mk [] 3), (RowD.mk [] 1), (RowD.mk [] 2)]).map RowD.d)] rfl (za rfl rfl (zg rfl) (zf rfl (ze (JD.keep [0, 1, 2, 3] [(0, dB false), (1, .ov v1), (2, dP g2 0), (3, dI (zaa 32 2 [(RowD.mk [] 3), (RowD.mk [] 1), (RowD.mk [] 2)]))] rfl (zd _ _ rfl rfl rfl (JD.norm [.bx g2 40 (.agg [dI 2, dI 1, dI 32]), .sl v1 2 71 ([(RowD.mk [] 1), (RowD.mk [] 2), (RowD.mk [] 3)].map RowD.d)] (by rw [show [(RowD.mk [] 3), (RowD.mk [] 1), (RowD.mk [] 2)] = al18 from rfl, al18_L, al18_P]; rfl) (JD.sub [(0, dB false), (1, .ov v1), (2, dP g2 0), (3, dI 0)] ⟨sk rfl, sk rfl, sk rfl, sc rfl (Cv.eq (congrArg dI al18_E)), trivial⟩ ?_)))))))
  obtain ⟨y1, hy1, ey1⟩ : ∃ x, [(RowD.mk [] 1), (RowD.mk [] 2), (RowD.mk [] 3)][0]? = some x ∧ x = RowD.mk [] 1 := ⟨_, rfl, rfl⟩
  obtain ⟨y3, hy3, ey3⟩ : ∃ x, [(RowD.mk [] 1), (RowD.mk [] 2), (RowD.mk [] 3)][2]? = some x ∧ x = RowD.mk [] 3 := ⟨_, rfl, rfl⟩
  refine JD.keep [1, 2, 3] [(1, .ov v1), (2, dP g2 0), (3, dI 0)] rfl ?_
  refine zbf 0 ((((((decide ((0 : Int) = (0 : Int)) && decide ((([(RowD.mk [] 1), (RowD.mk [] 2), (RowD.mk [] 3)].length : Nat) : Int) = (3 : Int))) && decide (y1.v = (1 : Int))) && decide (y3.v = (3 : Int))) && decide ((RepD.mk 2 1 32) = (RepD.mk 2 1 32))) && decide (2 * maxC [(RowD.mk [] 1)] = (32 : Int)))) [.bx g2 40 (.agg [dI 2, dI 1, dI 32]), .sl v1 2 71 ([(RowD.mk [] 1), (RowD.mk [] 2), (RowD.mk [] 3)].map RowD.d)] (fun _ hQ3 => ?_) ?_
  · skip
    by_cases hg4 : (0 : Int) = (0 : Int)
    · skip
      by_cases hg5 : (([(RowD.mk [] 1), (RowD.mk [] 2), (RowD.mk [] 3)].length : Nat) : Int) = (3 : Int)
      · skip
        by_cases hg6 : y1.v = (1 : Int)
        · skip
          by_cases hg7 : y3.v = (3 : Int)
          · skip
            by_cases hg8 : (RepD.mk 2 1 32) = (RepD.mk 2 1 32)
            · skip
              refine zb rfl (za rfl rfl (zc rfl) (za rfl rfl (zaz rfl rfl (decide_eq_true hg4)) (za rfl rfl (zc rfl) (zj rfl rfl rfl rfl rfl (zc rfl) (zj rfl rfl rfl rfl rfl (z8 (n := [(RowD.mk [] 1), (RowD.mk [] 2), (RowD.mk [] 3)].length) (j := 1) rfl rfl Tryz.runUnderlying22 (List.length_map _)) (zj rfl rfl rfl rfl rfl (zaz rfl rfl (decide_eq_true hg5)) (za rfl rfl (zF rfl rfl) (za rfl rfl (zc rfl) (zj rfl rfl rfl rfl rfl (zc rfl) (zj rfl rfl rfl rfl rfl (zo (k := 0) (j := 1) rfl rfl rfl Tryz.runUnderlying22 Tryz.sizeOf71 (by first | rfl | omega) (zl hy1)) (zj rfl rfl rfl rfl rfl (zh rfl zaE rfl) (zj rfl rfl rfl rfl rfl (zQ rfl (i := 1) rfl (zl hy1) Tryz.isAgg3 rfl) (zj rfl rfl rfl rfl rfl (zaz rfl rfl (decide_eq_true hg6)) (za rfl rfl (zF rfl rfl) (za rfl rfl (zc rfl) (zj rfl rfl rfl rfl rfl (zc rfl) (zj rfl rfl rfl rfl rfl (zo (k := 2) (j := 1) rfl rfl rfl Tryz.runUnderlying22 Tryz.sizeOf71 (by first | rfl | omega) (zl hy3)) (zj rfl rfl rfl rfl rfl (zh rfl zaE rfl) (zj rfl rfl rfl rfl rfl (zQ rfl (i := 1) rfl (zl hy3) Tryz.isAgg3 rfl) (zj rfl rfl rfl rfl rfl (zaz rfl rfl (decide_eq_true hg7)) (za rfl rfl (zF rfl rfl) (za rfl rfl (zc rfl) ?_))))))))))))))))))))))
              refine zj rfl rfl rfl rfl rfl (zaq (d := .agg [dI 2, dI 1, dI 32]) rfl (i := 0) rfl Tryz.isAgg40 Tryz.sizeOf40 rfl rfl) (zj rfl rfl rfl rfl rfl (zau [0, 1, 2] [.const (.int .i64 2), .const (.int .i64 1), .const (.int .i64 32)] (zv := (.agg #[(.int .i64 0), (.int .i64 0), (.int .i64 0)])) rfl rfl (.cons (CellD.v rfl) (.cons (CellD.v rfl) (.cons (CellD.v rfl) .nil))) (Tryz.runUnderlying40) Tryz.zeroValue40 zdo ⟨rfl, rfl, rfl, trivial⟩ rfl) (zj rfl rfl rfl rfl rfl (zc7 (a := (RepD.mk 2 1 32)) (b := (RepD.mk 2 1 32)) rfl rfl (decide_eq_true hg8)) (za rfl rfl (zF rfl rfl) (za rfl rfl (zc rfl) (zj rfl rfl rfl rfl rfl (zau [1] [.const (.int .i64 1)] (zv := (.agg #[(.slice none 0 0), (.int .i64 0)])) rfl rfl (.cons (CellD.v rfl) .nil) (Tryz.runUnderlying71) Tryz.zeroValue71 zda ⟨rfl, rfl, trivial⟩ rfl) (zaI rfl rfl rfl rfl rfl (Qu.ef (d := .sh 2 ([(RowD.mk [] 1)].map RowD.d)) ((zaT [.tmp 40] rfl rfl (.cons CellD.agg .nil) rfl Tryz.runUnderlying22 Tryz.sizeOf71 Tryz.zeroValue71 rfl rfl rfl rfl).cv (Cv.shs (.cons (Cv.agg (.cons (Cv.nil) (.cons Cv.rfl' .nil))) .nil)))) ?_))))))
              rintro _ _ ⟨rfl, rfl⟩
              refine zaI rfl rfl rfl rfl rfl (zx [] _ [] rfl rfl (.cons ArgC.id (.cons ArgC.id .nil)) zr Tryz.call11 (Least_c 2 [(RowD.mk [] 1)] (by omega) (by omega) (by unfold z9; decide)) (.inl rfl)) ?_
              rintro _ _ ⟨_, ⟨rfl, rfl⟩, rfl⟩
              refine OpsD.norm [.bx g2 40 (.agg [dI 2, dI 1, dI 32]), .sl v1 2 71 ([(RowD.mk [] 1), (RowD.mk [] 2), (RowD.mk [] 3)].map RowD.d)] rfl (zj rfl rfl rfl rfl rfl (zaz rfl rfl rfl) (za rfl rfl (zF rfl rfl) (za rfl rfl (zg rfl) (zf rfl ?_))))
              exact PD.sub ((0, dB (((((decide ((0 : Int) = (0 : Int)) && decide ((([(RowD.mk [] 1), (RowD.mk [] 2), (RowD.mk [] 3)].length : Nat) : Int) = (3 : Int))) && decide (y1.v = (1 : Int))) && decide (y3.v = (3 : Int))) && decide ((RepD.mk 2 1 32) = (RepD.mk 2 1 32))) && decide (2 * maxC [(RowD.mk [] 1)] = (32 : Int)))) :: [(1, .ov v1), (2, dP g2 0), (3, dI 0)]) ⟨sc rfl (Cv.eq (congrArg (fun b => D.v (.bool b)) (by first | (simp [hg4, hg5, hg6, hg7, hg8]; done) | (simp_all; done)))), sk rfl, sk rfl, sk rfl, trivial⟩ hQ3
            · skip
              refine zb rfl (za rfl rfl (zc rfl) (za rfl rfl (zaz rfl rfl (decide_eq_true hg4)) (za rfl rfl (zc rfl) (zj rfl rfl rfl rfl rfl (zc rfl) (zj rfl rfl rfl rfl rfl (z8 (n := [(RowD.mk [] 1), (RowD.mk [] 2), (RowD.mk [] 3)].length) (j := 1) rfl rfl Tryz.runUnderlying22 (List.length_map _)) (zj rfl rfl rfl rfl rfl (zaz rfl rfl (decide_eq_true hg5)) (za rfl rfl (zF rfl rfl) (za rfl rfl (zc rfl) (zj rfl rfl rfl rfl rfl (zc rfl) (zj rfl rfl rfl rfl rfl (zo (k := 0) (j := 1) rfl rfl rfl Tryz.runUnderlying22 Tryz.sizeOf71 (by first | rfl | omega) (zl hy1)) (zj rfl rfl rfl rfl rfl (zh rfl zaE rfl) (zj rfl rfl rfl rfl rfl (zQ rfl (i := 1) rfl (zl hy1) Tryz.isAgg3 rfl) (zj rfl rfl rfl rfl rfl (zaz rfl rfl (decide_eq_true hg6)) (za rfl rfl (zF rfl rfl) (za rfl rfl (zc rfl) (zj rfl rfl rfl rfl rfl (zc rfl) (zj rfl rfl rfl rfl rfl (zo (k := 2) (j := 1) rfl rfl rfl Tryz.runUnderlying22 Tryz.sizeOf71 (by first | rfl | omega) (zl hy3)) (zj rfl rfl rfl rfl rfl (zh rfl zaE rfl) (zj rfl rfl rfl rfl rfl (zQ rfl (i := 1) rfl (zl hy3) Tryz.isAgg3 rfl) (zj rfl rfl rfl rfl rfl (zaz rfl rfl (decide_eq_true hg7)) (za rfl rfl (zF rfl rfl) (za rfl rfl (zc rfl) ?_))))))))))))))))))))))
              refine zj rfl rfl rfl rfl rfl (zaq (d := .agg [dI 2, dI 1, dI 32]) rfl (i := 0) rfl Tryz.isAgg40 Tryz.sizeOf40 rfl rfl) (zj rfl rfl rfl rfl rfl (zau [0, 1, 2] [.const (.int .i64 2), .const (.int .i64 1), .const (.int .i64 32)] (zv := (.agg #[(.int .i64 0), (.int .i64 0), (.int .i64 0)])) rfl rfl (.cons (CellD.v rfl) (.cons (CellD.v rfl) (.cons (CellD.v rfl) .nil))) (Tryz.runUnderlying40) Tryz.zeroValue40 zdo ⟨rfl, rfl, rfl, trivial⟩ rfl) (zj rfl rfl rfl rfl rfl (zc7 (a := (RepD.mk 2 1 32)) (b := (RepD.mk 2 1 32)) rfl rfl (decide_eq_false hg8)) (za rfl rfl (zF rfl rfl) (za rfl rfl (zc rfl) (zn rfl rfl rfl rfl rfl (by decide) (zn rfl rfl rfl rfl rfl (by decide) (zn rfl rfl rfl rfl rfl (by decide) (zn rfl rfl rfl rfl rfl (by decide) (za rfl rfl (zS rfl rfl) (za rfl rfl (zg rfl) (zf rfl ?_)))))))))))
              exact PD.sub ((0, dB (((((decide ((0 : Int) = (0 : Int)) && decide ((([(RowD.mk [] 1), (RowD.mk [] 2), (RowD.mk [] 3)].length : Nat) : Int) = (3 : Int))) && decide (y1.v = (1 : Int))) && decide (y3.v = (3 : Int))) && decide ((RepD.mk 2 1 32) = (RepD.mk 2 1 32))) && decide (2 * maxC [(RowD.mk [] 1)] = (32 : Int)))) :: [(1, .ov v1), (2, dP g2 0), (3, dI 0)]) ⟨sc rfl (Cv.eq (congrArg (fun b => D.v (.bool b)) (by first | (simp [hg4, hg5, hg6, hg7, hg8]; done) | (simp_all; done)))), sk rfl, sk rfl, sk rfl, trivial⟩ hQ3
          · skip
            refine zb rfl (za rfl rfl (zc rfl) (za rfl rfl (zaz rfl rfl (decide_eq_true hg4)) (za rfl rfl (zc rfl) (zj rfl rfl rfl rfl rfl (zc rfl) (zj rfl rfl rfl rfl rfl (z8 (n := [(RowD.mk [] 1), (RowD.mk [] 2), (RowD.mk [] 3)].length) (j := 1) rfl rfl Tryz.runUnderlying22 (List.length_map _)) (zj rfl rfl rfl rfl rfl (zaz rfl rfl (decide_eq_true hg5)) (za rfl rfl (zF rfl rfl) (za rfl rfl (zc rfl) (zj rfl rfl rfl rfl rfl (zc rfl) (zj rfl rfl rfl rfl rfl (zo (k := 0) (j := 1) rfl rfl rfl Tryz.runUnderlying22 Tryz.sizeOf71 (by first | rfl | omega) (zl hy1)) (zj rfl rfl rfl rfl rfl (zh rfl zaE rfl) (zj rfl rfl rfl rfl rfl (zQ rfl (i := 1) rfl (zl hy1) Tryz.isAgg3 rfl) (zj rfl rfl rfl rfl rfl (zaz rfl rfl (decide_eq_true hg6)) (za rfl rfl (zF rfl rfl) (za rfl rfl (zc rfl) (zj rfl rfl rfl rfl rfl (zc rfl) (zj rfl rfl rfl rfl rfl (zo (k := 2) (j := 1) rfl rfl rfl Tryz.runUnderlying22 Tryz.sizeOf71 (by first | rfl | omega) (zl hy3)) (zj rfl rfl rfl rfl rfl (zh rfl zaE rfl) (zj rfl rfl rfl rfl rfl (zQ rfl (i := 1) rfl (zl hy3) Tryz.isAgg3 rfl) (zj rfl rfl rfl rfl rfl (zaz rfl rfl (decide_eq_false hg7)) (za rfl rfl (zF rfl rfl) (za rfl rfl (zc rfl) (zn rfl rfl rfl rfl rfl (by decide) ?_)))))))))))))))))))))))
            refine zn rfl rfl rfl rfl rfl (by decide) (zn rfl rfl rfl rfl rfl (by decide) (za rfl rfl (zS rfl rfl) (za rfl rfl (zc rfl) (zn rfl rfl rfl rfl rfl (by decide) (zn rfl rfl rfl rfl rfl (by decide) (zn rfl rfl rfl rfl rfl (by decide) (zn rfl rfl rfl rfl rfl (by decide) (za rfl rfl (zS rfl rfl) (za rfl rfl (zg rfl) (zf rfl ?_))))))))))
            exact PD.sub ((0, dB (((((decide ((0 : Int) = (0 : Int)) && decide ((([(RowD.mk [] 1), (RowD.mk [] 2), (RowD.mk [] 3)].length : Nat) : Int) = (3 : Int))) && decide (y1.v = (1 : Int))) && decide (y3.v = (3 : Int))) && decide ((RepD.mk 2 1 32) = (RepD.mk 2 1 32))) && decide (2 * maxC [(RowD.mk [] 1)] = (32 : Int)))) :: [(1, .ov v1), (2, dP g2 0), (3, dI 0)]) ⟨sc rfl (Cv.eq (congrArg (fun b => D.v (.bool b)) (by first | (simp [hg4, hg5, hg6, hg7]; done) | (simp_all; done)))), sk rfl, sk rfl, sk rfl, trivial⟩ hQ3
        · skip
          refine zb rfl (za rfl rfl (zc rfl) (za rfl rfl (zaz rfl rfl (decide_eq_true hg4)) (za rfl rfl (zc rfl) (zj rfl rfl rfl rfl rfl (zc rfl) (zj rfl rfl rfl rfl rfl (z8 (n := [(RowD.mk [] 1), (RowD.mk [] 2), (RowD.mk [] 3)].length) (j := 1) rfl rfl Tryz.runUnderlying22 (List.length_map _)) (zj rfl rfl rfl rfl rfl (zaz rfl rfl (decide_eq_true hg5)) (za rfl rfl (zF rfl rfl) (za rfl rfl (zc rfl) (zj rfl rfl rfl rfl rfl (zc rfl) (zj rfl rfl rfl rfl rfl (zo (k := 0) (j := 1) rfl rfl rfl Tryz.runUnderlying22 Tryz.sizeOf71 (by first | rfl | omega) (zl hy1)) (zj rfl rfl rfl rfl rfl (zh rfl zaE rfl) (zj rfl rfl rfl rfl rfl (zQ rfl (i := 1) rfl (zl hy1) Tryz.isAgg3 rfl) (zj rfl rfl rfl rfl rfl (zaz rfl rfl (decide_eq_false hg6)) (za rfl rfl (zF rfl rfl) (za rfl rfl (zc rfl) (zn rfl rfl rfl rfl rfl (by decide) (zn rfl rfl rfl rfl rfl (by decide) (zn rfl rfl rfl rfl rfl (by decide) (zn rfl rfl rfl rfl rfl (by decide) (zn rfl rfl rfl rfl rfl (by decide) (za rfl rfl (zS rfl rfl) (za rfl rfl (zc rfl) (zn rfl rfl rfl rfl rfl (by decide) (zn rfl rfl rfl rfl rfl (by decide) (zn rfl rfl rfl rfl rfl (by decide) (za rfl rfl (zS rfl rfl) (za rfl rfl (zc rfl) (zn rfl rfl rfl rfl rfl (by decide) (zn rfl rfl rfl rfl rfl (by decide) ?_)))))))))))))))))))))))))))))
          refine zn rfl rfl rfl rfl rfl (by decide) (zn rfl rfl rfl rfl rfl (by decide) (za rfl rfl (zS rfl rfl) (za rfl rfl (zg rfl) (zf rfl ?_))))
          exact PD.sub ((0, dB (((((decide ((0 : Int) = (0 : Int)) && decide ((([(RowD.mk [] 1), (RowD.mk [] 2), (RowD.mk [] 3)].length : Nat) : Int) = (3 : Int))) && decide (y1.v = (1 : Int))) && decide (y3.v = (3 : Int))) && decide ((RepD.mk 2 1 32) = (RepD.mk 2 1 32))) && decide (2 * maxC [(RowD.mk [] 1)] = (32 : Int)))) :: [(1, .ov v1), (2, dP g2 0), (3, dI 0)]) ⟨sc rfl (Cv.eq (congrArg (fun b => D.v (.bool b)) (by first | (simp [hg4, hg5, hg6]; done) | (simp_all; done)))), sk rfl, sk rfl, sk rfl, trivial⟩ hQ3
      · skip
        refine zb rfl (za rfl rfl (zc rfl) (za rfl rfl (zaz rfl rfl (decide_eq_true hg4)) (za rfl rfl (zc rfl) (zj rfl rfl rfl rfl rfl (zc rfl) (zj rfl rfl rfl rfl rfl (z8 (n := [(RowD.mk [] 1), (RowD.mk [] 2), (RowD.mk [] 3)].length) (j := 1) rfl rfl Tryz.runUnderlying22 (List.length_map _)) (zj rfl rfl rfl rfl rfl (zaz rfl rfl (decide_eq_false hg5)) (za rfl rfl (zF rfl rfl) (za rfl rfl (zc rfl) (zn rfl rfl rfl rfl rfl (by decide) (zn rfl rfl rfl rfl rfl (by decide) (zn rfl rfl rfl rfl rfl (by decide) (zn rfl rfl rfl rfl rfl (by decide) (zn rfl rfl rfl rfl rfl (by decide) (za rfl rfl (zS rfl rfl) (za rfl rfl (zc rfl) (zn rfl rfl rfl rfl rfl (by decide) (zn rfl rfl rfl rfl rfl (by decide) (zn rfl rfl rfl rfl rfl (by decide) (zn rfl rfl rfl rfl rfl (by decide) (zn rfl rfl rfl rfl rfl (by decide) (za rfl rfl (zS rfl rfl) (za rfl rfl (zc rfl) (zn rfl rfl rfl rfl rfl (by decide) (zn rfl rfl rfl rfl rfl (by decide) (zn rfl rfl rfl rfl rfl (by decide) (za rfl rfl (zS rfl rfl) (za rfl rfl (zc rfl) (zn rfl rfl rfl rfl rfl (by decide) (zn rfl rfl rfl rfl rfl (by decide) (zn rfl rfl rfl rfl rfl (by decide) (zn rfl rfl rfl rfl rfl (by decide) (za rfl rfl (zS rfl rfl) (za rfl rfl (zg rfl) (zf rfl ?_))))))))))))))))))))))))))))))))))
        exact PD.sub ((0, dB (((((decide ((0 : Int) = (0 : Int)) && decide ((([(RowD.mk [] 1), (RowD.mk [] 2), (RowD.mk [] 3)].length : Nat) : Int) = (3 : Int))) && decide (y1.v = (1 : Int))) && decide (y3.v = (3 : Int))) && decide ((RepD.mk 2 1 32) = (RepD.mk 2 1 32))) && decide (2 * maxC [(RowD.mk [] 1)] = (32 : Int)))) :: [(1, .ov v1), (2, dP g2 0), (3, dI 0)]) ⟨sc rfl (Cv.eq (congrArg (fun b => D.v (.bool b)) (by first | (simp [hg4, hg5]; done) | (simp_all; done)))), sk rfl, sk rfl, sk rfl, trivial⟩ hQ3
    · skip
      refine zb rfl (za rfl rfl (zc rfl) (za rfl rfl (zaz rfl rfl (decide_eq_false hg4)) (za rfl rfl (zc rfl) (zn rfl rfl rfl rfl rfl (by decide) (zn rfl rfl rfl rfl rfl (by decide) (zn rfl rfl rfl rfl rfl (by decide) (za rfl rfl (zS rfl rfl) (za rfl rfl (zc rfl) (zn rfl rfl rfl rfl rfl (by decide) (zn rfl rfl rfl rfl rfl (by decide) (zn rfl rfl rfl rfl rfl (by decide) (zn rfl rfl rfl rfl rfl (by decide) (zn rfl rfl rfl rfl rfl (by decide) (za rfl rfl (zS rfl rfl) (za rfl rfl (zc rfl) (zn rfl rfl rfl rfl rfl (by decide) (zn rfl rfl rfl rfl rfl (by decide) (zn rfl rfl rfl rfl rfl (by decide) (zn rfl rfl rfl rfl rfl (by decide) (zn rfl rfl rfl rfl rfl (by decide) (za rfl rfl (zS rfl rfl) (za rfl rfl (zc rfl) (zn rfl rfl rfl rfl rfl (by decide) (zn rfl rfl rfl rfl rfl (by decide) (zn rfl rfl rfl rfl rfl (by decide) (za rfl rfl (zS rfl rfl) (za rfl rfl (zc rfl) (zn rfl rfl rfl rfl rfl (by decide) (zn rfl rfl rfl rfl rfl (by decide) (zn rfl rfl rfl rfl rfl (by decide) (zn rfl rfl rfl rfl rfl (by decide) (za rfl rfl (zS rfl rfl) (za rfl rfl (zg rfl) (zf rfl ?_))))))))))))))))))))))))))))))))))
      exact PD.sub ((0, dB (((((decide ((0 : Int) = (0 : Int)) && decide ((([(RowD.mk [] 1), (RowD.mk [] 2), (RowD.mk [] 3)].length : Nat) : Int) = (3 : Int))) && decide (y1.v = (1 : Int))) && decide (y3.v = (3 : Int))) && decide ((RepD.mk 2 1 32) = (RepD.mk 2 1 32))) && decide (2 * maxC [(RowD.mk [] 1)] = (32 : Int)))) :: [(1, .ov v1), (2, dP g2 0), (3, dI 0)]) ⟨sc rfl (Cv.eq (congrArg (fun b => D.v (.bool b)) (by first | (simp [hg4]; done) | (simp_all; done)))), sk rfl, sk rfl, sk rfl, trivial⟩ hQ3
  · skip
    refine ze (zH rfl ?_)
    exact zG Tryz.results6 (.cons (zah (zI rfl) (Cv.eq (congrArg (fun b => D.v (.bool b)) (by subst ey1; subst ey3; rfl)))) .nil) rfl HSub.none ⟨rfl, rfl⟩
end Lp
/-
  Slices with room behind them in which what stands is known.
-/
set_option linter.unusedVariables false
namespace Lp
open Go Go.RowKit
theorem rep_shr {w : World} {F : Nat → Prop} {z n : Nat} {xs : List D} {a : Value} (h : D.rep w F (.shr z n xs) a) : ∃ A c, a = .slice A n c ∧ n ≤ xs.length ∧ D.rep w F (.sh z xs) (.slice A xs.length c) ∧ xs.length ≤ c := by
  obtain ⟨A, c, e, h0, h1, h2, h3⟩ := h
  exact ⟨A, c, e, h0, ⟨A, c, rfl, h1, h2, h3⟩, h1⟩
theorem shr_rep {w : World} {F : Nat → Prop} {z n : Nat} {xs : List D} {A : Option Addr} {c : Nat} (h0 : n ≤ xs.length) (h : D.rep w F (.sh z xs) (.slice A xs.length c)) : D.rep w F (.shr z n xs) (.slice A n c) := by
  obtain ⟨A', c', e, h1, h2, h3⟩ := h
  injection e with e1 _ e2
  subst e1; subst e2
  exact ⟨A, c, rfl, h0, h1, h2, h3⟩
theorem rep_take {w : World} {F : Nat → Prop} {z n : Nat} {xs : List D} {A : Option Addr} {c : Nat} (hF : ∀ b, F b → b < w.heap.size) (h0 : n ≤ xs.length) (h : D.rep w F (.sh z xs) (.slice A xs.length c)) : D.rep w F (.sh z (xs.take n)) (.slice A n c) := by
  have hl : (xs.take n).length = n := by rw [List.length_take]; omega
  obtain ⟨us, hr, hsl, hblk, hmx⟩ := D.rep_sl hF h
  have hul := hr.len
  cases xs with
  | nil =>
    have : n = 0 := by simpa using h0
    subst this
    exact ⟨A, c, rfl, Nat.zero_le _, Nat.zero_le _, fun e => absurd rfl e⟩
  | cons x r =>
    obtain ⟨b', o', c', hv', hF'⟩ := hblk (by simp)
    injection hv' with e1 _ e2
    subst e1; subst e2
    have h2 := hsl.cut 0 n (Nat.zero_le _) (by omega)
    rw [cut0 (.inr ⟨_, _, rfl⟩), List.drop_zero] at h2
    have := D.sl_rep (hr.take n) h2 (fun _ g hg => by cases hg; exact hF') (by rw [List.length_take]; omega)
    exact this
theorem slice_of_sh {w : World} {F : Nat → Prop} {z : Nat} {xs : List D} {a : Value} (h : D.rep w F (.sh z xs) a) : ∃ A c, a = .slice A xs.length c ∧ xs.length ≤ c ∧ (xs ≠ [] → ∃ b o, A = some ⟨b, o, none⟩) := by
  obtain ⟨A, c, e, h1, _, h3⟩ := h
  exact ⟨A, c, e, h1, fun hn => by obtain ⟨b, o, e, _⟩ := h3 hn; exact ⟨b, o, e⟩⟩
/-- an argument with room behind it, read as what it is -/
theorem ArgC.shr {L : List Hp} {z n : Nat} {xs : List D} : ArgC L (.shr z n xs) (.sh z (xs.take n)) := ⟨fun w F u hF hL hr => by
  obtain ⟨A, c, rfl, h0, h, _⟩ := rep_shr hr
  exact D.keep (Keep.wide _) _ _ (rep_take hF h0 h)⟩
theorem ArgC.cutr {L : List Hp} {z j n : Nat} {v : Value} {T : TypeId} {ys : List D} (hm : nth L j = some (.sl v z T ys)) (hn : n ≤ ys.length) (h0 : ys ≠ []) : ArgC L (.v (Lp.cut z v 0 n)) (.shr z n ys) := ⟨fun w F u hF hL hr => by
  have e : u = _ := hr
  subst e
  have ho : D.rep w F (.ov v) v := ⟨rfl, by obtain ⟨us, _, ho⟩ := hL _ (zaf hm); exact ho.one⟩
  have h := (ArgC.own hm (d := .ov v) rfl).out w F v hF hL ho
  obtain ⟨A, c, e, hc, hA⟩ := slice_of_sh h
  obtain ⟨b, o, eA⟩ := hA h0
  rw [e] at h ⊢
  rw [cut0 (.inr ⟨b, o, eA⟩)]
  exact shr_rep hn h⟩
section
variable {P : Program} {ty : TypeId} {K : Kd} {H : List Hp}
theorem p_len_shr {t e : TypeId} {x : Operand} {z n : Nat} {xs : List D} (hx : opD K x = some (.shr z n xs)) (ht : ∀ w, (underlying t).run P w = .ok (.slice e) w) : Pu P (.call { callee := .builtin .len, args := #[x], argTypes := #[t] }) ty K H (.v (.int .i64 (n : Int))) :=
  ⟨fun ρ w F hk _ hH => by
    obtain ⟨A, c, e, _⟩ := rep_shr (hk.op hx)
    exact zdz (n := n) (zK ρ [x]) (opv1 ρ rfl) ht ⟨A, c, e⟩ ⟨rfl, rfl⟩⟩
/-- with the room behind it -/
theorem p_slice_shr {t e : TypeId} {z n b : Nat} {x : Operand} {hi : Option Operand} {xs : List D} {rh : Option Int} (hx : opD K x = some (.shr z n xs)) (hhi : bndD K hi = some rh) (hb : Bnd rh n b)
    (ht : ∀ w, (underlying t).run P w = .ok (.slice e) w) (hs : ∀ w, (Go.sizeOf e).run P w = .ok z w) (hbn : b ≤ xs.length) (h0 : xs ≠ []) : Pu P (.slice t x none hi none) ty K H (.sh z (xs.take b)) :=
  ⟨fun ρ w F hk hF hH => by
    obtain ⟨A, c, e, hn, h, hc⟩ := rep_shr (hk.op hx)
    obtain ⟨A', c', e', _, hA⟩ := slice_of_sh h
    injection e' with e1 _ e2
    subst e1; subst e2
    obtain ⟨b', o', eA⟩ := hA h0
    refine zdm (n := n) (a := 0) (b := b) (z := z) (zK ρ [x]) (opv1 ρ rfl) rfl rfl (.inl ⟨rfl, rfl⟩) (hb.out (zcx hk hhi)) ht hs ⟨A, c, e, by omega⟩ (Nat.zero_le _) ⟨rfl, ?_⟩
    rw [e, cut0 (.inr ⟨b', o', eA⟩)]
    exact rep_take hF hbn h⟩
end
/-- lists that are read otherwise, each -/
theorem CvL.map {α : Type} {f g : α → D} (h : ∀ x, Cv (f x) (g x)) : ∀ l : List α, CvL (l.map f) (l.map g)
  | [] => .nil
  | x :: r => .cons (h x) (CvL.map h r)
theorem ArgC.lent {L : List Hp} {α : Type} {f : α → D} {z : Nat} {l : List α} {x : α} : ArgC L (.shr z l.length ((l ++ [x]).map f)) (.sh z (l.map f)) := by
  have := ArgC.shr (L := L) (z := z) (n := l.length) (xs := (l ++ [x]).map f)
  rwa [← List.map_take, List.take_left] at this
theorem lent_all {α : Type} {f : α → D} {z : Nat} {l : List α} {x : α} : D.sh z (((l ++ [x]).map f).take (l.length + 1)) = .sh z ((l ++ [x]).map f) := by
  rw [List.take_of_length_le]; simp
theorem set_same {α : Type} {l : List α} {i : Nat} {x : α} (h : l[i]? = some x) : l.set i x = l := by
  obtain ⟨hi, e⟩ := List.getElem?_eq_some_iff.1 h
  rw [← e]; exact List.set_getElem_self hi
end Lp
/-
  Rows that are lent: a mark stands in the room behind them. The document's own merge.
-/
set_option linter.unusedVariables false
namespace Lp
open Go
abbrev dLent (l : List RowD) : D := .shr 2 l.length ((l ++ [RowD.mk [] (-77)]).map RowD.d)
end Lp
