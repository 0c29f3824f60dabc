/- Walks, printed by a program of mine. -/
import Derived.Lib.AppendStr
import Derived.Lib.UnsafeStr
import Derived.Test.YtoanlikkhjohpaaGreatDP
set_option linter.unusedSimpArgs false
set_option linter.unusedVariables false
namespace Lp
open Go Go.RowKit Go.Proofs

namespace HdYtoanlikkhjohpaaGreatV2
theorem zaa (b o : Nat) : ∀ w, (Instr.fieldAt 106 (.pointer (some ⟨b, o, none⟩)) 0).run Tryz.prog w = .ok (.pointer (some ⟨b, o + 0, none⟩)) w := fun _ => by kernel_rfl
theorem zaj (b o : Nat) : ∀ w, (Instr.fieldAt 106 (.pointer (some ⟨b, o, none⟩)) 1).run Tryz.prog w = .ok (.pointer (some ⟨b, o + 1, none⟩)) w := fun _ => by kernel_rfl
end HdYtoanlikkhjohpaaGreatV2
open HdYtoanlikkhjohpaaGreatV2

theorem p_eqlbl_eql {ty t' : TypeId} {K : Kd} {H : List Hp} {x y : Operand} {a b : Lbl} {q : Bool} (hx : opD K x = some (Lbl.d a)) (hy : opD K y = some (Lbl.d b)) (hq : decide (a = b) = q) : Pu Tryz.prog (.binOp .eql 106 x y t') ty K H (dB q) :=
  ⟨fun ρ w F hk _ _ => by
    obtain ⟨vs, e, u1, r1, rfl, _, ⟨rfl, _⟩, u2, r2, rfl, _, ⟨rfl, _⟩, rfl⟩ := hk.op hx
    obtain ⟨vs', e', u3, r3, rfl, _, ⟨rfl, _⟩, u4, r4, rfl, _, ⟨rfl, _⟩, rfl⟩ := hk.op hy
    refine zbt (r := .bool q) (zK ρ [x, y]) (za2 ρ e) (za1 ρ e') (fun w => ?_) ⟨rfl, rfl⟩
    subst hq
    obtain ⟨a1, a2⟩ := a
    obtain ⟨b1, b2⟩ := b
    simp [go_sem, toList_beq]
    by_cases h1 : a1 = b1 <;> by_cases h2 : a2 = b2 <;> simp [h1, h2]⟩

set_option maxHeartbeats 4000000 in
set_option maxRecDepth 100000 in
theorem zat (a : List Lbl) (b : List Lbl)  :
    CD Tryz.prog 25 [] [.sh 2 (a.map Lbl.d), .sh 2 (b.map Lbl.d)] (isR (dB (decide (a = b)))) := by
  refine zB Tryz.func25 rfl (N := 27) rfl rfl (fun C => ?_)
  refine JD.keep [0, 1] [(0, .sh 2 (a.map Lbl.d)), (1, .sh 2 (b.map Lbl.d))] rfl ?_
  refine JD.bd 0 rfl (fun bd0 => ?_)
  have nl0 := zaf bd0
  refine JD.bd 1 rfl (fun bd1 => ?_)
  have nl1 := zaf bd1
  refine zd _ _ rfl rfl rfl (zc rfl (za rfl rfl (ze rfl) (zg rfl (zf (zd _ _ rfl rfl rfl (zd _ _ rfl rfl rfl (zc rfl (za rfl rfl (zb rfl) (za rfl rfl (zas (n := a.length) rfl Tryz.runUnderlying52 (by simp only [lm, lc, ln])) (za rfl rfl (zb rfl) (za rfl rfl (zas (n := b.length) rfl Tryz.runUnderlying52 (by simp only [lm, lc, ln])) (za rfl rfl (zbG rfl rfl rfl) (zg rfl (zf ?_))))))))))))))
  refine zw _ _ rfl rfl rfl rfl (fun hc1 => ?_) (fun hc1 => ?_)
  · replace hc1 := of_decide_eq_true hc1
    refine zd _ _ rfl rfl rfl (zc rfl (za rfl rfl (ze rfl) (zg rfl (zf (zE rfl (zD ?_))))))
    exact zA Tryz.results25 (.cons (zX (zC rfl) (Cv.eq (congrArg (fun b => D.v (.bool b)) (by first | exact (zbl (by omega)).symm | exact (zcf (by omega) (by omega) hf).symm)))) .nil) rfl HSub.none ⟨rfl, rfl⟩
  · replace hc1 := of_decide_eq_false hc1
    refine zI rfl (zf (zd _ _ rfl rfl rfl (zd _ _ rfl rfl rfl (zc rfl (za rfl rfl (ze rfl) (zg rfl (zf (zu _ rfl rfl (zP (fun (g : Nat) => [(0, .sh 2 (a.map Lbl.d)), (1, .sh 2 (b.map Lbl.d)), (5, dN g)]) (fun (g : Nat) => []) (fun (g : Nat) => (g ≤ a.length) ∧ (a.take g = b.take g)) (fun (g : Nat) => a.length - g) _ 0 rfl rfl ⟨sk rfl, sk rfl, sk rfl, trivial⟩ HSub.rfl' ⟨Nat.zero_le _, by simp⟩ ?_)))))))))
    rintro k ⟨hk, hf⟩
    refine JD.keep [0, 1, 5] [(0, .sh 2 (a.map Lbl.d)), (1, .sh 2 (b.map Lbl.d)), (5, dN k)] rfl (JD.norm [] rfl (zd _ _ rfl rfl rfl (zd _ _ rfl rfl rfl (zc rfl (za rfl rfl (zb rfl) (za rfl rfl (zb rfl) (za rfl rfl (zas (n := a.length) rfl Tryz.runUnderlying52 (by simp only [lm, lc, ln])) (za rfl rfl (zV rfl rfl rfl) (zg rfl (zf ?_))))))))))
    refine zw _ _ rfl rfl rfl rfl (fun hc2 => ?_) (fun hc2 => ?_)
    · replace hc2 := of_decide_eq_true hc2
      refine zI rfl (zf (zd _ _ rfl rfl rfl (zu _ rfl rfl (zd _ _ rfl rfl rfl (JD.keep [0, 1, 5, 11, 12, 13, 14] [(0, .sh 2 (a.map Lbl.d)), (1, .sh 2 (b.map Lbl.d)), (5, dN k), (11, dN k), (12, .sh 2 (a.map Lbl.d)), (13, dN a.length), (14, dB (decide (((k : Nat) : Int) < ((a.length : Nat) : Int))))] rfl (JD.norm [] rfl ?_))))))
      obtain ⟨x1, hx1⟩ := zW a k (by omega)
      obtain ⟨x2, hx2⟩ := zW b k (by omega)
      refine zam 8 [(17, .sh 2 (a.map Lbl.d), none), (18, dN k, none), (19, .el (Lbl.d x1) 0, none), (20, Lbl.d x1, none), (21, .sh 2 (b.map Lbl.d), none), (22, dN k, none), (23, .el (Lbl.d x2) 0, none), (24, Lbl.d x2, none)] [] (Hn := []) zaH rfl rfl rfl rfl HSub.rfl' rfl ⟨sa_p rfl rfl rfl (zb rfl), sa_p rfl rfl rfl (zb rfl), sa_p rfl rfl rfl (zN (k := k) rfl rfl Tryz.runUnderlying52 Tryz.sizeOf106 (by first | rfl | omega) (zJ hx1)), sa_p rfl rfl rfl (za7 (d := Lbl.d x1) rfl Tryz.isAgg106 Tryz.sizeOf106 rfl rfl), sa_p rfl rfl rfl (zb rfl), sa_p rfl rfl rfl (zb rfl), sa_p rfl rfl rfl (zN (k := k) rfl rfl Tryz.runUnderlying52 Tryz.sizeOf106 (by first | rfl | omega) (zJ hx2)), sa_p rfl rfl rfl (za7 (d := Lbl.d x2) rfl Tryz.isAgg106 Tryz.sizeOf106 rfl rfl), trivial⟩ ?_
      refine OpsD.keep [0, 1, 5, 11, 12, 13, 14, 17, 18, 19, 20, 21, 22, 23, 24] [(0, .sh 2 (a.map Lbl.d)), (1, .sh 2 (b.map Lbl.d)), (5, dN k), (11, dN k), (12, .sh 2 (a.map Lbl.d)), (13, dN a.length), (14, dB (decide (((k : Nat) : Int) < ((a.length : Nat) : Int)))), (17, .sh 2 (a.map Lbl.d)), (18, dN k), (19, .el (Lbl.d x1) 0), (20, Lbl.d x1), (21, .sh 2 (b.map Lbl.d)), (22, dN k), (23, .el (Lbl.d x2) 0), (24, Lbl.d x2)] rfl (za rfl rfl (p_eqlbl_eql rfl rfl rfl) (za rfl rfl (zaw rfl) (zg rfl (zf ?_))))
      refine zw _ _ rfl rfl rfl rfl (fun hc3 => ?_) (fun hc3 => ?_)
      · replace hc3 := of_decide_eq_false (p := x1 = x2) (by simpa using hc3)
        refine zd _ _ rfl rfl rfl (zc rfl (za rfl rfl (ze rfl) (zg rfl (zf (zE rfl (zz (zD (z6 (zz (zD ?_))))))))))
        exact zA Tryz.results25 (.cons (zX (zC rfl) (Cv.eq (congrArg (fun b => D.v (.bool b)) (by first | exact (zbl (by omega)).symm | exact (same_ne_at hx1 hx2 (by simpa using hc3)).symm | exact (zcf (by omega) (by omega) hf).symm)))) .nil) rfl HSub.none ⟨rfl, rfl⟩
      · replace hc3 := of_decide_eq_true (p := x1 = x2) (by simpa using hc3)
        refine zI rfl (zL (zf (zc rfl (za rfl rfl (zb rfl) (za rfl rfl (zae (c := ((k + 1 : Nat) : Int)) rfl rfl (z3 (by omega) (by omega))) (za rfl rfl (ze rfl) (zg rfl ?_)))))))
        exact zU (k + 1) ⟨sk rfl, sk rfl, sk rfl, trivial⟩ HSub.rfl' ⟨by omega, same_snoc hx1 hx2 hf (by simpa using hc3)⟩ (by omega)
    · replace hc2 := of_decide_eq_false hc2
      refine zO rfl (zx (zt (zo (zf (zd _ _ rfl rfl rfl (zc rfl (za rfl rfl (ze rfl) (zg rfl (zf (zE rfl ?_))))))))))
      exact zA Tryz.results25 (.cons (zX (zC rfl) (Cv.eq (congrArg (fun b => D.v (.bool b)) (by first | exact (zbl (by omega)).symm | exact (zcf (by omega) (by omega) hf).symm)))) .nil) rfl HSub.none ⟨rfl, rfl⟩

set_option maxHeartbeats 4000000 in
set_option maxRecDepth 100000 in
theorem SameTexts_c (a : List ByteArray) (b : List ByteArray)  :
    CD Tryz.prog 102 [] [.sh 1 (a.map D.s), .sh 1 (b.map D.s)] (isR (dB (decide (a = b)))) := by
  refine zB Tryz.func102 rfl (N := 27) rfl rfl (fun C => ?_)
  refine JD.keep [0, 1] [(0, .sh 1 (a.map D.s)), (1, .sh 1 (b.map D.s))] rfl ?_
  refine JD.bd 0 rfl (fun bd0 => ?_)
  have nl0 := zaf bd0
  refine JD.bd 1 rfl (fun bd1 => ?_)
  have nl1 := zaf bd1
  refine zd _ _ rfl rfl rfl (zc rfl (za rfl rfl (ze rfl) (zg rfl (zf (zd _ _ rfl rfl rfl (zd _ _ rfl rfl rfl (zc rfl (za rfl rfl (zb rfl) (za rfl rfl (zas (n := a.length) rfl Tryz.runUnderlying53 (by simp only [lm, lc, ln])) (za rfl rfl (zb rfl) (za rfl rfl (zas (n := b.length) rfl Tryz.runUnderlying53 (by simp only [lm, lc, ln])) (za rfl rfl (zbG rfl rfl rfl) (zg rfl (zf ?_))))))))))))))
  refine zw _ _ rfl rfl rfl rfl (fun hc1 => ?_) (fun hc1 => ?_)
  · replace hc1 := of_decide_eq_true hc1
    refine zd _ _ rfl rfl rfl (zc rfl (za rfl rfl (ze rfl) (zg rfl (zf (zE rfl (zD ?_))))))
    exact zA Tryz.results102 (.cons (zX (zC rfl) (Cv.eq (congrArg (fun b => D.v (.bool b)) (by first | exact (zbl (by omega)).symm | exact (zcf (by omega) (by omega) hf).symm)))) .nil) rfl HSub.none ⟨rfl, rfl⟩
  · replace hc1 := of_decide_eq_false hc1
    refine zI rfl (zf (zd _ _ rfl rfl rfl (zd _ _ rfl rfl rfl (zc rfl (za rfl rfl (ze rfl) (zg rfl (zf (zu _ rfl rfl (zP (fun (g : Nat) => [(0, .sh 1 (a.map D.s)), (1, .sh 1 (b.map D.s)), (5, dN g)]) (fun (g : Nat) => []) (fun (g : Nat) => (g ≤ a.length) ∧ (a.take g = b.take g)) (fun (g : Nat) => a.length - g) _ 0 rfl rfl ⟨sk rfl, sk rfl, sk rfl, trivial⟩ HSub.rfl' ⟨Nat.zero_le _, by simp⟩ ?_)))))))))
    rintro k ⟨hk, hf⟩
    refine JD.keep [0, 1, 5] [(0, .sh 1 (a.map D.s)), (1, .sh 1 (b.map D.s)), (5, dN k)] rfl (JD.norm [] rfl (zd _ _ rfl rfl rfl (zd _ _ rfl rfl rfl (zc rfl (za rfl rfl (zb rfl) (za rfl rfl (zb rfl) (za rfl rfl (zas (n := a.length) rfl Tryz.runUnderlying53 (by simp only [lm, lc, ln])) (za rfl rfl (zV rfl rfl rfl) (zg rfl (zf ?_))))))))))
    refine zw _ _ rfl rfl rfl rfl (fun hc2 => ?_) (fun hc2 => ?_)
    · replace hc2 := of_decide_eq_true hc2
      refine zI rfl (zf (zd _ _ rfl rfl rfl (zu _ rfl rfl (zd _ _ rfl rfl rfl (JD.keep [0, 1, 5, 11, 12, 13, 14] [(0, .sh 1 (a.map D.s)), (1, .sh 1 (b.map D.s)), (5, dN k), (11, dN k), (12, .sh 1 (a.map D.s)), (13, dN a.length), (14, dB (decide (((k : Nat) : Int) < ((a.length : Nat) : Int))))] rfl (JD.norm [] rfl ?_))))))
      obtain ⟨x1, hx1⟩ := zW a k (by omega)
      obtain ⟨x2, hx2⟩ := zW b k (by omega)
      refine zam 8 [(17, .sh 1 (a.map D.s), none), (18, dN k, none), (19, .el (.s x1) 0, none), (20, .s x1, none), (21, .sh 1 (b.map D.s), none), (22, dN k, none), (23, .el (.s x2) 0, none), (24, .s x2, none)] [] (Hn := []) zaH rfl rfl rfl rfl HSub.rfl' rfl ⟨sa_p rfl rfl rfl (zb rfl), sa_p rfl rfl rfl (zb rfl), sa_p rfl rfl rfl (zN (k := k) rfl rfl Tryz.runUnderlying53 Tryz.sizeOf9 (by first | rfl | omega) (zJ hx1)), sa_p rfl rfl rfl (zS rfl Tryz.isAgg9 rfl), sa_p rfl rfl rfl (zb rfl), sa_p rfl rfl rfl (zb rfl), sa_p rfl rfl rfl (zN (k := k) rfl rfl Tryz.runUnderlying53 Tryz.sizeOf9 (by first | rfl | omega) (zJ hx2)), sa_p rfl rfl rfl (zS rfl Tryz.isAgg9 rfl), trivial⟩ (OpsD.keep [0, 1, 5, 11, 12, 13, 14, 17, 18, 19, 20, 21, 22, 23, 24] [(0, .sh 1 (a.map D.s)), (1, .sh 1 (b.map D.s)), (5, dN k), (11, dN k), (12, .sh 1 (a.map D.s)), (13, dN a.length), (14, dB (decide (((k : Nat) : Int) < ((a.length : Nat) : Int)))), (17, .sh 1 (a.map D.s)), (18, dN k), (19, .el (.s x1) 0), (20, .s x1), (21, .sh 1 (b.map D.s)), (22, dN k), (23, .el (.s x2) 0), (24, .s x2)] rfl (za rfl rfl (zbd rfl rfl rfl) (za rfl rfl (zaw rfl) (zg rfl ?_))))
      refine zf ?_
      refine zw _ _ rfl rfl rfl rfl (fun hc3 => ?_) (fun hc3 => ?_)
      · replace hc3 := of_decide_eq_false (p := x1 = x2) (by simpa using hc3)
        refine zd _ _ rfl rfl rfl (zc rfl (za rfl rfl (ze rfl) (zg rfl (zf (zE rfl (zz (zD (z6 (zz (zD ?_))))))))))
        exact zA Tryz.results102 (.cons (zX (zC rfl) (Cv.eq (congrArg (fun b => D.v (.bool b)) (by first | exact (zbl (by omega)).symm | exact (same_ne_at hx1 hx2 (by simpa using hc3)).symm | exact (zcf (by omega) (by omega) hf).symm)))) .nil) rfl HSub.none ⟨rfl, rfl⟩
      · replace hc3 := of_decide_eq_true (p := x1 = x2) (by simpa using hc3)
        refine zI rfl (zL (zf (zc rfl (za rfl rfl (zb rfl) (za rfl rfl (zae (c := ((k + 1 : Nat) : Int)) rfl rfl (z3 (by omega) (by omega))) (za rfl rfl (ze rfl) (zg rfl ?_)))))))
        exact zU (k + 1) ⟨sk rfl, sk rfl, sk rfl, trivial⟩ HSub.rfl' ⟨by omega, same_snoc hx1 hx2 hf (by simpa using hc3)⟩ (by omega)
    · replace hc2 := of_decide_eq_false hc2
      refine zO rfl (zx (zt (zo (zf (zd _ _ rfl rfl rfl (zc rfl (za rfl rfl (ze rfl) (zg rfl (zf (zE rfl ?_))))))))))
      exact zA Tryz.results102 (.cons (zX (zC rfl) (Cv.eq (congrArg (fun b => D.v (.bool b)) (by first | exact (zbl (by omega)).symm | exact (zcf (by omega) (by omega) hf).symm)))) .nil) rfl HSub.none ⟨rfl, rfl⟩

set_option maxHeartbeats 4000000 in
set_option maxRecDepth 100000 in
theorem zca (l : List Lbl)  :
    CD Tryz.prog 16 [] [.sh 2 (l.map Lbl.d)] (isR (dB (zaN l))) := by
  refine zB Tryz.func16 rfl (N := 33) rfl rfl (fun C => ?_)
  refine JD.keep [0] [(0, .sh 2 (l.map Lbl.d))] rfl ?_
  refine JD.bd 0 rfl (fun bd0 => ?_)
  have nl0 := zaf bd0
  refine zd _ _ rfl rfl rfl (zc rfl (za rfl rfl (ze rfl) (zg rfl (zf (zd _ _ rfl rfl rfl (zd _ _ rfl rfl rfl (zc rfl (za rfl rfl (ze rfl) (zg rfl (zf (zu _ rfl rfl (zP (fun (g : Nat) => [(0, .sh 2 (l.map Lbl.d)), (3, dN g)]) (fun (g : Nat) => []) (fun (g : Nat) => (g ≤ l.length ∧ g ≤ 30) ∧ ((l.take g).all (fun x => decide (x.n.size ≤ 200) && decide (x.v.size ≤ 200)) = true)) (fun (g : Nat) => l.length - g) _ 0 rfl rfl ⟨sk rfl, sk rfl, trivial⟩ HSub.rfl' ⟨⟨Nat.zero_le _, Nat.zero_le _⟩, by simp⟩ ?_))))))))))))
  rintro k ⟨hk, hf⟩
  refine JD.keep [0, 3] [(0, .sh 2 (l.map Lbl.d)), (3, dN k)] rfl (JD.norm [] rfl (zd _ _ rfl rfl rfl (zd _ _ rfl rfl rfl (JD.keep [0, 3] [(0, .sh 2 (l.map Lbl.d)), (3, dN k)] rfl ?_))))
  refine zau 11 ((decide (((k : Nat) : Int) < ((l.length : Nat) : Int)) && decide (((k : Nat) : Int) < (30 : Int)))) [] (fun _ hQ1 => ?_) ?_
  · skip
    by_cases hg2 : ((k : Nat) : Int) < ((l.length : Nat) : Int)
    · skip
      refine zc rfl (za rfl rfl (zb rfl) (za rfl rfl (zb rfl) (za rfl rfl (zas (n := l.length) rfl Tryz.runUnderlying52 (by simp only [lm, lc, ln])) (za rfl rfl (zV rfl rfl (decide_eq_true hg2)) (za rfl rfl (zb rfl) (zh rfl rfl rfl rfl rfl (zb rfl) (zh rfl rfl rfl rfl rfl (zV rfl rfl rfl) (za rfl rfl (zm rfl rfl) (zg rfl ?_)))))))))
      exact PD.sub ((11, dB (decide (((k : Nat) : Int) < ((l.length : Nat) : Int)) && decide (((k : Nat) : Int) < (30 : Int)))) :: [(0, .sh 2 (l.map Lbl.d)), (3, dN k)]) ⟨sc rfl (Cv.eq (congrArg (fun b => D.v (.bool b)) (by first | (simp [hg2]; done) | (simp_all; done)))), sk rfl, sk rfl, trivial⟩ hQ1
    · skip
      refine zc rfl (za rfl rfl (zb rfl) (za rfl rfl (zb rfl) (za rfl rfl (zas (n := l.length) rfl Tryz.runUnderlying52 (by simp only [lm, lc, ln])) (za rfl rfl (zV rfl rfl (decide_eq_false hg2)) (za rfl rfl (zb rfl) (zi rfl rfl rfl rfl rfl (by decide) (zi rfl rfl rfl rfl rfl (by decide) (za rfl rfl (zp rfl rfl) (zg rfl ?_)))))))))
      exact PD.sub ((11, dB (decide (((k : Nat) : Int) < ((l.length : Nat) : Int)) && decide (((k : Nat) : Int) < (30 : Int)))) :: [(0, .sh 2 (l.map Lbl.d)), (3, dN k)]) ⟨sc rfl (Cv.eq (congrArg (fun b => D.v (.bool b)) (by first | (simp [hg2]; done) | (simp_all; done)))), sk rfl, sk rfl, trivial⟩ hQ1
  · skip
    refine zf ?_
    refine zw _ _ rfl rfl rfl rfl (fun hc3 => ?_) (fun hc3 => ?_)
    · simp only [Bool.and_eq_true, Bool.or_eq_true, Bool.not_eq_true', Bool.not_eq_false', Bool.and_eq_false_iff, Bool.or_eq_false_iff, decide_eq_true_eq, decide_eq_false_iff_not, Decidable.not_not, ne_eq] at hc3
      refine zI rfl (zf (zd _ _ rfl rfl rfl (zu _ rfl rfl (zd _ _ rfl rfl rfl ?_))))
      obtain ⟨x1, hx1⟩ := zW l k (by omega)
      refine JD.keep [0, 3, 11] [(0, .sh 2 (l.map Lbl.d)), (3, dN k), (11, dB (decide (((k : Nat) : Int) < ((l.length : Nat) : Int)) && decide (((k : Nat) : Int) < (30 : Int))))] rfl ?_
      refine zau 29 ((decide ((200 : Int) < ((x1.n.size : Nat) : Int)) || decide ((200 : Int) < ((x1.v.size : Nat) : Int)))) [] (fun _ hQ4 => ?_) ?_
      · skip
        by_cases hg5 : (200 : Int) < ((x1.n.size : Nat) : Int)
        · skip
          refine zc rfl (za rfl rfl (zb rfl) (za rfl rfl (zb rfl) (za rfl rfl (zN (k := k) rfl rfl Tryz.runUnderlying52 Tryz.sizeOf106 (by first | rfl | omega) (zJ hx1)) (za rfl rfl (zT rfl zaa rfl) (za rfl rfl (zS rfl Tryz.isAgg9 rfl) (za rfl rfl (zan rfl Tryz.runUnderlying9) (za rfl rfl (zaW rfl rfl (decide_eq_true hg5)) (za rfl rfl (zb rfl) (zi rfl rfl rfl rfl rfl (by decide) (zi rfl rfl rfl rfl rfl (by decide) (zi rfl rfl rfl rfl rfl (by decide) (zi rfl rfl rfl rfl rfl (by decide) (zi rfl rfl rfl rfl rfl (by decide) (zi rfl rfl rfl rfl rfl (by decide) (zi rfl rfl rfl rfl rfl (by decide) (za rfl rfl (zm rfl rfl) (zg rfl ?_)))))))))))))))))
          exact PD.sub ((29, dB (decide ((200 : Int) < ((x1.n.size : Nat) : Int)) || decide ((200 : Int) < ((x1.v.size : Nat) : Int)))) :: [(0, .sh 2 (l.map Lbl.d)), (3, dN k), (11, dB (decide (((k : Nat) : Int) < ((l.length : Nat) : Int)) && decide (((k : Nat) : Int) < (30 : Int))))]) ⟨sc rfl (Cv.eq (congrArg (fun b => D.v (.bool b)) (by first | (simp [hg5]; done) | (simp_all; done)))), sk rfl, sk rfl, sk rfl, trivial⟩ hQ4
        · skip
          refine zc rfl (za rfl rfl (zb rfl) (za rfl rfl (zb rfl) (za rfl rfl (zN (k := k) rfl rfl Tryz.runUnderlying52 Tryz.sizeOf106 (by first | rfl | omega) (zJ hx1)) (za rfl rfl (zT rfl zaa rfl) (za rfl rfl (zS rfl Tryz.isAgg9 rfl) (za rfl rfl (zan rfl Tryz.runUnderlying9) (za rfl rfl (zaW rfl rfl (decide_eq_false hg5)) (za rfl rfl (zb rfl) (zh rfl rfl rfl rfl rfl (zb rfl) (zh rfl rfl rfl rfl rfl (zb rfl) (zh rfl rfl rfl rfl rfl (zN (k := k) rfl rfl Tryz.runUnderlying52 Tryz.sizeOf106 (by first | rfl | omega) (zJ hx1)) (zh rfl rfl rfl rfl rfl (zT rfl zaj rfl) (zh rfl rfl rfl rfl rfl (zS rfl Tryz.isAgg9 rfl) (zh rfl rfl rfl rfl rfl (zan rfl Tryz.runUnderlying9) (zh rfl rfl rfl rfl rfl (zaW rfl rfl rfl) (za rfl rfl (zp rfl rfl) (zg rfl ?_)))))))))))))))))
          exact PD.sub ((29, dB (decide ((200 : Int) < ((x1.n.size : Nat) : Int)) || decide ((200 : Int) < ((x1.v.size : Nat) : Int)))) :: [(0, .sh 2 (l.map Lbl.d)), (3, dN k), (11, dB (decide (((k : Nat) : Int) < ((l.length : Nat) : Int)) && decide (((k : Nat) : Int) < (30 : Int))))]) ⟨sc rfl (Cv.eq (congrArg (fun b => D.v (.bool b)) (by first | (simp [hg5]; done) | (simp_all; done)))), sk rfl, sk rfl, sk rfl, trivial⟩ hQ4
      · skip
        refine zf ?_
        refine zw _ _ rfl rfl rfl rfl (fun hc6 => ?_) (fun hc6 => ?_)
        · simp only [Bool.and_eq_true, Bool.or_eq_true, Bool.not_eq_true', Bool.not_eq_false', Bool.and_eq_false_iff, Bool.or_eq_false_iff, decide_eq_true_eq, decide_eq_false_iff_not, Decidable.not_not, ne_eq] at hc6
          refine zd _ _ rfl rfl rfl (zc rfl (za rfl rfl (ze rfl) (zg rfl (zf (zE rfl (zz (zD (z6 (zz (zD ?_))))))))))
          exact zA Tryz.results16 (.cons (zX (zC rfl) (Cv.eq (congrArg (fun b => D.v (.bool b)) (by first | rw [lightL_bad hx1 (by omega) (by omega)] | (rw [lightL_end hf (by omega)]; exact decide_eq_decide.2 (by omega)))))) .nil) rfl HSub.none ⟨rfl, rfl⟩
        · simp only [Bool.and_eq_true, Bool.or_eq_true, Bool.not_eq_true', Bool.not_eq_false', Bool.and_eq_false_iff, Bool.or_eq_false_iff, decide_eq_true_eq, decide_eq_false_iff_not, Decidable.not_not, ne_eq] at hc6
          refine zI rfl (zL (zf (zc rfl (za rfl rfl (zb rfl) (za rfl rfl (zae (c := ((k + 1 : Nat) : Int)) rfl rfl (z3 (by omega) (by omega))) (za rfl rfl (ze rfl) (zg rfl ?_)))))))
          exact zU (k + 1) ⟨sk rfl, sk rfl, trivial⟩ HSub.rfl' ⟨by omega, all_take_snoc hx1 hf (by simp only [Bool.and_eq_true, decide_eq_true_eq]; omega)⟩ (by omega)
    · simp only [Bool.and_eq_true, Bool.or_eq_true, Bool.not_eq_true', Bool.not_eq_false', Bool.and_eq_false_iff, Bool.or_eq_false_iff, decide_eq_true_eq, decide_eq_false_iff_not, Decidable.not_not, ne_eq] at hc3
      refine zO rfl (zx (zt (zo (zf (zd _ _ rfl rfl rfl (zc rfl (za rfl rfl (zb rfl) (za rfl rfl (zas (n := l.length) rfl Tryz.runUnderlying52 (by simp only [lm, lc, ln])) (za rfl rfl (zaK rfl rfl rfl) (za rfl rfl (ze rfl) (zg rfl (zf (zE rfl ?_)))))))))))))
      exact zA Tryz.results16 (.cons (zX (zC rfl) (Cv.eq (congrArg (fun b => D.v (.bool b)) (by first | rw [lightL_bad hk (by omega) (by omega)] | (rw [lightL_end hf (by omega)]; exact decide_eq_decide.2 (by omega)))))) .nil) rfl HSub.none ⟨rfl, rfl⟩

end Lp
/-
  BYTES: rows of bytes, texts appended to them; a strings.Builder.
-/
set_option linter.unusedVariables false
namespace Lp
open Go Go.RowKit
open Go.Lib (strCells strCells_eq byteCells byteCells_length run_append_own_string)

abbrev dU8 (b : UInt8) : D := .v (.int .u8 (b.toNat : Int))
theorem zbE {n : Int} {m : Nat} (h : n = (m : Int)) (hm : m < 256) : D.v (.int .u8 n) = dU8 (UInt8.ofNat m) := by
  have : (UInt8.ofNat m).toNat = m := by simp [UInt8.toNat_ofNat']; omega
  unfold dU8; rw [this, h]

theorem newRow_at {P : Program} {E : TypeId} {c : Array Value} {a : Addr} {w w1 : World} (h : (newRow E c).run P w = .ok a w1) : a = ⟨w.heap.size, 0, none⟩ := by
  simp [newRow] at h
  exact h.1.symm
theorem append_moved_s {P : Program} {w w' : World} {t u ty E n cap : Nat} {A : Option Addr} {s : ByteArray} {v' : Value} {i : TypeInfo} (ht : P.underlying t = some (.slice E)) (hu : P.underlying u = some .string) (hi : P.info? E = some i) (hn : cap < n + s.size) (hm : n + s.size ≤ maxLen)
    (h : (Builtin.append_ #[t, u] ty #[.slice A n cap, .string s]).run P w = .ok v' w') : Ext w w' ∧ v'.ownBlock = some w.heap.size := by
  simp [Builtin.append_, run_underlying ht, run_underlying hu, Go.sizeOf, typeInfo, hi, Builtin.lenOf, show ¬ n + s.size ≤ cap by omega] at h
  have fin : ∀ {W : World} {k : Nat} {f : Addr → World → Result Value}, Ext w W → W.heap.size = w.heap.size → (∀ a w1 v w2, f a w1 = .ok v w2 → w2 = w1 ∧ v.ownBlock = some a.block) → ((Sem.run P (Builtin.firstCells i.size n (Value.slice A n cap)) W).andThen fun a w' =>
                (Sem.run P (Builtin.firstCells i.size s.size (.string s)) w').andThen fun a_1 w' =>
                  (Sem.run P (zeroValue E) w').andThen fun a_2 w' =>
                    (Sem.run P (newRow E (a ++ (a_1 ++ Builtin.zeroCells a_2.cells k))) w').andThen f) = .ok v' w' → Ext w w' ∧ v'.ownBlock = some w.heap.size := by
    intro W k f hE hsz hf h
    obtain ⟨a, w1, h1, h⟩ := zaT h
    obtain ⟨a1, w2, h2, h⟩ := zaT h
    obtain ⟨a2, w3, h3, h⟩ := zaT h
    obtain ⟨a3, w4, h4, h⟩ := zaT h
    have e1 := firstCells_same h1
    have e2 : w2 = w1 := by simp [Builtin.firstCells] at h2; exact h2.2.symm
    have e3 := zero_same h3
    have e4 := newRow_ext h4
    have e5 := newRow_at h4
    have e6 := hf _ _ _ _ h
    subst e1; subst e2; subst e3
    rw [e6.1]
    exact ⟨hE.trans e4, by rw [e6.2, e5, hsz]⟩
  have hcond : ¬ (9223372036854775807 < (n : Int) + (s.size : Int) ∧ i.bytes = 0) := by
    rintro ⟨h1, _⟩; unfold maxLen at hm; omega
  rw [if_neg hcond] at h
  split at h
  · obtain ⟨_, _, h, _⟩ := zaT h; obtain ⟨_, _, _, h⟩ := zaT h; cases h
  · split at h
    · refine fin (W := w) (k := 0) (f := fun a w' => Result.ok (.slice (some a) (n + s.size) 0) w') Ext.rfl' rfl (fun _ _ _ _ h => by cases h; exact ⟨rfl, rfl⟩) ?_
      simpa [Builtin.firstCells] using h
    · refine fin (W := w.drew) (k := (Question.appendCap (n + s.size) cap E).cut (w.tape w.drawn (Question.appendCap (n + s.size) cap E)) - (n + s.size)) (f := fun a w' => Result.ok (.slice (some a) (n + s.size) ((Question.appendCap (n + s.size) cap E).cut (w.tape w.drawn (Question.appendCap (n + s.size) cap E)))) w') (Ext.drew w) rfl (fun _ _ _ _ h => by cases h; exact ⟨rfl, rfl⟩) ?_
      simpa [Builtin.firstCells] using h
theorem append_inplace_s {P : Program} {w w' : World} {t u ty E n cap : Nat} {A : Option Addr} {s : ByteArray} {v' : Value} {i : TypeInfo} (ht : P.underlying t = some (.slice E)) (hu : P.underlying u = some .string) (hi : P.info? E = some i) (hn : n + s.size ≤ cap)
    (h : (Builtin.append_ #[t, u] ty #[.slice A n cap, .string s]).run P w = .ok v' w') : v' = .slice A (n + s.size) cap := by
  simp [Builtin.append_, run_underlying ht, run_underlying hu, Go.sizeOf, typeInfo, hi, Builtin.lenOf, hn] at h
  obtain ⟨a, w1, h1, h⟩ := zaT h
  cases A with
  | none => simp at h; exact h.1.symm
  | some ad =>
    simp at h
    obtain ⟨_, _, _, h⟩ := zaT h
    cases h; rfl

theorem strCells_get {s : ByteArray} : ∀ u ∈ strCells s, u.oneCell' = true := by
  intro u hu
  rw [strCells_eq] at hu
  simp only [byteCells, List.mem_map] at hu
  obtain ⟨b, _, rfl⟩ := hu
  rfl
theorem flat_one : ∀ {us : List Value}, (∀ u ∈ us, u.oneCell' = true) → us.flatMap vcs = us
  | [], _ => rfl
  | u :: r, h => by rw [List.flatMap_cons, vcs_one (h u List.mem_cons_self), flat_one (fun x hx => h x (List.mem_cons_of_mem _ hx))]; rfl
theorem repE_bytes {w : World} {F : Nat → Prop} : ∀ l : List UInt8, RepE w F 1 (l.map dU8) (byteCells l)
  | [] => rfl
  | b :: r => ⟨_, _, rfl, rfl, One.one rfl, rfl, repE_bytes r⟩

section
variable {P : Program} {ty : TypeId} {K : Kd} {H : List Hp}
theorem ef_append_s {t u : TypeId} {x y : Operand} {i : Nat} {v : Value} {T : TypeId} {bs : List UInt8} {s : ByteArray} (hx : opO K x = some v) (hm : nth H i = some (.sl v 1 T (bs.map dU8))) (hy : opS K y = some s) (ht : P.underlying t = some (.slice T)) (hu : P.underlying u = some .string)
    (hi' : ∃ i, P.info? T = some i ∧ i.zero = some (.int .u8 0) ∧ i.size = 1 ∧ i.bytes = 1) (hlen : bs.length + s.size ≤ 140737488355328) :
    Ef P (.call { callee := .builtin .append, args := #[x, y], argTypes := #[t, u] }) ty K H (fun d H' => ∃ v', d = .ov v' ∧ H' = H.set i (.sl v' 1 T ((bs ++ s.data.toList).map dU8))) :=
  ⟨fun C ρ w F hk gd => by
    obtain ⟨us, hus, hown⟩ := gd.h.ok _ (z7 hm)
    have hul := hus.len
    rw [List.length_map] at hul
    obtain ⟨i, q1, q2, q3, q4⟩ := hi'
    have hmx : us.length + s.size ≤ maxLen := by unfold maxLen; omega
    obtain ⟨v', w', r1, r2, r3, _⟩ := run_append_own_string (P := P) (w := w) 0 t u ty T i ht hu q1 q2 q3 q4 v us.length _ hown.1 s hmx (by omega) (Nat.zero_le _)
    refine EOp.of_run (v := v') (w' := w') (by
      have e1 := hk.opO hx
      have e2 := hk.opS hy
      simp [execOp, zaq, resolve, invoke, builtin, e1, e2, r1]) ?_
    obtain ⟨A, cp, ev, _⟩ := hown.sl.capOk
    have hblk : v'.ownBlock = v.ownBlock ∨ v'.ownBlock = some w.heap.size := by
      rw [ev] at r1
      by_cases hin : us.length + s.size ≤ cp
      · left; rw [append_inplace_s ht hu q1 hin r1, ev]; cases A <;> rfl
      · right; exact (append_moved_s ht hu q1 (by omega) hmx r1).2
    have hone : ∀ x ∈ strCells s, (vcs x).length = 1 := fun x hx => by rw [vcs_one (strCells_get x hx)]; rfl
    have hsz : (strCells s).length = s.size := by rw [strCells_eq, byteCells_length]; simp
    have how : Own vcs 1 T w' 0 v' (us ++ strCells s) := by
      refine ⟨?_, fun x hx => ?_⟩
      · rw [List.length_append, hsz, List.flatMap_append, flat_one strCells_get]; exact r2
      · rcases List.mem_append.1 hx with hx | hx
        · exact hown.2 x hx
        · exact hone x hx
    have := gd.turn (h' := .sl v' 1 T ((bs ++ s.data.toList).map dU8)) hm (fun c hc hn => r3.block c hc (fun e => hn e.symm)) r3.size r3.os r3.tape r3.output (fun c e => by
      rcases hblk with h3 | h3
      · exact .inl (by show v.ownBlock = _; rw [← h3]; exact e)
      · have e' : v'.ownBlock = some c := e
        rw [h3] at e'; cases e'; exact .inr (Nat.le_refl _)) (fun kp => ⟨us ++ strCells s, by rw [List.map_append, strCells_eq]; exact (hus.keep kp).app (repE_bytes _), how⟩)
    exact ⟨F, .ov v', _, ⟨v', rfl, rfl⟩, ⟨rfl, how.one⟩, this.1, this.2⟩⟩
/-- What one entry owned is let go, however it has turned. -/
theorem Good.lose {C : Ctx} {H : List Hp} {w w' : World} {F : Nat → Prop} {i : Nat} {h : Hp} (g : Good C H w F) (hi : nth H i = some h)
    (hupd : ∀ b, b < w.heap.size → ¬ h.blk b → w'.heap[b]? = w.heap[b]?) (hsz : w.heap.size ≤ w'.heap.size) (hos : w'.os = w.os) (htp : w'.tape = w.tape) (hout : w'.output = w.output) : Good C (H.take i ++ H.drop (i + 1)) w' F ∧ Keep w F w' F := by
  have hmem := z7 hi
  have hp := (zr hi)
  have gp := (HSub.perm hp).out _ _ _ g
  have hap := List.pairwise_cons.1 gp.h.apart
  have hk : Keep w F w' F := ⟨fun _ h => h, fun b hF hlt => hupd b hlt (fun e => (g.h.mine b ⟨h, hmem, e⟩).2 hF)⟩
  refine ⟨⟨Nat.le_trans g.size hsz, hos.trans g.os, htp.trans g.tape, hout.trans g.output, fun b hb1 hn => ?_, g.fsub, g.fnew, fun b hF => Nat.lt_of_lt_of_le (g.flt b hF) hsz, hap.2, fun x hx => ?_, fun b ⟨x, hx, e⟩ => gp.h.mine b ⟨x, List.mem_cons_of_mem _ hx, e⟩⟩, hk⟩
  · rw [hupd b (Nat.lt_of_lt_of_le hb1 g.size) (fun e => ?_)]
    · exact g.frame b hb1 hn
    · rcases (g.h.mine b ⟨h, hmem, e⟩).1 with h1 | h1
      · omega
      · exact hn h1
  · have hox := gp.h.ok x (List.mem_cons_of_mem _ hx)
    exact Hp.keep hox hk (fun b hb1 => hupd b (Hp.lt hox hb1) (fun e => hap.1 x hx b e hb1))

theorem p_sliceData {x : Operand} {t : Array TypeId} {i z : Nat} {v : Value} {T : TypeId} {xs : List D} (hx : opO K x = some v) (hm : nth H i = some (.sl v z T xs)) (hn : 0 < xs.length) : Pu P (.call { callee := .builtin .unsafeSliceData, args := #[x], argTypes := t }) ty K H (.v (.pointer (some ⟨bl v, 0, none⟩))) :=
  ⟨fun ρ w F hk _ hH => by
    obtain ⟨us, hus, hown⟩ := hH _ (z7 hm)
    have hul := hus.len
    obtain ⟨cap, r, e, _, _, hc, _⟩ := hown.form (by omega)
    refine EOp.of_run (v := .pointer (some ⟨bl v, 0, none⟩)) (w' := w) ?_ ⟨rfl, rfl⟩
    have e1 := hk.opO hx
    rw [e] at e1
    have hr := Lib.run_unsafeSliceData_row (P := P) (w := w) t ty ⟨bl v, 0, none⟩ us.length cap (by omega)
    simp [execOp, zaq, resolve, invoke, builtin, e1, hr]⟩
theorem ef_unsafeString {x y : Operand} {t1 t2 i : Nat} {v : Value} {T : TypeId} {bs : List UInt8} {n : Int} (hx : opD K x = some (.v (.pointer (some ⟨bl v, 0, none⟩)))) (hy : opD K y = some (.v (.int .i64 n))) (hn : n = (bs.length : Int)) (hm : nth H i = some (.sl v 1 T (bs.map dU8))) (h0 : bs ≠ [])
    (hp : P.underlying t1 = some (.pointer T)) (hc : P.cellsOf T = 1) : Ef P (.call { callee := .builtin .unsafeString, args := #[x, y], argTypes := #[t1, t2] }) ty K H (fun d H' => d = .s ⟨bs.toArray⟩ ∧ H' = H.take i ++ H.drop (i + 1)) :=
  ⟨fun C ρ w F hk gd => by
    obtain ⟨us, hus, hown⟩ := gd.h.ok _ (z7 hm)
    have hul := hus.len
    rw [List.length_map] at hul
    have hpos : 0 < bs.length := List.length_pos_iff.2 h0
    obtain ⟨cap, r, e, _, hB, hc1, hc2, hc3⟩ := hown.form (by omega)
    have hmx : bs.length ≤ 9223372036854775807 := by unfold maxLen at hc2; omega
    have hsh : w.shape? (bl v) = some (T, cap) := by
      unfold Box at hB
      simp only [World.shape?, hB]
      simp only [List.size_toArray, hc3, Nat.mul_one]
    have hcell : ∀ j x, bs[j]? = some x → w.cell? ⟨bl v, j, none⟩ = some (.int .u8 x.toNat) := by
      intro j b hj
      obtain ⟨u, h1, h2, _⟩ := hus.get (k := j) (x := dU8 b) (by rw [List.getElem?_map, hj]; rfl)
      have := hown.sl.at_ h1
      have hof : of_ v = 0 := by rw [e]; rfl
      rw [hof, Nat.zero_add, Nat.mul_one] at this
      have hu : u = .int .u8 (b.toNat : Int) := h2
      subst hu
      exact this.2 0 _ rfl
    have hrun := Lib.run_unsafeString_row (P := P) (w := w) t1 t2 ty T hp hc (bl v) cap hsh bs h0 (by omega) hmx
    subst hn
    have e1 : ev ρ x = _ := hk.op hx
    have e2 : ev ρ y = _ := hk.op hy
    have hf : ∀ k, k ≠ bl v → (w.freeze ⟨bl v, 0, none⟩ bs.length).heap[k]? = w.heap[k]? := by
      intro k hk'
      unfold World.freeze
      split
      · rfl
      · simp only [Array.getElem?_modify]; rw [if_neg (fun h => hk' h.symm)]
    have hsz : (w.freeze ⟨bl v, 0, none⟩ bs.length).heap.size = w.heap.size := by
      unfold World.freeze; split <;> simp
    have hos : (w.freeze ⟨bl v, 0, none⟩ bs.length).os = w.os ∧ (w.freeze ⟨bl v, 0, none⟩ bs.length).tape = w.tape ∧ (w.freeze ⟨bl v, 0, none⟩ bs.length).output = w.output := by
      unfold World.freeze; split <;> exact ⟨rfl, rfl, rfl⟩
    have := gd.lose (w' := w.freeze ⟨bl v, 0, none⟩ bs.length) hm (fun b hb hn => hf b (fun e' => hn (by subst e'; show v.ownBlock = _; rw [e]; rfl))) (Nat.le_of_eq hsz.symm) hos.1 hos.2.1 hos.2.2
    refine EOp.of_run (v := .string ⟨bs.toArray⟩) (w' := w.freeze ⟨bl v, 0, none⟩ bs.length) ?_ ⟨F, _, _, ⟨rfl, rfl⟩, ⟨rfl, ?_⟩, this.1, this.2⟩
    · have := hrun (fun j x hj => by rw [show (⟨bl v, 0, none⟩ : Addr).add j = ⟨bl v, j, none⟩ by cases j <;> simp [Addr.add]]; exact hcell j x hj)
      simp [execOp, zaq, resolve, invoke, builtin, e1, e2, this]
    · show bs.toArray.size ≤ maxLen
      unfold maxLen; simp; omega⟩
/-! ### a range over a text -/
theorem zcJ {x : Operand} {t : TypeId} {s : ByteArray} (hx : opS K x = some s) (ht : ∀ w, (underlying t).run P w = .ok .string w) : Ef P (.range t x) ty K H (fun d H' => ∃ g, d = .v (.pointer (some ⟨g, 0, none⟩)) ∧ H' = .it g s 0 :: H) :=
  ⟨fun C ρ w F hk gd => by
    have e := hk.opS hx
    refine EOp.of_run (v := .pointer (some ⟨w.heap.size, 0, none⟩)) (w' := w.alloc (.stringIter s 0)) (by simp [execOp, zaq, e, Instr.range, ht]) ?_
    have E := Ext.alloc w (.stringIter s 0)
    have g' := gd.ext E
    refine ⟨F, _, _, ⟨w.heap.size, rfl, rfl⟩, rfl, g'.more (heap_alloc_new w _) (fun b hb => ?_), Keep.ext E⟩
    cases hb
    exact ⟨gd.size, fun hF => by have := gd.flt _ hF; omega, fun hB => by have := zc3 gd.h hB; omega⟩⟩
def decR (s : ByteArray) (p : Nat) : Nat := (Utf8.decode s p).1
def decW (s : ByteArray) (p : Nat) : Nat := (Utf8.decode s p).2
theorem zbY {x : Operand} {s : ByteArray} {g p i : Nat} (hx : opD K x = some (.v (.pointer (some ⟨g, 0, none⟩)))) (hm : nth H i = some (.it g s p)) (hp : p < s.size) :
    Ef P (.next x true) ty K H (fun d H' => d = .tup [.v (.bool true), .v (.int .i64 (p : Int)), .v (.int .i32 (decR s p : Int))] ∧ H' = H.set i (.it g s (p + decW s p))) :=
  ⟨fun C ρ w F hk gd => by
    have e : ev ρ x = _ := hk.op hx
    have hb : w.heap[g]? = some (.stringIter s p) := gd.h.ok _ (z7 hm)
    have hlt := (Array.getElem?_eq_some_iff.1 hb).1
    refine EOp.of_run (v := .tuple #[.bool true, .int .i64 (p : Int), .int .i32 (decR s p : Int)]) (w' := { w with heap := w.heap.setIfInBounds g (.stringIter s (p + decW s p)) }) ?_ ?_
    · simp [execOp, zaq, e, Instr.next, getObj, setObj, Sem.run, hb, hp, decR, decW, goInt]
    have := gd.turn (h' := .it g s (p + decW s p)) (w' := { w with heap := w.heap.setIfInBounds g (.stringIter s (p + decW s p)) }) hm (fun b _ hn => by
        have : ¬ g = b := hn
        simp only [Array.getElem?_setIfInBounds]; rw [if_neg this]) (by simp) rfl rfl rfl (fun b hb => .inl hb) (fun _ => by
        show _ = _
        simp only [Array.getElem?_setIfInBounds, if_true, hlt])
    exact ⟨F, _, _, ⟨rfl, rfl⟩, ⟨_, rfl, _, _, rfl, rfl, _, _, rfl, rfl, _, _, rfl, rfl, rfl⟩, this.1, this.2⟩⟩
theorem zcD {x : Operand} {s : ByteArray} {g p i : Nat} (hx : opD K x = some (.v (.pointer (some ⟨g, 0, none⟩)))) (hm : nth H i = some (.it g s p)) (hp : s.size ≤ p) : Pu P (.next x true) ty K H (.tup [.v (.bool false)]) :=
  ⟨fun ρ w F hk _ hH => by
    have e : ev ρ x = _ := hk.op hx
    have hb : w.heap[g]? = some (.stringIter s p) := hH _ (z7 hm)
    refine EOp.of_run (v := .tuple #[.bool false]) (w' := w) ?_ ⟨rfl, _, rfl, _, _, rfl, rfl, rfl⟩
    simp [execOp, zaq, e, Instr.next, getObj, Sem.run, hb, show ¬ p < s.size by omega]⟩
theorem zai (s : ByteArray) (p : Nat) : 1 ≤ decW s p := by
  unfold decW Utf8.decode
  simp only
  (repeat' split) <;> simp
theorem zaG (s : ByteArray) (p : Nat) (h : p < s.size) : p + decW s p ≤ s.size := by
  unfold decW Utf8.decode
  simp only [Bool.and_eq_true, decide_eq_true_eq]
  (repeat' split) <;> simp <;> omega
/-- the zav of a text, from a place on -/
def zbp (s : ByteArray) (p : Nat) : List Int := if h : p < s.size then (decR s p : Int) :: zbp s (p + decW s p) else []
termination_by s.size - p
decreasing_by have := zai s p; omega
theorem zbZ {s : ByteArray} {p : Nat} (h : p < s.size) : zbp s p = (decR s p : Int) :: zbp s (p + decW s p) := by
  conv => lhs; unfold zbp
  rw [dif_pos h]
theorem zb0 {s : ByteArray} {p : Nat} (h : s.size ≤ p) : zbp s p = [] := by
  unfold zbp; rw [dif_neg (by omega)]
def zav (s : ByteArray) : List Int := zbp s 0
theorem decR_lt (s : ByteArray) (p : Nat) : decR s p < 1114112 := by
  unfold decR Utf8.decode
  simp only [Bool.and_eq_true, decide_eq_true_eq]
  have hv : ∀ c, Utf8.valid c = true → c < 1114112 := by
    intro c; unfold Utf8.valid; simp; intros; omega
  (repeat' split)
  all_goals first
    | (simp only [Utf8.runeError]; omega)
    | (simp only; omega)
    | (rename_i h; have := hv _ h.2; simp only; omega)
end
end Lp
/- Walks, printed by a program of mine. -/
set_option linter.unusedSimpArgs false
set_option linter.unusedVariables false
namespace Lp
open Go Go.RowKit Go.Proofs

namespace HdYtoanlikkhjohpaaGreatV4
theorem eqp_164_eql (x y : Operand) (a : Addr) (w : World) : (do eqGuard .eql 164 x y (.pointer (some a)) (.pointer none); binOp .eql 164 (.pointer (some a)) (.pointer none) : Sem Value).run Tryz.prog w = .ok (.bool false) w := by kernel_rfl
theorem eqs_164_neq (d : Nat) (a : Addr) (w : World) : (Op.equalIn (d + 1) 164 (.pointer (some a)) (.pointer (some a))).run Tryz.prog w = .ok true w := by
  rw [Op.equalIn]
  simp only [Sem.run_bind, run_underlying (show Tryz.prog.underlying 164 = some (.pointer 167) by kernel_rfl), Result.andThen_ok, Tryz.sizeOf167]
  simp [sameAddr]
theorem eqt_164_neq (a : Addr) (w : World) : (Op.equal 164 (.pointer (some a)) (.pointer (some a))).run Tryz.prog w = .ok true w := eqs_164_neq 9999 a w
theorem eqq_164_neq (x y : Operand) (a : Addr) (w : World) : (do eqGuard .neq 164 x y (.pointer (some a)) (.pointer (some a)); binOp .neq 164 (.pointer (some a)) (.pointer (some a)) : Sem Value).run Tryz.prog w = .ok (.bool false) w := by simp [eqGuard, binOp, eqt_164_neq]
theorem fa_167_0 (b o : Nat) : ∀ w, (Instr.fieldAt 167 (.pointer (some ⟨b, o, none⟩)) 0).run Tryz.prog w = .ok (.pointer (some ⟨b, o + 0, none⟩)) w := fun _ => by kernel_rfl
theorem zaI (b o : Nat) : ∀ w, (Instr.fieldAt 167 (.pointer (some ⟨b, o, none⟩)) 1).run Tryz.prog w = .ok (.pointer (some ⟨b, o + 1, none⟩)) w := fun _ => by kernel_rfl
theorem zb6 : ∃ i, Tryz.prog.info? 5 = some i ∧ i.zero = some (.int .u8 0) ∧ i.size = 1 ∧ i.bytes = 1 := zbc (by kernel_rfl)
theorem zba : Tryz.prog.underlying 165 = some (.slice 5) := by kernel_rfl
end HdYtoanlikkhjohpaaGreatV4
open HdYtoanlikkhjohpaaGreatV4

theorem cv_up {w : World} {g : Nat} {c : Array Value} (h : w.heap[g]? = some (.cells c 167 (0, 0))) (hc : c.size = 2) : (convert 164 210 (.pointer (some ⟨g, 0, none⟩))).run Tryz.prog w = .ok (.pointer (some ⟨g, 0, none⟩)) w := by
  simp [convert, run_underlying (show Tryz.prog.underlying 164 = some _ by kernel_rfl), run_underlying (show Tryz.prog.underlying 210 = some _ by kernel_rfl), Conv.unsafePointer, Conv.seenAt, viewAt, cellsIn, run_shape, h, hc, World.shape?, Tryz.sizeOf167]
theorem cv_down {w : World} {g : Nat} {c : Array Value} (h : w.heap[g]? = some (.cells c 167 (0, 0))) (hc : c.size = 2) : (convert 210 164 (.pointer (some ⟨g, 0, none⟩))).run Tryz.prog w = .ok (.pointer (some ⟨g, 0, none⟩)) w := by
  have e : liesAt Tryz.prog Tryz.prog.depth 167 (2 / Tryz.prog.cellsOf 167) 0 167 1 = true := by kernel_rfl
  simp [convert, run_underlying (show Tryz.prog.underlying 164 = some _ by kernel_rfl), run_underlying (show Tryz.prog.underlying 210 = some _ by kernel_rfl), Conv.unsafePointer, Conv.seenAt, viewAt, cellsIn, run_shape, h, hc, World.shape?, Tryz.sizeOf167, variablesAt, e]
theorem p_upto {ty : TypeId} {K : Kd} {H : List Hp} {t1 t2 : TypeId} {x : Operand} {g i : Nat} {X : D} (ht : (t1 = 164 ∧ t2 = 210) ∨ (t1 = 210 ∧ t2 = 164)) (hx : opD K x = some (dP g 0)) (hm : nth H i = some (.bx g 167 X)) (hX : Nat.beq X.cells.length 2 = true) : Pu Tryz.prog (.convert t1 t2 x) ty K H (dP g 0) :=
  ⟨fun ρ w F hk _ hH => by
    obtain ⟨u, h1, h2, h3⟩ := hH _ (z7 hm)
    have hl := za4 (D.rep_cells h1 h2)
    have hc : u.cells.size = 2 := by have := Nat.eq_of_beq_eq_true hX; rw [← hl] at this; simpa [vcs] using this
    have e : ev ρ x = _ := hk.op hx
    refine EOp.of_run (v := .pointer (some ⟨g, 0, none⟩)) (w' := w) ?_ ⟨rfl, rfl⟩
    rcases ht with ⟨rfl, rfl⟩ | ⟨rfl, rfl⟩
    · have := zby (cv_up h3 hc); simpa [execOp, zaq, e] using this
    · have := zby (cv_down h3 hc); simpa [execOp, zaq, e] using this⟩
theorem p_noEscape {ty : TypeId} {K : Kd} {H : List Hp} {x : Operand} {ats : Array TypeId} {v : Value} (hx : opD K x = some (.v v)) : Pu Tryz.prog (.call { callee := .value (.func 173), args := #[x], argTypes := ats }) ty K H (.v v) :=
  ⟨fun ρ w F hk _ _ => e_ext (vs := [v]) (zK ρ [x]) (by rw [show (#[x] : Array Operand).toList = [x] from rfl, zbH ρ [x] [x] (fun _ h => h)]; have e : ev ρ x = v := hk.op hx; simp [e]) (fun w => by
    rw [run_callFunc_extern Tryz.func173 (by kernel_rfl) (by kernel_rfl) (by kernel_rfl) (e := Extern.AbiNoEscape.same) (by kernel_rfl)]; rfl) ⟨rfl, rfl⟩⟩

set_option maxHeartbeats 4000000 in
set_option maxRecDepth 100000 in
theorem copyCheck_c (g : Nat) (p : Value) (x : D) (hp : p = .pointer none ∨ p = .pointer (some ⟨g, 0, none⟩)) :
    CD Tryz.prog 157 [.bx g 167 (.agg [.v p, x])] [dP g 0] (fun r H' => r = .tup [] ∧ H' = [.bx g 167 (.agg [dP g 0, x])]) := by
  refine zB Tryz.func157 rfl (N := 20) rfl rfl (fun C => ?_)
  refine JD.keep [0] [(0, dP g 0)] rfl ?_
  rcases hp with rfl | rfl
  · skip
    refine zd _ _ rfl rfl rfl (zc rfl (za rfl rfl (zb rfl) (za rfl rfl (zF rfl) (za rfl rfl (zn rfl fa_167_0 rfl) (za rfl rfl (zy rfl (i := 0) rfl Tryz.isAgg164 rfl) (za rfl rfl (zb1 (r := .bool true) rfl rfl (fun _ => by kernel_rfl)) (zg rfl (zf (zaF _ rfl rfl rfl (zc rfl (za rfl rfl (zb rfl) (za rfl rfl (zb rfl) (za rfl rfl (p_upto (i := 0) (by first | exact .inl ⟨rfl, rfl⟩ | exact .inr ⟨rfl, rfl⟩) rfl rfl rfl) (za rfl rfl (p_noEscape rfl) (za rfl rfl (p_upto (i := 0) (by first | exact .inl ⟨rfl, rfl⟩ | exact .inr ⟨rfl, rfl⟩) rfl rfl rfl) (za rfl rfl (zF rfl) (za rfl rfl (zn rfl fa_167_0 rfl) (zl rfl rfl (zaz (i := 0) (X' := .agg [dP g 0, x]) rfl rfl rfl (CellD.v rfl) Tryz.sizeOf164 rfl rfl rfl) ?_))))))))))))))))))
    rintro _ _ ⟨rfl, rfl⟩
    refine OpsD.norm [.bx g 167 (.agg [dP g 0, x])] rfl (zg rfl ?_)
    exact pd_end Tryz.results157 .nil rfl ⟨rfl, rfl⟩
  · skip
    refine zd _ _ rfl rfl rfl (zc rfl (za rfl rfl (zb rfl) (za rfl rfl (zF rfl) (za rfl rfl (zn rfl fa_167_0 rfl) (za rfl rfl (zy rfl (i := 0) rfl Tryz.isAgg164 rfl) (za rfl rfl (zb1 (r := .bool false) rfl rfl (eqp_164_eql _ _ _)) (zg rfl (zf (zah _ rfl rfl rfl (zd _ _ rfl rfl rfl (zc rfl (za rfl rfl (zb rfl) (za rfl rfl (zF rfl) (za rfl rfl (zn rfl fa_167_0 rfl) (za rfl rfl (zy rfl (i := 0) rfl Tryz.isAgg164 rfl) (za rfl rfl (zb rfl) (za rfl rfl (zb1 (r := .bool false) rfl rfl (eqq_164_neq _ _ _)) (zg rfl (zf (JD.keep [19] [(19, dB false)] rfl (zah _ rfl rfl rfl (zI rfl ?_))))))))))))))))))))))
    exact pd_end Tryz.results157 .nil rfl ⟨rfl, rfl⟩

set_option maxHeartbeats 4000000 in
set_option maxRecDepth 100000 in
theorem zbM (g : Nat) (p v : Value) (bs : List UInt8) (c : UInt8) (hp : p = .pointer none ∨ p = .pointer (some ⟨g, 0, none⟩)) (hl : bs.length ≤ 1000000000000) :
    CD Tryz.prog 133 [.bx g 167 (.agg [.v p, .ov v]), .sl v 1 5 (bs.map dU8)] [dP g 0, .v (.int .u8 ((c.toNat : Nat) : Int))] (fun r H' => ∃ v', r = .v .nilIface ∧ H' = [.bx g 167 (.agg [dP g 0, .ov v']), .sl v' 1 5 ((bs ++ [c]).map dU8)]) := by
  refine zB Tryz.func133 rfl (N := 17) rfl rfl (fun C => ?_)
  refine JD.keep [0, 1] [(0, dP g 0), (1, .v (.int .u8 ((c.toNat : Nat) : Int)))] rfl (zd _ _ rfl rfl rfl (zc rfl (za rfl rfl (ze rfl) (zg rfl (zf (zd _ _ rfl rfl rfl (zc rfl (za rfl rfl (zb rfl) (zl rfl rfl (zq [.bx g 167 (.agg [.v p, .ov v])] [.sl v 1 5 (bs.map dU8)] [] rfl rfl (.cons ArgC.id .nil) zk Tryz.call157 (copyCheck_c g p (.ov v) hp) (.inl rfl)) ?_)))))))))
  rintro _ _ ⟨_, ⟨rfl, rfl⟩, rfl⟩
  refine OpsD.norm [.bx g 167 (.agg [dP g 0, .ov v]), .sl v 1 5 (bs.map dU8)] rfl (zg rfl (zf (zd _ _ rfl rfl rfl (zc rfl (za rfl rfl (zb rfl) (za rfl rfl (zb rfl) (za rfl rfl (zF rfl) (za rfl rfl (zn rfl zaI rfl) (za rfl rfl (zy rfl (i := 0) rfl Tryz.isAgg165 rfl) (za rfl rfl (zb rfl) (zl rfl rfl (z0 [.tmp 12] rfl rfl (.cons (CellD.v rfl) .nil) rfl Tryz.runUnderlying165 Tryz.sizeOf5 Tryz.zeroValue5 rfl rfl rfl rfl) ?_)))))))))))
  rintro _ _ ⟨g1, rfl, rfl⟩
  refine zl rfl rfl (z4 (f := dU8) (l := bs) (l' := [c]) (i := 2) rfl rfl rfl (SrcD.own (j := 0) rfl rfl) zba zb6 rfl rfl (by unfold maxLen; (try simp only [la, lc, ln, lm, lt', ld, ls, lr]); omega) (by (try simp only [la, lc, ln, lm, lt', ld, ls, lr]); omega)) ?_
  rintro _ _ ⟨v2, rfl, rfl⟩
  refine OpsD.norm [.sl (vS g1 1 1) 1 5 ([.v (.int .u8 ((c.toNat : Nat) : Int))]), .bx g 167 (.agg [dP g 0, .ov v]), .sl v2 1 5 ((bs ++ [c]).map dU8)] rfl (za rfl rfl (zF rfl) (za rfl rfl (zn rfl zaI rfl) (zl rfl rfl (zaz (i := 1) (X' := .agg [dP g 0, .ov v2]) rfl rfl rfl (CellD.o) Tryz.sizeOf165 rfl rfl rfl) ?_)))
  rintro _ _ ⟨rfl, rfl⟩
  refine OpsD.norm [.sl (vS g1 1 1) 1 5 ([.v (.int .u8 ((c.toNat : Nat) : Int))]), .bx g 167 (.agg [dP g 0, .ov v2]), .sl v2 1 5 ((bs ++ [c]).map dU8)] rfl (zg rfl (zf (JD.keep [4] [(4, .v .nilIface)] rfl (zd _ _ rfl rfl rfl (zc rfl (za rfl rfl (ze rfl) (zg rfl (zf (zE rfl (PD.subH (HSub.perm (zr (i := 2) rfl)) (PD.norm [.sl v2 1 5 ((bs ++ [c]).map dU8), .sl (vS g1 1 1) 1 5 ([.v (.int .u8 ((c.toNat : Nat) : Int))]), .bx g 167 (.agg [dP g 0, .ov v2])] rfl (PD.subH (HSub.perm (zr (i := 2) rfl)) (PD.norm [.bx g 167 (.agg [dP g 0, .ov v2]), .sl v2 1 5 ((bs ++ [c]).map dU8), .sl (vS g1 1 1) 1 5 ([.v (.int .u8 ((c.toNat : Nat) : Int))])] rfl ?_)))))))))))))
  exact zA Tryz.results133 (.cons (zC rfl) .nil) rfl (HSub.fst 2 rfl) ⟨v2, rfl, rfl⟩

set_option maxHeartbeats 4000000 in
set_option maxRecDepth 100000 in
theorem zbf (g : Nat) (p v : Value) (bs : List UInt8) (s : ByteArray) (hp : p = .pointer none ∨ p = .pointer (some ⟨g, 0, none⟩)) (hl : bs.length ≤ 1000000000000) (hs : s.size ≤ 1000000000000) :
    CD Tryz.prog 135 [.bx g 167 (.agg [.v p, .ov v]), .sl v 1 5 (bs.map dU8)] [dP g 0, .s s] (fun r H' => ∃ v', r = .tup [dI (s.size : Int), .v .nilIface] ∧ H' = [.bx g 167 (.agg [dP g 0, .ov v']), .sl v' 1 5 ((bs ++ s.data.toList).map dU8)]) := by
  refine zB Tryz.func135 rfl (N := 19) rfl rfl (fun C => ?_)
  refine JD.keep [0, 1] [(0, dP g 0), (1, .s s)] rfl ?_
  refine JD.bd 1 rfl (fun bd1 => ?_)
  have sz1 : s.size ≤ 9223372036854775807 := bd1
  refine zd _ _ rfl rfl rfl (zc rfl (za rfl rfl (ze rfl) (za rfl rfl (ze rfl) (zg rfl (zf (zd _ _ rfl rfl rfl (zc rfl (za rfl rfl (zb rfl) (zl rfl rfl (zq [.bx g 167 (.agg [.v p, .ov v])] [.sl v 1 5 (bs.map dU8)] [] rfl rfl (.cons ArgC.id .nil) zk Tryz.call157 (copyCheck_c g p (.ov v) hp) (.inl rfl)) ?_)))))))))
  rintro _ _ ⟨_, ⟨rfl, rfl⟩, rfl⟩
  refine OpsD.norm [.bx g 167 (.agg [dP g 0, .ov v]), .sl v 1 5 (bs.map dU8)] rfl (zg rfl (zf (zd _ _ rfl rfl rfl (zc rfl (za rfl rfl (zb rfl) (za rfl rfl (zb rfl) (za rfl rfl (zF rfl) (za rfl rfl (zn rfl zaI rfl) (za rfl rfl (zy rfl (i := 0) rfl Tryz.isAgg165 rfl) (za rfl rfl (zb rfl) (zl rfl rfl (ef_append_s (i := 1) (bs := bs) (s := s) rfl rfl rfl zba (by kernel_rfl) zb6 (by (try simp only [la, lc, ln]); omega)) ?_)))))))))))
  rintro _ _ ⟨v1, rfl, rfl⟩
  refine OpsD.norm [.bx g 167 (.agg [dP g 0, .ov v]), .sl v1 1 5 ((bs ++ s.data.toList).map dU8)] rfl (za rfl rfl (zF rfl) (za rfl rfl (zn rfl zaI rfl) (zl rfl rfl (zaz (i := 0) (X' := .agg [dP g 0, .ov v1]) rfl rfl rfl (CellD.o) Tryz.sizeOf165 rfl rfl rfl) ?_)))
  rintro _ _ ⟨rfl, rfl⟩
  refine OpsD.norm [.bx g 167 (.agg [dP g 0, .ov v1]), .sl v1 1 5 ((bs ++ s.data.toList).map dU8)] rfl (zg rfl (zf (JD.keep [1, 4, 5] [(1, .s s), (4, dI 0), (5, .v .nilIface)] rfl (zd _ _ rfl rfl rfl (zc rfl (za rfl rfl (zb rfl) (za rfl rfl (zan rfl Tryz.runUnderlying9) (za rfl rfl (ze rfl) (za rfl rfl (ze rfl) (zg rfl (zf (zE rfl ?_))))))))))))
  exact zA Tryz.results135 (.cons (zC rfl) (.cons (zC rfl) .nil)) rfl (HSub.fst 2 rfl) ⟨v1, rfl, rfl⟩
end Lp
/-
  Merging lists of rows, as plain data: which list's head comes first; what a merge is; the tree of a tournament.
-/
set_option linter.unusedVariables false
namespace Lp
open Go

def hd (ll : LLs) (k : Nat) : Option RowD := (ll[k]?).bind List.head?
/-! ### less is an order -/
theorem or2_neg {a b : Int} : or2 (-a) (-b) = - or2 a b := by unfold or2; split <;> split <;> omega
theorem cmpLbl_neg (a b : Lbl) : zG b a = - zG a b := by unfold zG; rw [zcK a.n, zcK a.v, or2_neg]
theorem cmpLs_neg : ∀ a b : List Lbl, zZ b a = - zZ a b
  | [], [] => rfl
  | [], _ :: _ => rfl
  | _ :: _, [] => rfl
  | a :: r, b :: s => by
    unfold zZ
    rw [cmpLbl_neg a b, cmpLs_neg r s]
    split <;> split <;> omega
/-- Three that are compared: a sign is handed on. -/
structure Tr (c : Int) (d : Int) (e : Int) : Prop where
  le : c ≤ 0 → d ≤ 0 → e ≤ 0
  lt1 : c < 0 → d ≤ 0 → e < 0
  lt2 : c ≤ 0 → d < 0 → e < 0
  e1 : c = 0 → e = d
  e2 : d = 0 → e = c
theorem cmpS_tr (a b c : ByteArray) : Tr (cmpS a b) (cmpS b c) (cmpS a c) := by
  have n1 := zcK a b
  have n2 := zcK b c
  have t := cmpS_trans a b c
  refine ⟨t, fun h1 h2 => ?_, fun h1 h2 => ?_, fun h => ?_, fun h => ?_⟩
  · have := t (by omega) h2
    rcases Int.lt_or_eq_of_le this with h | h
    · exact h
    · rw [zbu] at h; subst h; omega
  · have := t h1 (by omega)
    rcases Int.lt_or_eq_of_le this with h | h
    · exact h
    · rw [zbu] at h; subst h; omega
  · rw [zbu] at h; rw [h]
  · rw [zbu] at h; rw [h]
theorem or2_tr {a b c d e f : Int} (h : Tr a b c) (h' : Tr d e f) : Tr (or2 a d) (or2 b e) (or2 c f) := by
  obtain ⟨h1, h2, h3, h4, h5⟩ := h
  obtain ⟨k1, k2, k3, k4, k5⟩ := h'
  unfold or2
  by_cases ha : a = 0
  · have hc := h4 ha
    subst hc
    rw [if_neg (by omega)]
    by_cases hb : c = 0
    · rw [if_neg (by omega), if_neg (by omega)]; exact ⟨k1, k2, k3, k4, k5⟩
    · rw [if_pos hb, if_pos hb]
      exact ⟨fun _ h => h, fun _ h => by omega, fun _ h => h, fun _ => rfl, fun h => by omega⟩
  · by_cases hb : b = 0
    · have hc := h5 hb
      subst hc
      rw [if_pos ha, if_neg (by omega), if_pos ha]
      exact ⟨fun h _ => h, fun h _ => h, fun h _ => by omega, fun h => by omega, fun _ => rfl⟩
    · rw [if_pos ha, if_pos hb]
      have : a ≤ 0 → b ≤ 0 → c < 0 := fun p q => h2 (by omega) q
      refine ⟨fun p q => ?_, fun p q => ?_, fun p q => ?_, fun h => by omega, fun h => by omega⟩
      · rw [if_pos (by have := this p q; omega)]; exact h1 p q
      · have := this (by omega) q; rw [if_pos (by omega)]; exact this
      · have := this p (by omega); rw [if_pos (by omega)]; exact this
theorem cmpLbl_tr (a b c : Lbl) : Tr (zG a b) (zG b c) (zG a c) := or2_tr (cmpS_tr _ _ _) (cmpS_tr _ _ _)
theorem Tr.zero : Tr 0 0 0 := ⟨fun h _ => h, fun h _ => h, fun _ h => h, fun _ => rfl, fun _ => rfl⟩
end Lp
/-
  Runes and names, as data.
-/
set_option linter.unusedVariables false
namespace Lp
open Go

def zad (r : Int) : Int :=
  if r < 0 ∨ r = 65533 then 0 else if (97 ≤ r ∧ r ≤ 122) ∨ (65 ≤ r ∧ r ≤ 90) ∨ r = 95 ∨ 128 ≤ r then 1 else if 48 ≤ r ∧ r ≤ 57 then 2 else if r = 32 ∨ r = 9 ∨ r = 10 then 3 else 4
abbrev dR (n : Int) : D := .v (.int .i32 n)
def zbQ : Nat → List Int → Bool
  | n, [] => decide (1 ≤ n) && decide (n ≤ 30)
  | n, r :: rs => if zad r ≠ 1 ∧ (zad r ≠ 2 ∨ n = 0) then false else zbQ (n + 1) rs
def zbz (s : ByteArray) : Bool := zbQ 0 (zav s)
theorem nameR_bad {n : Nat} {r : Int} {rs : List Int} (h : zad r ≠ 1 ∧ (zad r ≠ 2 ∨ n = 0)) : zbQ n (r :: rs) = false := by unfold zbQ; rw [if_pos h]
theorem nameR_next {n : Nat} {r : Int} {rs : List Int} (h : ¬ (zad r ≠ 1 ∧ (zad r ≠ 2 ∨ n = 0))) : zbQ n (r :: rs) = zbQ (n + 1) rs := by conv => lhs; unfold zbQ
                                                                                                                                                  rw [if_neg h]
/-- all are letters or digits -/
def zcw (rs : List Int) : Bool := rs.all fun r => decide (zad r = 1 ∨ zad r = 2)
theorem wordR_cons {r : Int} {rs : List Int} : zcw (r :: rs) = (decide (zad r = 1 ∨ zad r = 2) && zcw rs) := rfl
theorem nameR_word : ∀ (rs : List Int) (n : Nat), 1 ≤ n → zbQ n rs = (zcw rs && decide (n + rs.length ≤ 30))
  | [], n, h => by simp [zbQ, zcw, h]
  | r :: rs, n, h => by
    by_cases hr : zad r = 1 ∨ zad r = 2
    · rw [nameR_next (by omega), nameR_word rs (n + 1) (by omega), wordR_cons, decide_eq_true hr, Bool.true_and]
      congr 1; rw [decide_eq_decide, List.length_cons]; omega
    · rw [nameR_bad (by omega), wordR_cons, decide_eq_false hr]; rfl
theorem zbI (rs : List Int) : zbQ 0 rs = (decide (1 ≤ rs.length) && decide (rs.length ≤ 30) && decide (zad (rs.getD 0 0) = 1) && zcw rs) := by
  cases rs with
  | nil => simp [zbQ]
  | cons r rs =>
    by_cases hr : zad r = 1
    · rw [nameR_next (by omega), nameR_word rs 1 (by omega), wordR_cons, decide_eq_true (show zad r = 1 ∨ zad r = 2 from .inl hr), Bool.true_and, Bool.and_comm (zcw rs)]
      have e1 : decide (zad ((r :: rs).getD 0 0) = 1) = true := decide_eq_true hr
      rw [e1, Bool.and_true]
      congr 1
      rw [Bool.eq_iff_iff]; simp [Nat.add_comm]
    · rw [nameR_bad (by omega)]
      have e1 : decide (zad ((r :: rs).getD 0 0) = 1) = false := decide_eq_false hr
      rw [e1, Bool.and_false]; rfl
theorem wordR_take {rs : List Int} {k : Nat} {x : Int} (hx : rs[k]? = some x) (h : zcw (rs.take k) = true) (hk : zad x = 1 ∨ zad x = 2) : zcw (rs.take (k + 1)) = true := by
  unfold zcw at *; exact all_take_snoc hx h (by simpa using hk)
theorem wordR_bad {rs : List Int} {k : Nat} {x : Int} (hx : rs[k]? = some x) (hk : ¬ (zad x = 1 ∨ zad x = 2)) : zcw rs = false := by
  unfold zcw; rw [List.all_eq_false]; exact ⟨x, List.mem_of_getElem? hx, by simpa using hk⟩
end Lp
