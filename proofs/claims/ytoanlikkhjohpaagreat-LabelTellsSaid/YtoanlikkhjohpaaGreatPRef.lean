/- Walks, printed by a program of mine. -/
import Derived.Test.YtoanlikkhjohpaaGreatV5
set_option linter.unusedSimpArgs false
set_option linter.unusedVariables false
namespace Lp
open Go Go.RowKit Go.Proofs

namespace HdYtoanlikkhjohpaaGreatV1
theorem zaa (b o : Nat) : ∀ w, (Instr.fieldAt 106 (.pointer (some ⟨b, o, none⟩)) 0).run Tryz.prog w = .ok (.pointer (some ⟨b, o + 0, none⟩)) w := fun _ => by kernel_rfl
theorem zaj (b o : Nat) : ∀ w, (Instr.fieldAt 106 (.pointer (some ⟨b, o, none⟩)) 1).run Tryz.prog w = .ok (.pointer (some ⟨b, o + 1, none⟩)) w := fun _ => by kernel_rfl
end HdYtoanlikkhjohpaaGreatV1
open HdYtoanlikkhjohpaaGreatV1

theorem ext_cmpstring (a b : ByteArray) (w : World) : (callFunc 172 #[.string a, .string b]).run Tryz.prog w = .ok (.value (.int .i64 (cmpS a b))) w := by
  rw [run_callFunc_extern Tryz.func172 (by kernel_rfl) (by kernel_rfl) (by kernel_rfl) (e := Extern.BytealgCompare.compare) (by kernel_rfl), Lib.run_compareString]
  rfl

theorem p_cmpstring {ty : TypeId} {K : Kd} {H : List Hp} {x y : Operand} {ats : Array TypeId} {a b : ByteArray} (hx : opS K x = some a) (hy : opS K y = some b) : Pu Tryz.prog (.call { callee := .value (.func 172), args := #[x, y], argTypes := ats }) ty K H (dI (cmpS a b)) :=
  ⟨fun ρ w F hk _ _ => e_ext (vs := [.string a, .string b]) (zK ρ [x, y]) (by rw [show (#[x, y] : Array Operand).toList = [x, y] from rfl, zbH ρ [x, y] [x, y] (fun _ h => h)]; simp [hk.opS hx, hk.opS hy]) (ext_cmpstring a b) ⟨rfl, rfl⟩⟩

set_option maxHeartbeats 4000000 in
set_option maxRecDepth 100000 in
theorem CompareString_c (a : ByteArray) (b : ByteArray)  :
    CD Tryz.prog 155 [] [.s a, .s b] (isR (dI (cmpS a b))) := by
  refine zB Tryz.func155 rfl (N := 8) rfl rfl (fun C => ?_)
  refine JD.keep [0, 1] [(0, .s a), (1, .s b)] rfl ?_
  refine JD.bd 0 rfl (fun bd0 => ?_)
  have sz0 : a.size ≤ 9223372036854775807 := bd0
  refine JD.bd 1 rfl (fun bd1 => ?_)
  have sz1 : b.size ≤ 9223372036854775807 := bd1
  refine zd _ _ rfl rfl rfl (zc rfl (za rfl rfl (ze rfl) (zg rfl (zf (zd _ _ rfl rfl rfl (zc rfl (za rfl rfl (zb rfl) (za rfl rfl (zb rfl) (za rfl rfl (p_cmpstring rfl rfl) (za rfl rfl (ze rfl) (zg rfl (zf (zE rfl ?_)))))))))))))
  exact zA Tryz.results155 (.cons (zX (zC rfl) (Cv.eq (congrArg (fun n => D.v (.int .i64 n)) (by rfl)))) .nil) rfl HSub.none ⟨rfl, rfl⟩

set_option maxHeartbeats 4000000 in
set_option maxRecDepth 100000 in
theorem Compare_c (a : ByteArray) (b : ByteArray)  :
    CD Tryz.prog 130 [] [.s a, .s b] (isR (dI (cmpS a b))) := by
  refine zB Tryz.func130 rfl (N := 8) rfl rfl (fun C => ?_)
  refine JD.keep [0, 1] [(0, .s a), (1, .s b)] rfl ?_
  refine JD.bd 0 rfl (fun bd0 => ?_)
  have sz0 : a.size ≤ 9223372036854775807 := bd0
  refine JD.bd 1 rfl (fun bd1 => ?_)
  have sz1 : b.size ≤ 9223372036854775807 := bd1
  refine zd _ _ rfl rfl rfl (zc rfl (za rfl rfl (ze rfl) (zg rfl (zf (zd _ _ rfl rfl rfl (zc rfl (za rfl rfl (zb rfl) (za rfl rfl (zb rfl) (zl rfl rfl (zq [] _ [] rfl rfl (.cons ArgC.id (.cons ArgC.id .nil)) zk Tryz.call155 (CompareString_c a b) (.inl rfl)) ?_)))))))))
  rintro _ _ ⟨_, ⟨rfl, rfl⟩, rfl⟩
  refine OpsD.norm [] rfl (za rfl rfl (ze rfl) (zg rfl (zf (zE rfl ?_))))
  exact zA Tryz.results130 (.cons (zC rfl) .nil) rfl HSub.none ⟨rfl, rfl⟩

set_option maxHeartbeats 4000000 in
set_option maxRecDepth 100000 in
theorem Or_c (ns : List Int)  :
    CD Tryz.prog 129 [] [.sh 1 (ns.map dI)] (isR (dI (zaQ ns))) := by
  refine zB Tryz.func129 rfl (N := 18) rfl rfl (fun C => ?_)
  refine JD.keep [0] [(0, .sh 1 (ns.map dI))] rfl ?_
  refine JD.bd 0 rfl (fun bd0 => ?_)
  have nl0 := zaf bd0
  refine zd _ _ rfl rfl rfl (zc rfl (za rfl rfl (ze rfl) (zg rfl (zf (zd _ _ rfl rfl rfl (zc rfl (za rfl rfl (ze rfl) (zg rfl (zf (zd _ _ rfl rfl rfl (zd _ _ rfl rfl rfl (zc rfl (za rfl rfl (zb rfl) (za rfl rfl (zas (n := ns.length) rfl Tryz.runUnderlying82 (by simp only [lm, lc, ln])) (za rfl rfl (zb rfl) (zg rfl (zf (zu _ rfl rfl (zP (fun (g : Nat) => [(3, dI 0), (6, .sh 1 (ns.map dI)), (7, dN ns.length), (8, dN g)]) (fun (g : Nat) => []) (fun (g : Nat) => (g ≤ ns.length) ∧ (zaQ ns = zaQ (ns.drop g))) (fun (g : Nat) => ns.length - g) _ 0 rfl rfl ⟨sk rfl, sk rfl, sk rfl, sk rfl, trivial⟩ HSub.rfl' ⟨Nat.zero_le _, by simp⟩ ?_)))))))))))))))))))
  rintro k ⟨hk, hf⟩
  refine JD.keep [3, 6, 7, 8] [(3, dI 0), (6, .sh 1 (ns.map dI)), (7, dN ns.length), (8, dN k)] rfl (JD.norm [] rfl (zd _ _ rfl rfl rfl (zc rfl (za rfl rfl (zV rfl rfl rfl) (zg rfl (zf (zd _ _ rfl rfl rfl ?_)))))))
  refine zw _ _ rfl rfl rfl rfl (fun hc1 => ?_) (fun hc1 => ?_)
  · replace hc1 := of_decide_eq_true hc1
    refine zI rfl (zf (zd _ _ rfl rfl rfl (zu _ rfl rfl (zd _ _ rfl rfl rfl (zc rfl ?_)))))
    obtain ⟨x1, hx1⟩ := zW ns k (by omega)
    refine za rfl rfl (zN (k := k) rfl rfl Tryz.runUnderlying82 Tryz.sizeOf3 (by first | rfl | omega) (zJ hx1)) (za rfl rfl (zS rfl Tryz.isAgg3 rfl) (za rfl rfl (ze rfl) (zg rfl (zf (zd _ _ rfl rfl rfl (zc rfl (za rfl rfl (zb rfl) (za rfl rfl (zb rfl) (za rfl rfl (zbG rfl rfl rfl) (zg rfl (zf ?_)))))))))))
    refine zw _ _ rfl rfl rfl rfl (fun hc2 => ?_) (fun hc2 => ?_)
    · replace hc2 := of_decide_eq_true hc2
      refine zd _ _ rfl rfl rfl (zc rfl (za rfl rfl (zb rfl) (za rfl rfl (ze rfl) (zg rfl (zf (zE rfl (zz (zD (z6 (zz (zD ?_)))))))))))
      exact zA Tryz.results129 (.cons (zX (zC rfl) (Cv.eq (congrArg (fun n => D.v (.int .i64 n)) (by exact (firstNZ_at hx1 hf (by assumption)).symm)))) .nil) rfl HSub.none ⟨rfl, rfl⟩
    · replace hc2 := of_decide_eq_false hc2
      refine zI rfl (zL (zf (zc rfl (za rfl rfl (zae (c := ((k + 1 : Nat) : Int)) rfl rfl (z3 (by omega) (by omega))) (za rfl rfl (zb rfl) (zg rfl ?_))))))
      exact zU (k + 1) ⟨sk rfl, sk rfl, sk rfl, sk rfl, trivial⟩ HSub.rfl' ⟨by omega, firstNZ_next hx1 hf (by omega)⟩ (by omega)
  · replace hc1 := of_decide_eq_false hc1
    refine zO rfl (zx (zt (zo (zf (zd _ _ rfl rfl rfl (zc rfl (za rfl rfl (zb rfl) (za rfl rfl (ze rfl) (zg rfl (zf (zE rfl ?_)))))))))))
    exact zA Tryz.results129 (.cons (zX (zC rfl) (Cv.eq (congrArg (fun n => D.v (.int .i64 n)) (by rw [hf, List.drop_eq_nil_of_le (by omega)]; rfl)))) .nil) rfl HSub.none ⟨rfl, rfl⟩

set_option maxHeartbeats 4000000 in
set_option maxRecDepth 100000 in
theorem order_c (a : Lbl) (b : Lbl)  :
    CD Tryz.prog 94 [] [Lbl.d a, Lbl.d b] (isR (dI (zG a b))) := by
  refine zB Tryz.func94 rfl (N := 17) rfl rfl (fun C => ?_)
  refine JD.keep [0, 1] [(0, Lbl.d a), (1, Lbl.d b)] rfl ?_
  refine JD.bd 0 rfl (fun bd0 => ?_)
  refine JD.bd 1 rfl (fun bd1 => ?_)
  refine zd _ _ rfl rfl rfl (zc rfl (zl rfl rfl (ef_box rfl (CellD.agg)) ?_))
  rintro _ _ ⟨g1, rfl, rfl⟩
  refine zl rfl rfl (ef_box rfl (CellD.agg)) ?_
  rintro _ _ ⟨g2, rfl, rfl⟩
  refine za rfl rfl (ze rfl) (zg rfl (zf (zd _ _ rfl rfl rfl (JD.keep [0, 1, 2, 3, 4] [(0, Lbl.d a), (1, Lbl.d b), (2, dP g1 0), (3, dP g2 0), (4, dI 0)] rfl (JD.norm [.bx g2 106 (Lbl.d b), .bx g1 106 (Lbl.d a)] rfl (zam 9 [(5, dP g1 0, none), (6, .s a.n, none), (7, dP g2 0, none), (8, .s b.n, none), (9, dI (cmpS a.n b.n), none), (10, dP g1 1, none), (11, .s a.v, none), (12, dP g2 1, none), (13, .s b.v, none)] [.bx g2 106 (Lbl.d b), .bx g1 106 (Lbl.d a)] (Hn := [.bx g2 106 (Lbl.d b), .bx g1 106 (Lbl.d a)]) zaH rfl rfl rfl rfl HSub.rfl' rfl ⟨sa_p rfl rfl rfl (zn rfl zaa rfl), sa_p rfl rfl rfl (zy rfl (i := 1) rfl Tryz.isAgg9 rfl), sa_p rfl rfl rfl (zn rfl zaa rfl), sa_p rfl rfl rfl (zy rfl (i := 0) rfl Tryz.isAgg9 rfl), sa_q rfl rfl rfl (zbq rfl (.cons Cv.rfl' (.cons Cv.rfl' .nil)) Tryz.call130 (Compare_c a.n b.n) zbb), sa_p rfl rfl rfl (zn rfl zaj rfl), sa_p rfl rfl rfl (zy rfl (i := 1) rfl Tryz.isAgg9 rfl), sa_p rfl rfl rfl (zn rfl zaj rfl), sa_p rfl rfl rfl (zy rfl (i := 0) rfl Tryz.isAgg9 rfl), trivial⟩ ?_))))))
  refine OpsD.keep [0, 1, 2, 3, 4, 5, 6, 7, 8, 9, 10, 11, 12, 13] [(0, Lbl.d a), (1, Lbl.d b), (2, dP g1 0), (3, dP g2 0), (4, dI 0), (5, dP g1 0), (6, .s a.n), (7, dP g2 0), (8, .s b.n), (9, dI (cmpS a.n b.n)), (10, dP g1 1), (11, .s a.v), (12, dP g2 1), (13, .s b.v)] rfl (zl rfl rfl (zq [] _ [] rfl rfl (.cons ArgC.id (.cons ArgC.id .nil)) zk Tryz.call130 (Compare_c a.v b.v) (.inl rfl)) ?_)
  rintro _ _ ⟨_, ⟨rfl, rfl⟩, rfl⟩
  refine OpsD.norm [.bx g2 106 (Lbl.d b), .bx g1 106 (Lbl.d a)] rfl (zl rfl rfl (z0 [.tmp 9, .tmp 14] rfl rfl (.cons (CellD.v rfl) (.cons (CellD.v rfl) .nil)) rfl Tryz.runUnderlying82 Tryz.sizeOf3 Tryz.zeroValue3 rfl rfl rfl rfl) ?_)
  rintro _ _ ⟨g3, rfl, rfl⟩
  refine zl rfl rfl (zq [] _ [.sl (vS g3 2 2) 1 3 ([dI (cmpS a.n b.n), dI (cmpS a.v b.v)])] rfl rfl (.cons (ArgC.own (j := 0) rfl rfl) .nil) (zag (j := 0) rfl zk) Tryz.call129 (Or_c [cmpS a.n b.n, cmpS a.v b.v]) (.inr (zaC rfl))) ?_
  rintro _ _ ⟨_, ⟨rfl, rfl⟩, rfl⟩
  refine OpsD.norm [.sl (vS g3 2 2) 1 3 ([dI (cmpS a.n b.n), dI (cmpS a.v b.v)]), .bx g2 106 (Lbl.d b), .bx g1 106 (Lbl.d a)] rfl (za rfl rfl (ze rfl) (zg rfl (zf (JD.keep [4] [(4, dI (zaQ [cmpS a.n b.n, cmpS a.v b.v]))] rfl (zE rfl ?_)))))
  exact zA Tryz.results94 (.cons (zX (zC rfl) (Cv.eq (congrArg (fun n => D.v (.int .i64 n)) (by rw [firstNZ_two]; rfl)))) .nil) rfl HSub.none ⟨rfl, rfl⟩

set_option maxHeartbeats 4000000 in
set_option maxRecDepth 100000 in
theorem CompareFunc_c (a b : List Lbl)  :
    CD Tryz.prog 98 [] [.sh 2 (a.map Lbl.d), .sh 2 (b.map Lbl.d), .fn 94 [] []] (isR (dI (zZ a b))) := by
  refine zB Tryz.func98 rfl (N := 39) rfl rfl (fun C => ?_)
  refine JD.keep [0, 1, 2] [(0, .sh 2 (a.map Lbl.d)), (1, .sh 2 (b.map Lbl.d)), (2, .fn 94 [] [])] rfl ?_
  refine JD.bd 0 rfl (fun bd0 => ?_)
  have nl0 := zaf bd0
  refine JD.bd 1 rfl (fun bd1 => ?_)
  have nl1 := zaf bd1
  refine zd _ _ rfl rfl rfl (zc rfl (za rfl rfl (ze rfl) (zg rfl (zf (zd _ _ rfl rfl rfl (zd _ _ rfl rfl rfl (zc rfl (za rfl rfl (zb rfl) (za rfl rfl (zas (n := a.length) rfl Tryz.runUnderlying52 (by simp only [lm, lc, ln])) (za rfl rfl (zb rfl) (zg rfl (zf (zu _ rfl rfl (zP (fun (g : Nat) => [(0, .sh 2 (a.map Lbl.d)), (1, .sh 2 (b.map Lbl.d)), (2, .fn 94 [] []), (11, .sh 2 (a.map Lbl.d)), (12, dN a.length), (13, dN g)]) (fun (g : Nat) => []) (fun (g : Nat) => (g ≤ a.length) ∧ (zZ a b = zZ (a.drop g) (b.drop g))) (fun (g : Nat) => a.length - g) _ 0 rfl rfl ⟨sk rfl, sk rfl, sk rfl, sk rfl, sk rfl, sk rfl, trivial⟩ HSub.rfl' ⟨Nat.zero_le _, by simp⟩ ?_))))))))))))))
  rintro k ⟨hk, hf⟩
  refine JD.keep [0, 1, 2, 11, 12, 13] [(0, .sh 2 (a.map Lbl.d)), (1, .sh 2 (b.map Lbl.d)), (2, .fn 94 [] []), (11, .sh 2 (a.map Lbl.d)), (12, dN a.length), (13, dN k)] rfl (JD.norm [] rfl (zd _ _ rfl rfl rfl (zc rfl (za rfl rfl (zV rfl rfl rfl) (zg rfl (zf (zd _ _ rfl rfl rfl ?_)))))))
  refine zw _ _ rfl rfl rfl rfl (fun hc1 => ?_) (fun hc1 => ?_)
  · replace hc1 := of_decide_eq_true hc1
    refine zI rfl (zf (zd _ _ rfl rfl rfl (zu _ rfl rfl (zd _ _ rfl rfl rfl (zc rfl (za rfl rfl (zb rfl) ?_))))))
    obtain ⟨x1, hx1⟩ := zW a k (by omega)
    refine za rfl rfl (zN (k := k) rfl rfl Tryz.runUnderlying52 Tryz.sizeOf106 (by first | rfl | omega) (zJ hx1)) (za rfl rfl (za7 (d := Lbl.d x1) rfl Tryz.isAgg106 Tryz.sizeOf106 rfl rfl) (zl rfl rfl (zbL (zv := (.agg #[(.string ByteArray.empty), (.string ByteArray.empty)])) Tryz.zeroValue106 ⟨rfl, rfl, trivial⟩ (Cv.vagg (by decide))) ?_))
    rintro _ _ ⟨g2, rfl, rfl⟩
    refine za rfl rfl (ze rfl) (zl rfl rfl (zaz (i := 0) (X' := Lbl.d x1) rfl rfl rfl (CellD.agg) Tryz.sizeOf106 rfl rfl rfl) ?_)
    rintro _ _ ⟨rfl, rfl⟩
    refine OpsD.norm [.bx g2 106 (Lbl.d x1)] rfl (zg rfl (zf (zd _ _ rfl rfl rfl (zd _ _ rfl rfl rfl (zc rfl (za rfl rfl (zb rfl) (za rfl rfl (zb rfl) (za rfl rfl (zas (n := b.length) rfl Tryz.runUnderlying52 (by simp only [lm, lc, ln])) (za rfl rfl (zab rfl rfl rfl) (zg rfl (zf ?_)))))))))))
    refine zw _ _ rfl rfl rfl rfl (fun hc3 => ?_) (fun hc3 => ?_)
    · replace hc3 := of_decide_eq_true hc3
      refine zd _ _ rfl rfl rfl (zc rfl (za rfl rfl (ze rfl) (zg rfl (zf (zE rfl (zD (zz (zD (z6 (zz (zD ?_)))))))))))
      exact zA Tryz.results98 (.cons (zX (zC rfl) (Cv.eq (congrArg (fun n => D.v (.int .i64 n)) (by exact (cmpLs_right hx1 (by omega) hf).symm)))) .nil) rfl HSub.none ⟨rfl, rfl⟩
    · replace hc3 := of_decide_eq_false hc3
      refine zI rfl (zf (zd _ _ rfl rfl rfl (zc rfl (za rfl rfl (zb rfl) (za rfl rfl (zb rfl) ?_)))))
      obtain ⟨x2, hx2⟩ := zW b k (by omega)
      refine za rfl rfl (zN (k := k) rfl rfl Tryz.runUnderlying52 Tryz.sizeOf106 (by first | rfl | omega) (zJ hx2)) (za rfl rfl (za7 (d := Lbl.d x2) rfl Tryz.isAgg106 Tryz.sizeOf106 rfl rfl) (zl rfl rfl (zbL (zv := (.agg #[(.string ByteArray.empty), (.string ByteArray.empty)])) Tryz.zeroValue106 ⟨rfl, rfl, trivial⟩ (Cv.vagg (by decide))) ?_))
      rintro _ _ ⟨g4, rfl, rfl⟩
      refine zl rfl rfl (zaz (i := 0) (X' := Lbl.d x2) rfl rfl rfl (CellD.agg) Tryz.sizeOf106 rfl rfl rfl) ?_
      rintro _ _ ⟨rfl, rfl⟩
      refine OpsD.norm [.bx g4 106 (Lbl.d x2), .bx g2 106 (Lbl.d x1)] rfl (zg rfl (zf (zd _ _ rfl rfl rfl (zc rfl (za rfl rfl (zb rfl) (za rfl rfl (p_load_bx (d := Lbl.d x1) rfl (i := 1) rfl Tryz.isAgg106 Tryz.sizeOf106 rfl rfl) (za rfl rfl (p_load_bx (d := Lbl.d x2) rfl (i := 0) rfl Tryz.isAgg106 Tryz.sizeOf106 rfl rfl) (zl rfl rfl (ef_callv [] _ [] rfl rfl rfl (.cons ArgC.id (.cons ArgC.id .nil)) zk Tryz.call94 (order_c x1 x2) (.inl rfl)) ?_))))))))
      rintro _ _ ⟨_, ⟨rfl, rfl⟩, rfl⟩
      refine OpsD.norm [.bx g4 106 (Lbl.d x2), .bx g2 106 (Lbl.d x1)] rfl (za rfl rfl (ze rfl) (zg rfl (zf (zd _ _ rfl rfl rfl (zc rfl (za rfl rfl (zb rfl) (za rfl rfl (zbG rfl rfl rfl) (zg rfl (zf ?_)))))))))
      refine zw _ _ rfl rfl rfl rfl (fun hc5 => ?_) (fun hc5 => ?_)
      · replace hc5 := of_decide_eq_true hc5
        refine zd _ _ rfl rfl rfl (zc rfl (za rfl rfl (zb rfl) (za rfl rfl (ze rfl) (zg rfl (zf (zE rfl (zz (zD (z6 (zz (zD ?_)))))))))))
        exact zA Tryz.results98 (.cons (zX (zC rfl) (Cv.eq (congrArg (fun n => D.v (.int .i64 n)) (by exact (cmpLs_at hx1 hx2 hf (by assumption)).symm)))) .nil) rfl HSub.none ⟨rfl, rfl⟩
      · replace hc5 := of_decide_eq_false hc5
        refine zI rfl (zL (zf (zc rfl (za rfl rfl (zae (c := ((k + 1 : Nat) : Int)) rfl rfl (z3 (by omega) (by omega))) (za rfl rfl (zb rfl) (zg rfl ?_))))))
        exact zU (k + 1) ⟨sk rfl, sk rfl, sk rfl, sk rfl, sk rfl, sk rfl, trivial⟩ HSub.none ⟨by omega, cmpLs_next hx1 hx2 hf (by omega)⟩ (by omega)
  · replace hc1 := of_decide_eq_false hc1
    refine zO rfl (zx (zt (zo (zf (zd _ _ rfl rfl rfl (zd _ _ rfl rfl rfl (zc rfl (za rfl rfl (zb rfl) (za rfl rfl (zas (n := a.length) rfl Tryz.runUnderlying52 (by simp only [lm, lc, ln])) (za rfl rfl (zb rfl) (za rfl rfl (zas (n := b.length) rfl Tryz.runUnderlying52 (by simp only [lm, lc, ln])) (za rfl rfl (zV rfl rfl rfl) (zg rfl (zf (JD.keep [38] [(38, dB (decide (((a.length : Nat) : Int) < ((b.length : Nat) : Int))))] rfl ?_)))))))))))))))
    refine zw _ _ rfl rfl rfl rfl (fun hc6 => ?_) (fun hc6 => ?_)
    · replace hc6 := of_decide_eq_true hc6
      refine zd _ _ rfl rfl rfl (zc rfl (za rfl rfl (ze rfl) (zg rfl (zf (zE rfl (zD ?_))))))
      exact zA Tryz.results98 (.cons (zX (zC rfl) (Cv.eq (congrArg (fun n => D.v (.int .i64 n)) (by rw [cmpLs_end (by omega) hf (by omega)]; first | rw [if_pos (by omega)] | rw [if_neg (by omega)])))) .nil) rfl HSub.none ⟨rfl, rfl⟩
    · replace hc6 := of_decide_eq_false hc6
      refine zI rfl (zf (zd _ _ rfl rfl rfl (zc rfl (za rfl rfl (ze rfl) (zg rfl (zf (zE rfl ?_)))))))
      exact zA Tryz.results98 (.cons (zX (zC rfl) (Cv.eq (congrArg (fun n => D.v (.int .i64 n)) (by rw [cmpLs_end (by omega) hf (by omega)]; first | rw [if_pos (by omega)] | rw [if_neg (by omega)])))) .nil) rfl HSub.none ⟨rfl, rfl⟩

set_option maxHeartbeats 4000000 in
set_option maxRecDepth 100000 in
theorem Compare2_c (a : List Lbl) (b : List Lbl)  :
    CD Tryz.prog 30 [] [.sh 2 (a.map Lbl.d), .sh 2 (b.map Lbl.d)] (isR (dI (zZ a b))) := by
  refine zB Tryz.func30 rfl (N := 8) rfl rfl (fun C => ?_)
  refine JD.keep [0, 1] [(0, .sh 2 (a.map Lbl.d)), (1, .sh 2 (b.map Lbl.d))] rfl ?_
  refine JD.bd 0 rfl (fun bd0 => ?_)
  have nl0 := zaf bd0
  refine JD.bd 1 rfl (fun bd1 => ?_)
  have nl1 := zaf bd1
  refine zd _ _ rfl rfl rfl (zc rfl (za rfl rfl (ze rfl) (zg rfl (zf (zd _ _ rfl rfl rfl (zc rfl (za rfl rfl (zb rfl) (za rfl rfl (zb rfl) (zl rfl rfl (zq [] _ [] rfl rfl (.cons ArgC.id (.cons ArgC.id (.cons ArgC.id .nil))) zk Tryz.call98 (CompareFunc_c a b) (.inl rfl)) ?_)))))))))
  rintro _ _ ⟨_, ⟨rfl, rfl⟩, rfl⟩
  refine OpsD.norm [] rfl (za rfl rfl (ze rfl) (zg rfl (zf (zE rfl ?_))))
  exact zA Tryz.results30 (.cons (zC rfl) .nil) rfl HSub.none ⟨rfl, rfl⟩

set_option maxHeartbeats 4000000 in
set_option maxRecDepth 100000 in
theorem texts_c (a : ByteArray) (b : ByteArray)  :
    CD Tryz.prog 97 [] [.s a, .s b] (isR (dI (cmpS a b))) := by
  refine zB Tryz.func97 rfl (N := 13) rfl rfl (fun C => ?_)
  refine JD.keep [0, 1] [(0, .s a), (1, .s b)] rfl ?_
  refine JD.bd 0 rfl (fun bd0 => ?_)
  have sz0 : a.size ≤ 9223372036854775807 := bd0
  refine JD.bd 1 rfl (fun bd1 => ?_)
  have sz1 : b.size ≤ 9223372036854775807 := bd1
  refine zd _ _ rfl rfl rfl (zc rfl (za rfl rfl (ze rfl) (zg rfl (zf (zd _ _ rfl rfl rfl (zu _ rfl rfl (zd _ _ rfl rfl rfl (zc rfl (za rfl rfl (zb rfl) (za rfl rfl (zb rfl) (za rfl rfl (p_lts rfl rfl rfl) (za rfl rfl (ze rfl) (zg rfl (zf ?_))))))))))))))
  refine zw _ _ rfl rfl rfl rfl (fun hc1 => ?_) (fun hc1 => ?_)
  · replace hc1 := of_decide_eq_true hc1
    refine zd _ _ rfl rfl rfl (zc rfl (za rfl rfl (ze rfl) (zg rfl (zf (zE rfl (zz (zD ?_)))))))
    exact zA Tryz.results97 (.cons (zX (zC rfl) (Cv.eq (congrArg (fun n => D.v (.int .i64 n)) (by rcases zbB a b with h | h | h <;> rw [h] <;> omega)))) .nil) rfl HSub.none ⟨rfl, rfl⟩
  · replace hc1 := of_decide_eq_false hc1
    refine zd _ _ rfl rfl rfl (zc rfl (za rfl rfl (zb rfl) (za rfl rfl (zb rfl) (za rfl rfl (p_gts rfl rfl rfl) (za rfl rfl (ze rfl) (zg rfl (zf (JD.keep [4, 9] [(4, dI 0), (9, dB (decide (0 < cmpS a b)))] rfl ?_))))))))
    refine zw _ _ rfl rfl rfl rfl (fun hc2 => ?_) (fun hc2 => ?_)
    · replace hc2 := of_decide_eq_true hc2
      refine zd _ _ rfl rfl rfl (zc rfl (za rfl rfl (ze rfl) (zg rfl (zf (zE rfl (zz (zD ?_)))))))
      exact zA Tryz.results97 (.cons (zX (zC rfl) (Cv.eq (congrArg (fun n => D.v (.int .i64 n)) (by rcases zbB a b with h | h | h <;> rw [h] <;> omega)))) .nil) rfl HSub.none ⟨rfl, rfl⟩
    · replace hc2 := of_decide_eq_false hc2
      refine zI rfl (zL (zf (zd _ _ rfl rfl rfl (zc rfl (za rfl rfl (ze rfl) (zg rfl (zf (zE rfl ?_))))))))
      exact zA Tryz.results97 (.cons (zX (zC rfl) (Cv.eq (congrArg (fun n => D.v (.int .i64 n)) (by rcases zbB a b with h | h | h <;> rw [h] <;> omega)))) .nil) rfl HSub.none ⟨rfl, rfl⟩

set_option maxHeartbeats 4000000 in
set_option maxRecDepth 100000 in
theorem refCompare_c (a : List Lbl) (b : List Lbl)  :
    CD Tryz.prog 29 [] [.sh 2 (a.map Lbl.d), .sh 2 (b.map Lbl.d)] (isR (dI (zZ a b))) := by
  refine zB Tryz.func29 rfl (N := 58) rfl rfl (fun C => ?_)
  refine JD.keep [0, 1] [(0, .sh 2 (a.map Lbl.d)), (1, .sh 2 (b.map Lbl.d))] rfl ?_
  refine JD.bd 0 rfl (fun bd0 => ?_)
  have nl0 := zaf bd0
  refine JD.bd 1 rfl (fun bd1 => ?_)
  have nl1 := zaf bd1
  refine zd _ _ rfl rfl rfl (zc rfl (za rfl rfl (ze rfl) (zg rfl (zf (zd _ _ rfl rfl rfl (zd _ _ rfl rfl rfl (zc rfl (za rfl rfl (ze rfl) (zg rfl (zf (zu _ rfl rfl (zP (fun (g : Nat) => [(0, .sh 2 (a.map Lbl.d)), (1, .sh 2 (b.map Lbl.d)), (5, dN g)]) (fun (g : Nat) => []) (fun (g : Nat) => (g ≤ a.length) ∧ (g ≤ b.length) ∧ (zZ a b = zZ (a.drop g) (b.drop g))) (fun (g : Nat) => a.length - g) _ 0 rfl rfl ⟨sk rfl, sk rfl, sk rfl, trivial⟩ HSub.rfl' ⟨Nat.zero_le _, Nat.zero_le _, by simp⟩ ?_))))))))))))
  rintro k ⟨hk, hk2, hf⟩
  refine JD.keep [0, 1, 5] [(0, .sh 2 (a.map Lbl.d)), (1, .sh 2 (b.map Lbl.d)), (5, dN k)] rfl (JD.norm [] rfl (zd _ _ rfl rfl rfl (zd _ _ rfl rfl rfl (JD.keep [0, 1, 5] [(0, .sh 2 (a.map Lbl.d)), (1, .sh 2 (b.map Lbl.d)), (5, dN k)] rfl ?_))))
  refine zau 16 ((decide (((k : Nat) : Int) < ((a.length : Nat) : Int)) && decide (((k : Nat) : Int) < ((b.length : Nat) : Int)))) [] (fun _ hQ1 => ?_) ?_
  · skip
    by_cases hg2 : ((k : Nat) : Int) < ((a.length : Nat) : Int)
    · skip
      refine zc rfl (za rfl rfl (zb rfl) (za rfl rfl (zb rfl) (za rfl rfl (zas (n := a.length) rfl Tryz.runUnderlying52 (by simp only [lm, lc, ln])) (za rfl rfl (zV rfl rfl (decide_eq_true hg2)) (za rfl rfl (zb rfl) (zh rfl rfl rfl rfl rfl (zb rfl) (zh rfl rfl rfl rfl rfl (zb rfl) (zh rfl rfl rfl rfl rfl (zas (n := b.length) rfl Tryz.runUnderlying52 (by simp only [lm, lc, ln])) (zh rfl rfl rfl rfl rfl (zV rfl rfl rfl) (za rfl rfl (zm rfl rfl) (zg rfl ?_)))))))))))
      exact PD.sub ((16, dB (decide (((k : Nat) : Int) < ((a.length : Nat) : Int)) && decide (((k : Nat) : Int) < ((b.length : Nat) : Int)))) :: [(0, .sh 2 (a.map Lbl.d)), (1, .sh 2 (b.map Lbl.d)), (5, dN k)]) ⟨sc rfl (Cv.eq (congrArg (fun b => D.v (.bool b)) (by first | (simp [hg2]; done) | (simp_all; done)))), sk rfl, sk rfl, sk rfl, trivial⟩ hQ1
    · skip
      refine zc rfl (za rfl rfl (zb rfl) (za rfl rfl (zb rfl) (za rfl rfl (zas (n := a.length) rfl Tryz.runUnderlying52 (by simp only [lm, lc, ln])) (za rfl rfl (zV rfl rfl (decide_eq_false hg2)) (za rfl rfl (zb rfl) (zi rfl rfl rfl rfl rfl (by decide) (zi rfl rfl rfl rfl rfl (by decide) (zi rfl rfl rfl rfl rfl (by decide) (zi rfl rfl rfl rfl rfl (by decide) (za rfl rfl (zp rfl rfl) (zg rfl ?_)))))))))))
      exact PD.sub ((16, dB (decide (((k : Nat) : Int) < ((a.length : Nat) : Int)) && decide (((k : Nat) : Int) < ((b.length : Nat) : Int)))) :: [(0, .sh 2 (a.map Lbl.d)), (1, .sh 2 (b.map Lbl.d)), (5, dN k)]) ⟨sc rfl (Cv.eq (congrArg (fun b => D.v (.bool b)) (by first | (simp [hg2]; done) | (simp_all; done)))), sk rfl, sk rfl, sk rfl, trivial⟩ hQ1
  · skip
    refine zf ?_
    refine zw _ _ rfl rfl rfl rfl (fun hc3 => ?_) (fun hc3 => ?_)
    · simp only [Bool.and_eq_true, Bool.or_eq_true, Bool.not_eq_true', Bool.not_eq_false', Bool.and_eq_false_iff, Bool.or_eq_false_iff, decide_eq_true_eq, decide_eq_false_iff_not, Decidable.not_not, ne_eq] at hc3
      refine zI rfl (zf (zd _ _ rfl rfl rfl (zu _ rfl rfl (zd _ _ rfl rfl rfl (JD.keep [0, 1, 5, 16] [(0, .sh 2 (a.map Lbl.d)), (1, .sh 2 (b.map Lbl.d)), (5, dN k), (16, dB (decide (((k : Nat) : Int) < ((a.length : Nat) : Int)) && decide (((k : Nat) : Int) < ((b.length : Nat) : Int))))] rfl (JD.norm [] rfl ?_))))))
      obtain ⟨x1, hx1⟩ := zW a k (by omega)
      obtain ⟨x2, hx2⟩ := zW b k (by omega)
      refine zam 10 [(19, .sh 2 (a.map Lbl.d), none), (20, dN k, none), (21, .el (Lbl.d x1) 0, none), (22, .el (Lbl.d x1) 0, none), (23, .s x1.n, none), (24, .sh 2 (b.map Lbl.d), none), (25, dN k, none), (26, .el (Lbl.d x2) 0, none), (27, .el (Lbl.d x2) 0, none), (28, .s x2.n, none)] [] (Hn := []) zaH rfl rfl rfl rfl HSub.rfl' rfl ⟨sa_p rfl rfl rfl (zb rfl), sa_p rfl rfl rfl (zb rfl), sa_p rfl rfl rfl (zN (k := k) rfl rfl Tryz.runUnderlying52 Tryz.sizeOf106 (by first | rfl | omega) (zJ hx1)), sa_p rfl rfl rfl (zT rfl zaa rfl), sa_p rfl rfl rfl (zS rfl Tryz.isAgg9 rfl), sa_p rfl rfl rfl (zb rfl), sa_p rfl rfl rfl (zb rfl), sa_p rfl rfl rfl (zN (k := k) rfl rfl Tryz.runUnderlying52 Tryz.sizeOf106 (by first | rfl | omega) (zJ hx2)), sa_p rfl rfl rfl (zT rfl zaa rfl), sa_p rfl rfl rfl (zS rfl Tryz.isAgg9 rfl), trivial⟩ ?_
      refine OpsD.keep [0, 1, 5, 16, 19, 20, 21, 22, 23, 24, 25, 26, 27, 28] [(0, .sh 2 (a.map Lbl.d)), (1, .sh 2 (b.map Lbl.d)), (5, dN k), (16, dB (decide (((k : Nat) : Int) < ((a.length : Nat) : Int)) && decide (((k : Nat) : Int) < ((b.length : Nat) : Int)))), (19, .sh 2 (a.map Lbl.d)), (20, dN k), (21, .el (Lbl.d x1) 0), (22, .el (Lbl.d x1) 0), (23, .s x1.n), (24, .sh 2 (b.map Lbl.d)), (25, dN k), (26, .el (Lbl.d x2) 0), (27, .el (Lbl.d x2) 0), (28, .s x2.n)] rfl (zl rfl rfl (zq [] _ [] rfl rfl (.cons ArgC.id (.cons ArgC.id .nil)) zk Tryz.call97 (texts_c x1.n x2.n) (.inl rfl)) ?_)
      rintro _ _ ⟨_, ⟨rfl, rfl⟩, rfl⟩
      refine OpsD.norm [] rfl (za rfl rfl (ze rfl) (zg rfl (zf (zd _ _ rfl rfl rfl (zd _ _ rfl rfl rfl (zc rfl (za rfl rfl (zb rfl) (za rfl rfl (z5 rfl rfl rfl) (zg rfl (zf ?_))))))))))
      refine zw _ _ rfl rfl rfl rfl (fun hc4 => ?_) (fun hc4 => ?_)
      · replace hc4 := of_decide_eq_true hc4
        refine JD.keep [0, 1, 5, 6, 16, 19, 20, 21, 22, 23, 24, 25, 26, 27, 28, 29, 30, 31] [(0, .sh 2 (a.map Lbl.d)), (1, .sh 2 (b.map Lbl.d)), (5, dN k), (6, dI (cmpS x1.n x2.n)), (16, dB (decide (((k : Nat) : Int) < ((a.length : Nat) : Int)) && decide (((k : Nat) : Int) < ((b.length : Nat) : Int)))), (19, .sh 2 (a.map Lbl.d)), (20, dN k), (21, .el (Lbl.d x1) 0), (22, .el (Lbl.d x1) 0), (23, .s x1.n), (24, .sh 2 (b.map Lbl.d)), (25, dN k), (26, .el (Lbl.d x2) 0), (27, .el (Lbl.d x2) 0), (28, .s x2.n), (29, dI (cmpS x1.n x2.n)), (30, dI (cmpS x1.n x2.n)), (31, dB (decide (cmpS x1.n x2.n = (0 : Int))))] rfl (JD.norm [] rfl ?_)
        refine zam 10 [(32, .sh 2 (a.map Lbl.d), none), (33, dN k, none), (34, .el (Lbl.d x1) 0, none), (35, .el (Lbl.d x1) 1, none), (36, .s x1.v, none), (37, .sh 2 (b.map Lbl.d), none), (38, dN k, none), (39, .el (Lbl.d x2) 0, none), (40, .el (Lbl.d x2) 1, none), (41, .s x2.v, none)] [] (Hn := []) zaH rfl rfl rfl rfl HSub.rfl' rfl ⟨sa_p rfl rfl rfl (zb rfl), sa_p rfl rfl rfl (zb rfl), sa_p rfl rfl rfl (zN (k := k) rfl rfl Tryz.runUnderlying52 Tryz.sizeOf106 (by first | rfl | omega) (zJ hx1)), sa_p rfl rfl rfl (zT rfl zaj rfl), sa_p rfl rfl rfl (zS rfl Tryz.isAgg9 rfl), sa_p rfl rfl rfl (zb rfl), sa_p rfl rfl rfl (zb rfl), sa_p rfl rfl rfl (zN (k := k) rfl rfl Tryz.runUnderlying52 Tryz.sizeOf106 (by first | rfl | omega) (zJ hx2)), sa_p rfl rfl rfl (zT rfl zaj rfl), sa_p rfl rfl rfl (zS rfl Tryz.isAgg9 rfl), trivial⟩ ?_
        refine OpsD.keep [0, 1, 5, 6, 16, 19, 20, 21, 22, 23, 24, 25, 26, 27, 28, 29, 30, 31, 32, 33, 34, 35, 36, 37, 38, 39, 40, 41] [(0, .sh 2 (a.map Lbl.d)), (1, .sh 2 (b.map Lbl.d)), (5, dN k), (6, dI (cmpS x1.n x2.n)), (16, dB (decide (((k : Nat) : Int) < ((a.length : Nat) : Int)) && decide (((k : Nat) : Int) < ((b.length : Nat) : Int)))), (19, .sh 2 (a.map Lbl.d)), (20, dN k), (21, .el (Lbl.d x1) 0), (22, .el (Lbl.d x1) 0), (23, .s x1.n), (24, .sh 2 (b.map Lbl.d)), (25, dN k), (26, .el (Lbl.d x2) 0), (27, .el (Lbl.d x2) 0), (28, .s x2.n), (29, dI (cmpS x1.n x2.n)), (30, dI (cmpS x1.n x2.n)), (31, dB (decide (cmpS x1.n x2.n = (0 : Int)))), (32, .sh 2 (a.map Lbl.d)), (33, dN k), (34, .el (Lbl.d x1) 0), (35, .el (Lbl.d x1) 1), (36, .s x1.v), (37, .sh 2 (b.map Lbl.d)), (38, dN k), (39, .el (Lbl.d x2) 0), (40, .el (Lbl.d x2) 1), (41, .s x2.v)] rfl (zl rfl rfl (zq [] _ [] rfl rfl (.cons ArgC.id (.cons ArgC.id .nil)) zk Tryz.call97 (texts_c x1.v x2.v) (.inl rfl)) ?_)
        rintro _ _ ⟨_, ⟨rfl, rfl⟩, rfl⟩
        refine OpsD.norm [] rfl (za rfl rfl (ze rfl) (zg rfl (zf (zd _ _ rfl rfl rfl (zc rfl (za rfl rfl (zb rfl) (za rfl rfl (zbG rfl rfl rfl) (zg rfl (zf ?_)))))))))
        refine zw _ _ rfl rfl rfl rfl (fun hc5 => ?_) (fun hc5 => ?_)
        · replace hc5 := of_decide_eq_true hc5
          refine zd _ _ rfl rfl rfl (zc rfl (za rfl rfl (zb rfl) (za rfl rfl (ze rfl) (zg rfl (zf (zE rfl (zz (zD (z6 (zz (zD ?_)))))))))))
          exact zA Tryz.results29 (.cons (zX (zC rfl) (Cv.eq (congrArg (fun n => D.v (.int .i64 n)) (by rw [cmpLs_at hx1 hx2 hf (by unfold zG or2; split <;> omega)]; unfold zG or2; first | rw [if_pos (by omega)] | rw [if_neg (by omega)])))) .nil) rfl HSub.none ⟨rfl, rfl⟩
        · replace hc5 := of_decide_eq_false hc5
          refine zI rfl (zL (zf (zc rfl (za rfl rfl (zb rfl) (za rfl rfl (zae (c := ((k + 1 : Nat) : Int)) rfl rfl (z3 (by omega) (by omega))) (za rfl rfl (ze rfl) (zg rfl ?_)))))))
          exact zU (k + 1) ⟨sk rfl, sk rfl, sk rfl, trivial⟩ HSub.rfl' ⟨by omega, by omega, cmpLs_next hx1 hx2 hf (by unfold zG or2; split <;> omega)⟩ (by omega)
      · replace hc4 := of_decide_eq_false hc4
        refine zI rfl (zf (zd _ _ rfl rfl rfl (zc rfl (za rfl rfl (zb rfl) (za rfl rfl (zbG rfl rfl rfl) (zg rfl (zf ?_)))))))
        refine zw _ _ rfl rfl rfl rfl (fun hc6 => ?_) (fun hc6 => ?_)
        · replace hc6 := of_decide_eq_true hc6
          refine zd _ _ rfl rfl rfl (zc rfl (za rfl rfl (zb rfl) (za rfl rfl (ze rfl) (zg rfl (zf (zE rfl (zz (zD (z6 (zz (zD ?_)))))))))))
          exact zA Tryz.results29 (.cons (zX (zC rfl) (Cv.eq (congrArg (fun n => D.v (.int .i64 n)) (by rw [cmpLs_at hx1 hx2 hf (by unfold zG or2; split <;> omega)]; unfold zG or2; first | rw [if_pos (by omega)] | rw [if_neg (by omega)])))) .nil) rfl HSub.none ⟨rfl, rfl⟩
        · replace hc6 := of_decide_eq_false hc6
          refine zI rfl (zL (zf (zc rfl (za rfl rfl (zb rfl) (za rfl rfl (zae (c := ((k + 1 : Nat) : Int)) rfl rfl (z3 (by omega) (by omega))) (za rfl rfl (ze rfl) (zg rfl ?_)))))))
          exact zU (k + 1) ⟨sk rfl, sk rfl, sk rfl, trivial⟩ HSub.rfl' ⟨by omega, by omega, cmpLs_next hx1 hx2 hf (by unfold zG or2; split <;> omega)⟩ (by omega)
    · simp only [Bool.and_eq_true, Bool.or_eq_true, Bool.not_eq_true', Bool.not_eq_false', Bool.and_eq_false_iff, Bool.or_eq_false_iff, decide_eq_true_eq, decide_eq_false_iff_not, Decidable.not_not, ne_eq] at hc3
      refine zO rfl (zx (zt (zo (zf (zd _ _ rfl rfl rfl (zu _ rfl rfl (zd _ _ rfl rfl rfl (zc rfl (za rfl rfl (zb rfl) (za rfl rfl (zas (n := a.length) rfl Tryz.runUnderlying52 (by simp only [lm, lc, ln])) (za rfl rfl (zb rfl) (za rfl rfl (zas (n := b.length) rfl Tryz.runUnderlying52 (by simp only [lm, lc, ln])) (za rfl rfl (zV rfl rfl rfl) (za rfl rfl (ze rfl) (zg rfl (zf ?_))))))))))))))))
      refine zw _ _ rfl rfl rfl rfl (fun hc7 => ?_) (fun hc7 => ?_)
      · replace hc7 := of_decide_eq_true hc7
        refine zd _ _ rfl rfl rfl (zc rfl (za rfl rfl (ze rfl) (zg rfl (zf (JD.keep [4] [(4, dI (-1))] rfl (zE rfl (zz (zD ?_))))))))
        exact zA Tryz.results29 (.cons (zX (zC rfl) (Cv.eq (congrArg (fun n => D.v (.int .i64 n)) (by rw [hf]; first | rw [cmpLs_nil (by omega) (by omega) (by omega)] | rw [cmpLs_nil_l (by omega) (by omega)] | rw [cmpLs_nil_r (by omega) (by omega)])))) .nil) rfl HSub.none ⟨rfl, rfl⟩
      · replace hc7 := of_decide_eq_false hc7
        refine zd _ _ rfl rfl rfl (zc rfl (za rfl rfl (zb rfl) (za rfl rfl (zas (n := a.length) rfl Tryz.runUnderlying52 (by simp only [lm, lc, ln])) (za rfl rfl (zb rfl) (za rfl rfl (zas (n := b.length) rfl Tryz.runUnderlying52 (by simp only [lm, lc, ln])) (za rfl rfl (zaW rfl rfl rfl) (za rfl rfl (ze rfl) (zg rfl (zf (JD.keep [52] [(52, dB (decide (((b.length : Nat) : Int) < ((a.length : Nat) : Int))))] rfl ?_))))))))))
        refine zw _ _ rfl rfl rfl rfl (fun hc8 => ?_) (fun hc8 => ?_)
        · replace hc8 := of_decide_eq_true hc8
          refine zd _ _ rfl rfl rfl (zc rfl (za rfl rfl (ze rfl) (zg rfl (zf (zE rfl (zz (zD ?_)))))))
          exact zA Tryz.results29 (.cons (zX (zC rfl) (Cv.eq (congrArg (fun n => D.v (.int .i64 n)) (by rw [hf]; first | rw [cmpLs_nil (by omega) (by omega) (by omega)] | rw [cmpLs_nil_l (by omega) (by omega)] | rw [cmpLs_nil_r (by omega) (by omega)])))) .nil) rfl HSub.none ⟨rfl, rfl⟩
        · replace hc8 := of_decide_eq_false hc8
          refine zI rfl (zL (zf (zd _ _ rfl rfl rfl (zc rfl (za rfl rfl (ze rfl) (zg rfl (zf (zE rfl ?_))))))))
          exact zA Tryz.results29 (.cons (zX (zC rfl) (Cv.eq (congrArg (fun n => D.v (.int .i64 n)) (by rw [hf]; first | rw [cmpLs_nil (by omega) (by omega) (by omega)] | rw [cmpLs_nil_l (by omega) (by omega)] | rw [cmpLs_nil_r (by omega) (by omega)])))) .nil) rfl HSub.none ⟨rfl, rfl⟩

end Lp
/-
  What is said of labels (chapter 2), as plain data.
-/
set_option linter.unusedVariables false
namespace Lp
open Go

theorem cmpLs_self (a : List Lbl) : zZ a a = 0 := by have := cmpLs_neg a a; omega
theorem cmpLbl_eq {a b : Lbl} : zG a b = 0 ↔ a = b := by
  constructor
  · intro h
    unfold zG or2 at h
    split at h
    · contradiction
    · rename_i h1
      have h1 : cmpS a.n b.n = 0 := by omega
      have e1 := (zbu _ _).1 h1
      have e2 := (zbu _ _).1 h
      obtain ⟨_, _⟩ := a; obtain ⟨_, _⟩ := b; simp at e1 e2; simp [e1, e2]
  · rintro rfl; have := cmpLbl_neg a a; omega
theorem cmpLs_eq : ∀ {a b : List Lbl}, zZ a b = 0 ↔ a = b
  | [], [] => by simp [zZ]
  | [], _ :: _ => by simp [zZ]
  | _ :: _, [] => by simp [zZ]
  | a :: r, b :: s => by
    unfold zZ
    split
    · rename_i h
      constructor
      · intro h'; contradiction
      · intro h'; cases h'; exact absurd (cmpLbl_eq.2 rfl) h
    · rename_i h
      have h : zG a b = 0 := by omega
      rw [cmpLs_eq, cmpLbl_eq.1 h]; simp

/-! ### order -/
theorem isort_len' (l : List Lbl) : (zQ zG l).length = l.length := isort_len _ l rfl
/-- sorted: sorting does nothing -/
theorem isort_srt {l : List Lbl} (h : Srt zG l) : zQ zG l = l := (zb5 zbC _ l rfl).eq zbC ⟨h, fun _ => rfl⟩
theorem tidyL_len (l : List Lbl) : (zj l).length ≤ l.length := by
  unfold zj; cases zY l
  · simp
  · simp [isort_len']
theorem tidyE_cases (l : List Lbl) : (zM l = 0 ∧ zY l = true ∧ zj l = zQ zG l) ∨ (zM l = 1 ∧ zj l = []) := by
  unfold zj zM; cases zY l <;> simp
theorem tidy_srt (l : List Lbl) : Srt zG (zj l) := by
  rcases tidyE_cases l with ⟨_, _, h⟩ | ⟨_, h⟩ <;> rw [h]
  · exact (zb5 zbC _ l rfl).srt
  · exact List.Pairwise.nil
theorem tidy_ok_len {l : List Lbl} (h : zY l = true) : l.length ≤ 8 := by unfold zY at h; simp at h; exact h.1
theorem tidy_ok_b {l : List Lbl} (h : zY l = true) : zcx (zQ zG l) = true := by unfold zY at h; simp at h; exact h.2
/-- tidy labels are tidy -/
theorem tidy_tidy {l : List Lbl} (h : zM l = 0) : zj (zj l) = zj l ∧ zM (zj l) = 0 := by
  rcases tidyE_cases l with ⟨_, h2, h3⟩ | ⟨h2, _⟩
  · have hs := tidy_srt l
    have hi := isort_srt hs
    have : zY (zj l) = true := by
      unfold zY; rw [hi, h3, isort_len', tidy_ok_b h2]; simp [tidy_ok_len h2]
    unfold zj zM at *
    rw [this]; simp [hi]
  · omega

/-! ### the first call -/
def alIn : List Lbl := [⟨⟨#[98]⟩, ⟨#[120]⟩⟩, ⟨⟨#[97]⟩, ⟨#[121]⟩⟩]
def zcU : List Lbl := [⟨⟨#[97]⟩, ⟨#[121]⟩⟩, ⟨⟨#[98]⟩, ⟨#[120]⟩⟩]
theorem al_sort : zQ zG alIn = zcU := by decide
theorem runes_one {s : ByteArray} {r : Nat} (h0 : 0 < s.size) (h1 : decR s 0 = r) (h2 : s.size ≤ decW s 0) : zav s = [(r : Int)] := by
  unfold zav; rw [zbZ h0, zb0 (by omega), h1]
theorem name_a : zbz ⟨#[97]⟩ = true := by unfold zbz; rw [runes_one (r := 97) (by decide) (by decide) (by decide)]; decide
theorem name_b : zbz ⟨#[98]⟩ = true := by unfold zbz; rw [runes_one (r := 98) (by decide) (by decide) (by decide)]; decide
theorem al_tidyB : zcx zcU = true := by
  have h1 : okL ⟨⟨#[97]⟩, ⟨#[121]⟩⟩ = true := by unfold okL; rw [name_a]; decide
  have h2 : okL ⟨⟨#[98]⟩, ⟨#[120]⟩⟩ = true := by unfold okL; rw [name_b]; decide
  show za3 none zcU = true
  unfold zcU za3 za3 za3
  rw [h1, h2]; decide
theorem al_ok : zY alIn = true := by unfold zY; rw [al_sort, al_tidyB]; decide
theorem zcu : zj alIn = zcU ∧ zM alIn = 0 := by unfold zj zM; rw [al_ok, al_sort]; exact ⟨rfl, rfl⟩
theorem quote_one {s : ByteArray} (h0 : 0 < s.size) (h2 : s.size ≤ decW s 0) : zcW s = 34 :: (zbr s 0 ++ [34]) := by
  unfold zcW; rw [zbj h0, quoteAt_ge (by omega), List.append_nil]
theorem al_text : zbx zcU = ⟨#[123, 97, 61, 34, 121, 34, 44, 98, 61, 34, 120, 34, 125]⟩ := by
  unfold zbx zcU zbe zaV
  simp only [List.map_cons, List.map_nil]
  rw [quote_one (s := ⟨#[121]⟩) (by decide) (by decide), quote_one (s := ⟨#[120]⟩) (by decide) (by decide)]
  decide
theorem al_right : zM zcU = 0 ∧ zj zcU = zcU := by
  have := tidy_tidy (l := alIn) zcu.2
  rw [zcu.1] at this; exact ⟨this.2, this.1⟩
theorem al_size : ∀ x ∈ zj alIn, x.n.size ≤ 100000 ∧ x.v.size ≤ 100000 := by rw [zcu.1]; decide
theorem al_len : (zj alIn).length = 2 := by rw [zcu.1]; rfl
theorem al_get : getL (zj alIn) ⟨#[98]⟩ = ⟨#[120]⟩ := by rw [zcu.1]; decide
theorem al_all : (((((decide (zM alIn = 0) && decide (((zj alIn).length : Int) = 2)) && decide (zbx (zj alIn) = ⟨#[123, 97, 61, 34, 121, 34, 44, 98, 61, 34, 120, 34, 125]⟩)) && decide (getL (zj alIn) ⟨#[98]⟩ = ⟨#[120]⟩)) && (decide (zM (zj alIn) = 0) && decide (zZ (zj (zj alIn)) (zj alIn) = 0)))) = true := by
  rw [al_len, al_get, zcu.1, zcu.2, al_text, al_right.1, al_right.2, cmpLs_self]; decide
end Lp
/-
  Texts of labels tell labels apart; names in tidy labels are all different.
-/
set_option linter.unusedVariables false
namespace Lp
open Go

/-! ### names in tidy labels -/
def NSrt (l : List Lbl) : Prop := l.Pairwise (fun a b => cmpS a.n b.n < 0)
theorem cmpLbl_n {a b : Lbl} (h : zG a b ≤ 0) : cmpS a.n b.n ≤ 0 := by
  unfold zG or2 at h; split at h <;> omega
theorem tidyFrom_n : ∀ (l : List Lbl) (p : Option ByteArray), Srt zG l → za3 p l = true → NSrt l ∧ ∀ x ∈ l, okL x = true
  | [], _, _, _ => ⟨List.Pairwise.nil, fun _ h => by cases h⟩
  | x :: r, p, hs, ht => by
    have hs' := List.pairwise_cons.1 hs
    unfold za3 at ht
    simp only [Bool.and_eq_true] at ht
    obtain ⟨h1, h2, h3⟩ := ht
    have ih := tidyFrom_n r (some x.n) hs'.2 h3
    refine ⟨List.pairwise_cons.2 ⟨?_, ih.1⟩, ?_⟩
    · intro y hy
      cases r with
      | nil => cases hy
      | cons z r =>
        have hxz : cmpS x.n z.n < 0 := by
          have h4 := cmpLbl_n (hs'.1 z List.mem_cons_self)
          have h5 : ¬ x.n = z.n := by
            unfold za3 at h3; simp only [Bool.and_eq_true, Bool.not_eq_true', decide_eq_false_iff_not] at h3
            intro e; exact h3.2.1 (congrArg some e)
          have h6 : cmpS x.n z.n ≠ 0 := fun e => h5 ((zbu _ _).1 e)
          omega
        rcases List.mem_cons.1 hy with e | e
        · rw [e]; exact hxz
        · have h7 := (List.pairwise_cons.1 ih.1).1 y e
          exact (cmpS_tr x.n z.n y.n).lt1 hxz (by omega)
    · intro y hy
      rcases List.mem_cons.1 hy with e | e
      · rw [e]; exact h1
      · exact ih.2 y e
theorem tidy_n {l : List Lbl} (h : zM l = 0) : NSrt (zj l) ∧ ∀ x ∈ zj l, okL x = true := by
  rcases tidyE_cases l with ⟨_, h2, h3⟩ | ⟨h2, _⟩
  · have hs := tidy_srt l
    rw [h3] at hs ⊢
    exact tidyFrom_n _ none hs (tidy_ok_b h2)
  · omega
/-! ### what a text of zav is made of -/
def bts (s : ByteArray) (p : Nat) : List UInt8 := s.data.toList.drop p
theorem za5 {s : ByteArray} {p : Nat} (h : p < s.size) : bts s p = s.get! p :: bts s (p + 1) := by
  unfold bts
  have h' : p < s.data.toList.length := by simpa using h
  rw [List.drop_eq_getElem_cons h']
  congr 1
  simp [ByteArray.get!, h]
theorem zcR {b : UInt8} {n : Nat} (h : b.toNat = n % 256) : b = UInt8.ofNat n := by
  apply UInt8.toNat_inj.1; simpa using h
theorem extract_bts {s : ByteArray} {p : Nat} : (s.extract p s.size).data.toList = bts s p := by
  unfold bts
  simp only [ByteArray.data_extract, Array.toList_extract, List.extract]
  rw [List.take_of_length_le]
  simp
theorem hasP_bts {s : ByteArray} {p : Nat} (h : hasP (s.extract p s.size) wide = true) : ∃ r, bts s p = 239 :: 191 :: 189 :: r := by
  unfold hasP at h
  simp only [Bool.and_eq_true, decide_eq_true_eq] at h
  have e := congrArg (fun b : ByteArray => b.data.toList) h.2
  simp only [ByteArray.data_extract, Array.toList_extract, List.extract] at e
  have e2 : (s.extract p s.size).data.toList.take 3 = [239, 191, 189] := by
    have e3 : List.take wide.size (List.take (s.size - p) (List.drop p s.data.toList)) = [239, 191, 189] := by simpa [wide] using e
    rw [show wide.size = 3 from rfl] at e3
    simpa using e3
  rw [extract_bts] at e2
  refine ⟨(bts s p).drop 3, ?_⟩
  have := (List.take_append_drop 3 (bts s p)).symm
  rw [e2] at this; simpa using this
theorem not_lt_bts {s : ByteArray} {p : Nat} (h : s.size ≤ p) : bts s p = [] := by unfold bts; rw [List.drop_eq_nil_iff]; simpa using h
theorem bts_lt {s : ByteArray} {p : Nat} {a : UInt8} {r : List UInt8} (h : bts s p = a :: r) : p < s.size := by
  rcases Nat.lt_or_ge p s.size with h' | h'
  · exact h'
  · rw [not_lt_bts h'] at h; cases h
theorem bts_head {s : ByteArray} {p : Nat} {a : UInt8} {r : List UInt8} (h : bts s p = a :: r) : s.get! p = a ∧ bts s (p + 1) = r := by
  rw [za5 (bts_lt h)] at h; injection h with h1 h2; exact ⟨h1, h2⟩
/-- what is decoded: the bytes of a rune, or a byte that is none -/
theorem dec_cases (s : ByteArray) (p : Nat) (h : p < s.size) :
    (bts s p = encR (decR s p) ++ bts s (p + decW s p)) ∨ (decR s p = 65533 ∧ decW s p = 1 ∧ hasP (s.extract p s.size) wide = false) := by
  by_cases hw : hasP (s.extract p s.size) wide = true
  · left
    obtain ⟨r, hr⟩ := hasP_bts hw
    obtain ⟨g0, b1⟩ := bts_head hr
    obtain ⟨g1, b2⟩ := bts_head b1
    obtain ⟨g2, b3⟩ := bts_head b2
    have l2 := bts_lt b2
    have hd : Utf8.decode s p = (65533, 3) := by
      unfold Utf8.decode
      simp only [Nat.add_zero, g0, g1, show p + 2 = p + 1 + 1 from rfl, g2, show p + 1 < s.size by omega, l2, decide_true, Bool.true_and]
      simp [Utf8.valid]
    have e1 : decR s p = 65533 := by unfold decR; rw [hd]
    have e2 : decW s p = 3 := by unfold decW; rw [hd]
    rw [e1, e2, hr, show p + 3 = p + 1 + 1 + 1 from rfl, b3]
    rfl
  · have hw : hasP (s.extract p s.size) wide = false := by simpa using hw
    have l0 : (s.get! p).toNat < 256 := UInt8.toNat_lt _
    have l1 : (s.get! (p + 1)).toNat < 256 := UInt8.toNat_lt _
    have l2 : (s.get! (p + 2)).toNat < 256 := UInt8.toNat_lt _
    have l3 : (s.get! (p + 3)).toNat < 256 := UInt8.toNat_lt _
    have c0 := za5 h
    unfold decR decW
    unfold Utf8.decode
    simp only [Nat.add_zero, Utf8.runeError, Bool.and_eq_true, decide_eq_true_eq, beq_iff_eq]
    by_cases h1 : (s.get! p).toNat < 128
    · left
      rw [if_pos h1]
      show _ = encR (s.get! p).toNat ++ _
      unfold encR
      rw [if_pos (show (s.get! p).toNat ≤ 127 by omega), c0]
      congr 1; exact zcR (by omega)
    · rw [if_neg h1]
      by_cases h2 : (s.get! p).toNat / 32 = 6 ∧ p + 1 < s.size ∧ (s.get! (p + 1)).toNat / 64 = 2
      · rw [if_pos h2]
        have c1 := za5 h2.2.1
        by_cases h3 : (s.get! p).toNat % 32 * 64 + (s.get! (p + 1)).toNat % 64 ≥ 128
        · left
          rw [if_pos h3]
          show _ = encR ((s.get! p).toNat % 32 * 64 + (s.get! (p + 1)).toNat % 64) ++ _
          unfold encR
          rw [if_neg (by omega), if_pos (by omega), c0, c1]
          show _ = _ :: _ :: _
          congr 1
          · exact zcR (by omega)
          · congr 1; exact zcR (by omega)
        · right; rw [if_neg h3]; exact ⟨rfl, rfl, hw⟩
      · rw [if_neg h2]
        by_cases h4 : ((s.get! p).toNat / 16 = 14 ∧ p + 1 < s.size ∧ (s.get! (p + 1)).toNat / 64 = 2) ∧ p + 2 < s.size ∧ (s.get! (p + 2)).toNat / 64 = 2
        · rw [if_pos h4]
          have c1 := za5 h4.1.2.1
          have c2 := za5 h4.2.1
          by_cases h3 : (s.get! p).toNat % 16 * 4096 + (s.get! (p + 1)).toNat % 64 * 64 + (s.get! (p + 2)).toNat % 64 ≥ 2048 ∧ Utf8.valid (((s.get! p).toNat % 16 * 4096 + (s.get! (p + 1)).toNat % 64 * 64 + (s.get! (p + 2)).toNat % 64 : Nat) : Int) = true
          · left
            rw [if_pos h3]
            show _ = encR ((s.get! p).toNat % 16 * 4096 + (s.get! (p + 1)).toNat % 64 * 64 + (s.get! (p + 2)).toNat % 64) ++ _
            have hv := h3.2
            unfold Utf8.valid at hv
            simp only [Bool.or_eq_true, Bool.and_eq_true, decide_eq_true_eq] at hv
            unfold encR
            rw [if_neg (by omega), if_neg (by omega), if_pos (by omega), c0, c1, c2]
            show _ = _ :: _ :: _ :: _
            congr 1
            · exact zcR (by omega)
            · congr 1
              · exact zcR (by omega)
              · congr 1; exact zcR (by omega)
          · right; rw [if_neg h3]; exact ⟨rfl, rfl, hw⟩
        · rw [if_neg h4]
          by_cases h5 : (((s.get! p).toNat / 8 = 30 ∧ p + 1 < s.size ∧ (s.get! (p + 1)).toNat / 64 = 2) ∧ p + 2 < s.size ∧ (s.get! (p + 2)).toNat / 64 = 2) ∧ p + 3 < s.size ∧ (s.get! (p + 3)).toNat / 64 = 2
          · rw [if_pos h5]
            have c1 := za5 h5.1.1.2.1
            have c2 := za5 h5.1.2.1
            have c3 := za5 h5.2.1
            by_cases h3 : (s.get! p).toNat % 8 * 262144 + (s.get! (p + 1)).toNat % 64 * 4096 + (s.get! (p + 2)).toNat % 64 * 64 + (s.get! (p + 3)).toNat % 64 ≥ 65536 ∧ Utf8.valid (((s.get! p).toNat % 8 * 262144 + (s.get! (p + 1)).toNat % 64 * 4096 + (s.get! (p + 2)).toNat % 64 * 64 + (s.get! (p + 3)).toNat % 64 : Nat) : Int) = true
            · left
              rw [if_pos h3]
              show _ = encR ((s.get! p).toNat % 8 * 262144 + (s.get! (p + 1)).toNat % 64 * 4096 + (s.get! (p + 2)).toNat % 64 * 64 + (s.get! (p + 3)).toNat % 64) ++ _
              have hv := h3.2
              unfold Utf8.valid at hv
              simp only [Bool.or_eq_true, Bool.and_eq_true, decide_eq_true_eq] at hv
              unfold encR
              rw [if_neg (by omega), if_neg (by omega), if_neg (by omega), if_pos (by omega), c0, c1, c2, c3]
              show _ = _ :: _ :: _ :: _ :: _
              congr 1
              · exact zcR (by omega)
              · congr 1
                · exact zcR (by omega)
                · congr 1
                  · exact zcR (by omega)
                  · congr 1; exact zcR (by omega)
            · right; rw [if_neg h3]; exact ⟨rfl, rfl, hw⟩
          · right; rw [if_neg h5]; exact ⟨rfl, rfl, hw⟩

theorem byteAt_get {s : ByteArray} {p : Nat} (h : p < s.size) : zbO s p = (s.get! p).toNat := by
  unfold zbO; congr 1; simp [ByteArray.get!, h]; rfl
theorem light_sizes {l : List Lbl} (h : zaN l = true) : ∀ x ∈ l, x.n.size ≤ 200 ∧ x.v.size ≤ 200 := by
  intro x hx
  have hl := lightL_len h
  unfold zaN at h
  rw [Bool.and_eq_true, List.take_of_length_le (by omega), List.all_eq_true] at h
  have := h.1 x hx
  simpa using this
end Lp
/-
  Stable sorting in place, as plain data: parts that are put in order where they stand, blocks that change places, two sorted parts that are merged.
-/
set_option linter.unusedVariables false
namespace Lp
open Go
section
variable {α : Type} {c : α → α → Int}

/-! ### one list is in order: all are -/
theorem Srt.app {a b : List α} (ha : Srt c a) (hb : Srt c b) (hab : ∀ x ∈ a, ∀ y ∈ b, c x y ≤ 0) : Srt c (a ++ b) := List.pairwise_append.2 ⟨ha, hb, hab⟩
theorem Srt.left {a b : List α} (h : Srt c (a ++ b)) : Srt c a := (List.pairwise_append.1 h).1
theorem Srt.right {a b : List α} (h : Srt c (a ++ b)) : Srt c b := (List.pairwise_append.1 h).2.1
end
end Lp
/-
  The document's own tidying of labels and rows, as plain data.
-/
set_option linter.unusedVariables false
namespace Lp
open Go
section
variable {α : Type} {c : α → α → Int}
/-- strictly in order -/
def zcv (c : α → α → Int) (l : List α) : Prop := l.Pairwise (fun a b => c a b < 0)
theorem zcv.srt {l : List α} (h : zcv c l) : Srt c l := List.Pairwise.imp (fun h => Int.le_of_lt h) h
/-- a list with one more at a place -/
def zdt (out : List α) (k : Nat) (x : α) : List α := (((out.take k).drop 0) ++ [x]) ++ ((out.take out.length).drop k)
theorem insAt_eq (out : List α) (k : Nat) (x : α) : zdt out k x = out.take k ++ x :: out.drop k := by unfold zdt; rw [List.take_length, List.drop_zero]; simp
theorem insAt_perm (out : List α) (k : Nat) (x : α) : (zdt out k x).Perm (out ++ [x]) := by
  rw [insAt_eq]
  refine (List.perm_middle).trans ?_
  rw [List.take_append_drop]
  exact (List.perm_append_comm (l₁ := [x]) (l₂ := out))
theorem insAt_strict {out : List α} {k : Nat} {x : α} (h : zcv c out) (h1 : ∀ y ∈ out.take k, c y x < 0) (h2 : ∀ y ∈ out.drop k, c x y < 0) : zcv c (zdt out k x) := by
  rw [insAt_eq]
  have e : out.take k ++ out.drop k = out := List.take_append_drop ..
  unfold zcv at h ⊢
  rw [← e] at h
  obtain ⟨a1, a2, a3⟩ := List.pairwise_append.1 h
  refine List.pairwise_append.2 ⟨a1, List.pairwise_cons.2 ⟨h2, a2⟩, fun y hy z hz => ?_⟩
  rcases List.mem_cons.1 hz with e | e
  · rw [e]; exact h1 y hy
  · exact a3 y hy z e
theorem ins_perm (x : α) (l : List α) : (ins c x l).Perm (x :: l) := by
  have key : ∀ l : List α, (insB c x l).Perm (x :: l) := by
    intro l
    induction l with
    | nil => exact List.Perm.refl _
    | cons y r ih =>
      unfold insB
      split
      · exact (List.Perm.cons y ih).trans (List.Perm.swap x y r)
      · exact List.Perm.refl _
  unfold ins
  exact (List.reverse_perm _).trans ((key l.reverse).trans (List.Perm.cons x (List.reverse_perm l)))
theorem isort_prm (l : List α) : (zQ c l).Perm l := by
  have key : ∀ (m r : List α), (m.foldl (fun r x => ins c x r) r).Perm (r ++ m) := by
    intro m
    induction m with
    | nil => intro r; simp
    | cons x m ih =>
      intro r
      refine (ih (ins c x r)).trans ?_
      refine (List.Perm.append_right m (ins_perm x r)).trans ?_
      show (x :: (r ++ m)).Perm (r ++ x :: m)
      exact List.perm_middle.symm
  have := key l []
  rw [List.nil_append] at this
  exact this
/-- in order, and of the same: the same, if alike is the same -/
theorem srt_perm (h : Cmp c) {a b : List α} (ha : Srt c a) (hb : Srt c b) (hp : a.Perm b) (anti : ∀ x ∈ a, ∀ y ∈ a, c x y = 0 → x = y) : a = b := by
  refine Srt.unique h _ _ ha hb (fun k => ?_)
  have hrep : ∀ m : List α, (∀ x ∈ m, ∀ y ∈ m, c x y = 0 → x = y) → ∀ z ∈ m.filter (eqv c k), m.filter (eqv c k) = List.replicate (m.filter (eqv c k)).length z := by
    intro m hm z hz
    rw [List.eq_replicate_iff]
    refine ⟨rfl, fun w hw => ?_⟩
    have h1 := List.mem_filter.1 hz
    have h2 := List.mem_filter.1 hw
    have e1 : c k z = 0 := by simpa [eqv] using h1.2
    have e2 : c k w = 0 := by simpa [eqv] using h2.2
    have e3 := h.neg k w
    have e4 := (h.tr w k z).e1 (by omega)
    exact hm w h2.1 z h1.1 (by omega)
  have hpf := hp.filter (eqv c k)
  have hl := hpf.length_eq
  rcases hz : a.filter (eqv c k) with _ | ⟨z, r⟩
  · rw [hz] at hl
    rw [List.eq_nil_of_length_eq_zero (l := b.filter (eqv c k)) (by rw [← hl]; rfl)]
  · rw [← hz]
    have hm : z ∈ a.filter (eqv c k) := by rw [hz]; exact List.mem_cons_self
    have hm2 : z ∈ b.filter (eqv c k) := hpf.mem_iff.1 hm
    rw [hrep a anti z hm, hrep b (fun x hx y hy => anti x (hp.mem_iff.2 hx) y (hp.mem_iff.2 hy)) z hm2, hl]
theorem zcv.anti (h : Cmp c) {l : List α} (hs : zcv c l) : ∀ x ∈ l, ∀ y ∈ l, c x y = 0 → x = y := by
  induction l with
  | nil => intro x hx; cases hx
  | cons a r ih =>
    have hs' := List.pairwise_cons.1 hs
    intro x hx y hy e
    rcases List.mem_cons.1 hx with ex | ex <;> rcases List.mem_cons.1 hy with ey | ey
    · rw [ex, ey]
    · have := hs'.1 y ey; rw [ex] at e; omega
    · have := hs'.1 x ex; have := h.neg a x; rw [ey] at e; omega
    · exact ih hs'.2 x ex y ey e
theorem strict_isort (h : Cmp c) {l m : List α} (hs : zcv c l) (hp : l.Perm m) : zQ c m = l := by
  have h1 := isort_prm (c := c) m
  exact (srt_perm h hs.srt (zb5 h _ m rfl).srt (hp.trans h1.symm) (hs.anti h)).symm
end

/-! ### labels -/
theorem NSrt.strict {l : List Lbl} (h : NSrt l) : zcv zG l := List.Pairwise.imp (fun {a b} h => by unfold zG or2; rw [if_pos (by omega)]; exact h) h
/-- how far tidying has come -/
structure RT (l : List Lbl) (i : Nat) (out : List Lbl) : Prop where
  ns : NSrt out
  pm : out.Perm (l.take i)
  ok : ∀ x ∈ out, okL x = true
theorem RT.zero (l : List Lbl) : RT l 0 [] := ⟨List.Pairwise.nil, by simp, fun _ h => by cases h⟩
theorem RT.len {l out : List Lbl} {i : Nat} (h : RT l i out) (hi : i ≤ l.length) : out.length = i := by rw [h.pm.length_eq, List.length_take]; omega
theorem RT.next {l out : List Lbl} {i k : Nat} {x : Lbl} (h : RT l i out) (hx : l[i]? = some x) (hok : okL x = true) (h1 : ∀ j y, j < k → out[j]? = some y → cmpS y.n x.n < 0) (h2 : k = out.length ∨ ∃ y, out[k]? = some y ∧ ¬ cmpS y.n x.n < 0 ∧ ¬ y.n = x.n) : RT l (i + 1) (zdt out k x) := by
  have hn : ∀ y z : Lbl, cmpS y.n z.n < 0 ↔ cmpS y.n z.n < 0 := fun _ _ => Iff.rfl
  refine ⟨?_, ?_, ?_⟩
  · have := insAt_strict (c := fun a b : Lbl => cmpS a.n b.n) (out := out) (k := k) (x := x) h.ns (fun y hy => ?_) (fun y hy => ?_)
    · exact this
    · obtain ⟨j, hj⟩ := List.mem_iff_getElem?.1 hy
      rw [List.getElem?_take] at hj
      split at hj
      · exact h1 j y (by assumption) hj
      · cases hj
    · rcases h2 with e | ⟨z, hz, h3, h4⟩
      · rw [e, List.drop_length] at hy; cases hy
      · have hzx : cmpS x.n z.n < 0 := by
          have e1 := zcK z.n x.n
          have e2 : cmpS z.n x.n ≠ 0 := fun e => h4 ((zbu _ _).1 e)
          omega
        rw [zaA hz] at hy
        rcases List.mem_cons.1 hy with e | e
        · rw [e]; exact hzx
        · have hs : NSrt (out.take k ++ out.drop k) := by rw [List.take_append_drop]; exact h.ns
          have h5 := (List.pairwise_append.1 hs).2.1
          rw [zaA hz] at h5
          have h6 := (List.pairwise_cons.1 h5).1 y e
          exact (cmpS_tr x.n z.n y.n).lt1 hzx (by omega)
  · refine (insAt_perm out k x).trans ?_
    rw [zap hx]
    exact List.Perm.append_right [x] h.pm
  · intro y hy
    rcases List.mem_append.1 ((insAt_perm out k x).mem_iff.1 hy) with e | e
    · exact h.ok y e
    · rw [List.mem_singleton.1 e]; exact hok
/-- tidy: few, each may be, and names all different -/
theorem tidyOk_of {l m : List Lbl} (hl : l.length ≤ 8) (hs : NSrt m) (hp : m.Perm l) (hok : ∀ x ∈ m, okL x = true) : zY l = true ∧ zQ zG l = m := by
  have e := strict_isort zbC hs.strict hp
  refine ⟨?_, e⟩
  have key : ∀ (r : List Lbl) (p : Option ByteArray), NSrt r → (∀ x ∈ r, okL x = true) → (∀ n, p = some n → ∀ x ∈ r, cmpS n x.n < 0) → za3 p r = true := by
    intro r
    induction r with
    | nil => intro _ _ _ _; rfl
    | cons x r ih =>
      intro p h1 h2 h3
      have h1' := List.pairwise_cons.1 h1
      unfold za3
      rw [h2 x List.mem_cons_self, ih (some x.n) h1'.2 (fun y hy => h2 y (List.mem_cons_of_mem _ hy)) (fun n hn y hy => by injection hn with hn; rw [← hn]; exact h1'.1 y hy)]
      have : ¬ p = some x.n := fun hp => by have := h3 x.n hp x List.mem_cons_self; have e0 := (zbu x.n x.n).2 rfl; omega
      simp [this]
  unfold zY zcx zbi
  rw [e]
  simp only [zcS, List.drop_zero, Bool.and_eq_true, decide_eq_true_eq]
  exact ⟨hl, key m none hs hok (fun _ h => by cases h)⟩
theorem RT.done {l out : List Lbl} {i : Nat} (h : RT l i out) (hi : l.length ≤ i) (hl : l.length ≤ 8) : out = zj l ∧ true = zY l := by
  have hp := h.pm
  rw [List.take_of_length_le hi] at hp
  obtain ⟨e1, e2⟩ := tidyOk_of hl h.ns hp h.ok
  unfold zj; rw [e1, e2]; exact ⟨rfl, rfl⟩
theorem tidyL_no {l : List Lbl} (h : zY l = false) : [] = zj l ∧ false = zY l := by unfold zj; rw [h]; exact ⟨rfl, rfl⟩
theorem tidyOk_mem {l : List Lbl} (h : zY l = true) {x : Lbl} (hx : x ∈ l) : okL x = true := by
  have e : zM l = 0 := by unfold zM; rw [h]; rfl
  have hm : x ∈ zj l := by unfold zj; rw [h]; exact ((zb5 zbC _ l rfl).mem zbC x).2 hx
  exact (tidy_n e).2 x hm
theorem RT.bad1 {l : List Lbl} {i : Nat} {x : Lbl} (hx : l[i]? = some x) (h : okL x = false) : [] = zj l ∧ false = zY l := tidyL_no (by
  rcases e : zY l with _ | _
  · rfl
  · have := tidyOk_mem e (zcr hx); rw [h] at this; cases this)
theorem RT.long {l : List Lbl} (h : (8 : Int) < ((l.length : Nat) : Int)) : [] = zj l ∧ false = zY l := tidyL_no (by
  have : ¬ l.length ≤ 8 := by omega
  simp [zY, this])
theorem RT.bad2 {l out : List Lbl} {i k : Nat} {x y : Lbl} (h : RT l i out) (hx : l[i]? = some x) (hy : out[k]? = some y) (e : y.n = x.n) : [] = zj l ∧ false = zY l := tidyL_no (by
  rcases ek : zY l with _ | _
  · rfl
  · exfalso
    have e0 : zM l = 0 := by unfold zM; rw [ek]; rfl
    have eT : zj l = zQ zG l := by unfold zj; rw [ek]; rfl
    have hn := (tidy_n e0).1
    rw [eT] at hn
    have hp := isort_prm (c := zG) l
    -- the two stand at different places of l
    have hl : l = l.take i ++ (x :: l.drop (i + 1)) := by rw [← zaA hx, List.take_append_drop]
    have hyt : y ∈ l.take i := h.pm.mem_iff.1 (zcr hy)
    have hnd : (l.map (·.n)).Nodup := by
      have h1 : ((zQ zG l).map (·.n)).Nodup := by
        rw [List.Nodup, List.pairwise_map]
        exact List.Pairwise.imp (fun {a b} hab e => by have := (zbu a.n b.n).2 e; omega) hn
      exact (hp.map (·.n)).nodup_iff.1 h1
    rw [hl, List.map_append, List.nodup_append] at hnd
    exact hnd.2.2 y.n (List.mem_map.2 ⟨y, hyt, rfl⟩) x.n (by simp) e)

def zc6 (l : List Lbl) : Bool := zY l && decide (zZ (zj l) l = 0)
theorem light_nz {l : List Lbl} (h : zaN l = true) : ∀ x ∈ l, x.n.size ≤ 1000000 := fun x hx => by have := light_sizes h x hx; omega
end Lp
