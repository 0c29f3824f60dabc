/- Walks, printed by a program of mine. -/
import Derived.Lib.AppendStr
import Derived.Lib.UnsafeStr
import Derived.Test.YtoanlikkhjohpaaGreatDP
set_option linter.unusedSimpArgs false
set_option linter.unusedVariables false
namespace Lp
open Go Go.RowKit Go.Proofs

namespace HdYtoanlikkhjohpaaGreatV1
theorem zbp (b o : Nat) : ∀ w, (Instr.fieldAt 106 (.pointer (some ⟨b, o, none⟩)) 0).run Tryz.prog w = .ok (.pointer (some ⟨b, o + 0, none⟩)) w := fun _ => by kernel_rfl
theorem zbt (b o : Nat) : ∀ w, (Instr.fieldAt 106 (.pointer (some ⟨b, o, none⟩)) 1).run Tryz.prog w = .ok (.pointer (some ⟨b, o + 1, none⟩)) w := fun _ => by kernel_rfl
theorem za3 (b o : Nat) : ∀ w, (Instr.fieldAt 71 (.pointer (some ⟨b, o, none⟩)) 0).run Tryz.prog w = .ok (.pointer (some ⟨b, o + 0, none⟩)) w := fun _ => by kernel_rfl
theorem zaE (b o : Nat) : ∀ w, (Instr.fieldAt 71 (.pointer (some ⟨b, o, none⟩)) 1).run Tryz.prog w = .ok (.pointer (some ⟨b, o + 1, none⟩)) w := fun _ => by kernel_rfl
end HdYtoanlikkhjohpaaGreatV1
open HdYtoanlikkhjohpaaGreatV1

theorem ext_cmpstring (a b : ByteArray) (w : World) : (callFunc 172 #[.string a, .string b]).run Tryz.prog w = .ok (.value (.int .i64 (cmpS a b))) w := by
  rw [run_callFunc_extern Tryz.func172 (by kernel_rfl) (by kernel_rfl) (by kernel_rfl) (e := Extern.BytealgCompare.compare) (by kernel_rfl), Lib.run_compareString]
  rfl

theorem p_cmpstring {ty : TypeId} {K : Kd} {H : List Hp} {x y : Operand} {ats : Array TypeId} {a b : ByteArray} (hx : opS K x = some a) (hy : opS K y = some b) : Pu Tryz.prog (.call { callee := .value (.func 172), args := #[x, y], argTypes := ats }) ty K H (dI (cmpS a b)) :=
  ⟨fun ρ w F hk _ _ => e_ext (vs := [.string a, .string b]) (zK ρ [x, y]) (by rw [show (#[x, y] : Array Operand).toList = [x, y] from rfl, zcn ρ [x, y] [x, y] (fun _ h => h)]; simp [hk.opS hx, hk.opS hy]) (ext_cmpstring a b) ⟨rfl, rfl⟩⟩

set_option maxHeartbeats 4000000 in
set_option maxRecDepth 100000 in
theorem CompareString_c (a : ByteArray) (b : ByteArray)  :
    CD Tryz.prog 155 [] [.s a, .s b] (isR (dI (cmpS a b))) := by
  refine zA Tryz.func155 rfl (N := 8) rfl rfl (fun C => ?_)
  refine JD.keep [0, 1] [(0, .s a), (1, .s b)] rfl ?_
  refine JD.bd 0 rfl (fun bd0 => ?_)
  have sz0 : a.size ≤ 9223372036854775807 := bd0
  refine JD.bd 1 rfl (fun bd1 => ?_)
  have sz1 : b.size ≤ 9223372036854775807 := bd1
  refine zd _ _ rfl rfl rfl (zb rfl (za rfl rfl (zg rfl) (zf rfl (ze (zd _ _ rfl rfl rfl (zb rfl (za rfl rfl (zc rfl) (za rfl rfl (zc rfl) (za rfl rfl (p_cmpstring rfl rfl) (za rfl rfl (zg rfl) (zf rfl (ze (zH rfl ?_)))))))))))))
  exact zG Tryz.results155 (.cons (zah (zI rfl) (Cv.eq (congrArg (fun n => D.v (.int .i64 n)) (by rfl)))) .nil) rfl HSub.none ⟨rfl, rfl⟩

set_option maxHeartbeats 4000000 in
set_option maxRecDepth 100000 in
theorem Compare_c (a : ByteArray) (b : ByteArray)  :
    CD Tryz.prog 130 [] [.s a, .s b] (isR (dI (cmpS a b))) := by
  refine zA Tryz.func130 rfl (N := 8) rfl rfl (fun C => ?_)
  refine JD.keep [0, 1] [(0, .s a), (1, .s b)] rfl ?_
  refine JD.bd 0 rfl (fun bd0 => ?_)
  have sz0 : a.size ≤ 9223372036854775807 := bd0
  refine JD.bd 1 rfl (fun bd1 => ?_)
  have sz1 : b.size ≤ 9223372036854775807 := bd1
  refine zd _ _ rfl rfl rfl (zb rfl (za rfl rfl (zg rfl) (zf rfl (ze (zd _ _ rfl rfl rfl (zb rfl (za rfl rfl (zc rfl) (za rfl rfl (zc rfl) (zi rfl rfl (zx [] _ [] rfl rfl (.cons ArgC.id (.cons ArgC.id .nil)) zr Tryz.call155 (CompareString_c a b) (.inl rfl)) ?_)))))))))
  rintro _ _ ⟨_, ⟨rfl, rfl⟩, rfl⟩
  refine OpsD.norm [] rfl (za rfl rfl (zg rfl) (zf rfl (ze (zH rfl ?_))))
  exact zG Tryz.results130 (.cons (zI rfl) .nil) rfl HSub.none ⟨rfl, rfl⟩

set_option maxHeartbeats 4000000 in
set_option maxRecDepth 100000 in
theorem isNaN_c (x : Int)  :
    CD Tryz.prog 184 [] [dI x] (isR (dB false)) := by
  refine zA Tryz.func184 rfl (N := 6) rfl rfl (fun C => ?_)
  refine JD.keep [0] [(0, dI x)] rfl (zd _ _ rfl rfl rfl (zb rfl (za rfl rfl (zg rfl) (zf rfl (ze (zd _ _ rfl rfl rfl (zb rfl (za rfl rfl (zc rfl) (za rfl rfl (zc rfl) (za rfl rfl (zcZ rfl rfl (decide_eq_false (fun h => h rfl))) (za rfl rfl (zg rfl) (zf rfl (ze (zH rfl ?_))))))))))))))
  exact zG Tryz.results184 (.cons (zI rfl) .nil) rfl HSub.none ⟨rfl, rfl⟩

set_option maxHeartbeats 4000000 in
set_option maxRecDepth 100000 in
theorem cmpI_c (x : Int) (y : Int)  :
    CD Tryz.prog 177 [] [dI x, dI y] (isR (dI (cmpI x y))) := by
  refine zA Tryz.func177 rfl (N := 20) rfl rfl (fun C => ?_)
  refine JD.keep [0, 1] [(0, dI x), (1, dI y)] rfl (zd _ _ rfl rfl rfl (zb rfl (za rfl rfl (zg rfl) (zf rfl (ze (zd _ _ rfl rfl rfl (zb rfl (za rfl rfl (zc rfl) (zi rfl rfl (zx [] _ [] rfl rfl (.cons ArgC.id .nil) zr Tryz.call184 (isNaN_c x) (.inl rfl)) ?_)))))))))
  rintro _ _ ⟨_, ⟨rfl, rfl⟩, rfl⟩
  refine OpsD.norm [] rfl (za rfl rfl (zg rfl) (zf rfl (ze (zd _ _ rfl rfl rfl (zb rfl (za rfl rfl (zc rfl) (zi rfl rfl (zx [] _ [] rfl rfl (.cons ArgC.id .nil) zr Tryz.call184 (isNaN_c y) (.inl rfl)) ?_)))))))
  rintro _ _ ⟨_, ⟨rfl, rfl⟩, rfl⟩
  refine OpsD.norm [] rfl (za rfl rfl (zg rfl) (zf rfl (ze (zd _ _ rfl rfl rfl (zd _ _ rfl rfl rfl (zb rfl (za rfl rfl (zc rfl) (zf rfl (ze (zaw _ rfl rfl rfl (zD rfl (ze (zd _ _ rfl rfl rfl (zd _ _ rfl rfl rfl (zb rfl (za rfl rfl (zc rfl) (zf rfl (ze (zaw _ rfl rfl rfl (zD rfl (ze (zd _ _ rfl rfl rfl (zd _ _ rfl rfl rfl (zb rfl (za rfl rfl (zc rfl) (za rfl rfl (zc rfl) (za rfl rfl (zU rfl rfl rfl) (zf rfl (ze (JD.keep [0, 1, 4, 16] [(0, dI x), (1, dI y), (4, dI 0), (16, dB (decide (x < y)))] rfl ?_))))))))))))))))))))))))))))))
  refine zy _ _ rfl rfl rfl rfl (fun hc1 => ?_) (fun hc1 => ?_)
  · replace hc1 := of_decide_eq_true hc1
    refine zd _ _ rfl rfl rfl (zb rfl (za rfl rfl (zg rfl) (zf rfl (ze (zH rfl (zL ?_))))))
    exact zG Tryz.results177 (.cons (zah (zI rfl) (Cv.eq (congrArg (fun n => D.v (.int .i64 n)) (by unfold cmpI; simp [*])))) .nil) rfl HSub.none ⟨rfl, rfl⟩
  · replace hc1 := of_decide_eq_false hc1
    refine zD rfl (ze (zd _ _ rfl rfl rfl (zd _ _ rfl rfl rfl (zb rfl (za rfl rfl (zc rfl) (za rfl rfl (zc rfl) (za rfl rfl (za4 rfl rfl rfl) (zf rfl (ze ?_)))))))))
    refine zy _ _ rfl rfl rfl rfl (fun hc2 => ?_) (fun hc2 => ?_)
    · replace hc2 := of_decide_eq_true hc2
      refine zd _ _ rfl rfl rfl (zb rfl (za rfl rfl (zg rfl) (zf rfl (ze (zH rfl (zL ?_))))))
      exact zG Tryz.results177 (.cons (zah (zI rfl) (Cv.eq (congrArg (fun n => D.v (.int .i64 n)) (by unfold cmpI; simp [*])))) .nil) rfl HSub.none ⟨rfl, rfl⟩
    · replace hc2 := of_decide_eq_false hc2
      refine zD rfl (ze (zd _ _ rfl rfl rfl (zb rfl (za rfl rfl (zg rfl) (zf rfl (ze (zH rfl ?_)))))))
      exact zG Tryz.results177 (.cons (zah (zI rfl) (Cv.eq (congrArg (fun n => D.v (.int .i64 n)) (by unfold cmpI; simp [*])))) .nil) rfl HSub.none ⟨rfl, rfl⟩

set_option maxHeartbeats 4000000 in
set_option maxRecDepth 100000 in
theorem Or_c (ns : List Int)  :
    CD Tryz.prog 129 [] [.sh 1 (ns.map dI)] (isR (dI (za2 ns))) := by
  refine zA Tryz.func129 rfl (N := 18) rfl rfl (fun C => ?_)
  refine JD.keep [0] [(0, .sh 1 (ns.map dI))] rfl ?_
  refine JD.bd 0 rfl (fun bd0 => ?_)
  have nl0 := zaB bd0
  refine zd _ _ rfl rfl rfl (zb rfl (za rfl rfl (zg rfl) (zf rfl (ze (zd _ _ rfl rfl rfl (zb rfl (za rfl rfl (zg rfl) (zf rfl (ze (zd _ _ rfl rfl rfl (zd _ _ rfl rfl rfl (zb rfl (za rfl rfl (zc rfl) (za rfl rfl (zat (n := ns.length) rfl Tryz.runUnderlying82 (by simp only [lm, lc, ln])) (za rfl rfl (zc rfl) (zf rfl (ze (zu _ rfl rfl (zM (fun (g : Nat) => [(3, dI 0), (6, .sh 1 (ns.map dI)), (7, dN ns.length), (8, dN g)]) (fun (g : Nat) => []) (fun (g : Nat) => (g ≤ ns.length) ∧ (za2 ns = za2 (ns.drop g))) (fun (g : Nat) => ns.length - g) _ 0 rfl rfl ⟨sk rfl, sk rfl, sk rfl, sk rfl, trivial⟩ HSub.rfl' ⟨Nat.zero_le _, by simp⟩ ?_)))))))))))))))))))
  rintro k ⟨hk, hf⟩
  refine JD.keep [3, 6, 7, 8] [(3, dI 0), (6, .sh 1 (ns.map dI)), (7, dN ns.length), (8, dN k)] rfl (JD.norm [] rfl (zd _ _ rfl rfl rfl (zb rfl (za rfl rfl (zU rfl rfl rfl) (zf rfl (ze (zd _ _ rfl rfl rfl ?_)))))))
  refine zy _ _ rfl rfl rfl rfl (fun hc1 => ?_) (fun hc1 => ?_)
  · replace hc1 := of_decide_eq_true hc1
    refine zD rfl (ze (zd _ _ rfl rfl rfl (zu _ rfl rfl (zd _ _ rfl rfl rfl (zb rfl ?_)))))
    obtain ⟨x1, hx1⟩ := zJ ns k (by omega)
    refine za rfl rfl (zE (k := k) rfl rfl Tryz.runUnderlying82 Tryz.sizeOf3 (by first | rfl | omega) (zl hx1)) (za rfl rfl (zV rfl Tryz.isAgg3 rfl) (za rfl rfl (zg rfl) (zf rfl (ze (zd _ _ rfl rfl rfl (zb rfl (za rfl rfl (zc rfl) (za rfl rfl (zc rfl) (za rfl rfl (zcZ rfl rfl rfl) (zf rfl (ze ?_)))))))))))
    refine zy _ _ rfl rfl rfl rfl (fun hc2 => ?_) (fun hc2 => ?_)
    · replace hc2 := of_decide_eq_true hc2
      refine zd _ _ rfl rfl rfl (zb rfl (za rfl rfl (zc rfl) (za rfl rfl (zg rfl) (zf rfl (ze (zH rfl (zZ (zL (zaW (zZ (zL ?_)))))))))))
      exact zG Tryz.results129 (.cons (zah (zI rfl) (Cv.eq (congrArg (fun n => D.v (.int .i64 n)) (by exact (firstNZ_at hx1 hf (by assumption)).symm)))) .nil) rfl HSub.none ⟨rfl, rfl⟩
    · replace hc2 := of_decide_eq_false hc2
      refine zD rfl (zP (ze (zb rfl (za rfl rfl (z5 (c := ((k + 1 : Nat) : Int)) rfl rfl (zR (by omega) (by omega))) (za rfl rfl (zc rfl) (zf rfl ?_))))))
      exact zW (k + 1) ⟨sk rfl, sk rfl, sk rfl, sk rfl, trivial⟩ HSub.rfl' ⟨by omega, firstNZ_next hx1 hf (by omega)⟩ (by omega)
  · replace hc1 := of_decide_eq_false hc1
    refine zN rfl (zw (zt (zq (ze (zd _ _ rfl rfl rfl (zb rfl (za rfl rfl (zc rfl) (za rfl rfl (zg rfl) (zf rfl (ze (zH rfl ?_)))))))))))
    exact zG Tryz.results129 (.cons (zah (zI rfl) (Cv.eq (congrArg (fun n => D.v (.int .i64 n)) (by rw [hf, List.drop_eq_nil_of_le (by omega)]; rfl)))) .nil) rfl HSub.none ⟨rfl, rfl⟩

set_option maxHeartbeats 4000000 in
set_option maxRecDepth 100000 in
theorem order_c (a : Lbl) (b : Lbl)  :
    CD Tryz.prog 94 [] [Lbl.d a, Lbl.d b] (isR (dI (zbn a b))) := by
  refine zA Tryz.func94 rfl (N := 17) rfl rfl (fun C => ?_)
  refine JD.keep [0, 1] [(0, Lbl.d a), (1, Lbl.d b)] rfl ?_
  refine JD.bd 0 rfl (fun bd0 => ?_)
  refine JD.bd 1 rfl (fun bd1 => ?_)
  refine zd _ _ rfl rfl rfl (zb rfl (zi rfl rfl (zbv rfl (CellD.agg)) ?_))
  rintro _ _ ⟨g1, rfl, rfl⟩
  refine zi rfl rfl (zbv rfl (CellD.agg)) ?_
  rintro _ _ ⟨g2, rfl, rfl⟩
  refine za rfl rfl (zg rfl) (zf rfl (ze (zd _ _ rfl rfl rfl (JD.keep [0, 1, 2, 3, 4] [(0, Lbl.d a), (1, Lbl.d b), (2, dP g1 0), (3, dP g2 0), (4, dI 0)] rfl (JD.norm [.bx g2 106 (Lbl.d b), .bx g1 106 (Lbl.d a)] rfl (z7 9 [(5, dP g1 0, none), (6, .s a.n, none), (7, dP g2 0, none), (8, .s b.n, none), (9, dI (cmpS a.n b.n), none), (10, dP g1 1, none), (11, .s a.v, none), (12, dP g2 1, none), (13, .s b.v, none)] [.bx g2 106 (Lbl.d b), .bx g1 106 (Lbl.d a)] (Hn := [.bx g2 106 (Lbl.d b), .bx g1 106 (Lbl.d a)]) zar rfl rfl rfl rfl HSub.rfl' rfl ⟨sa_p rfl rfl rfl (zh rfl zbp rfl), sa_p rfl rfl rfl (zm rfl (i := 1) rfl Tryz.isAgg9 rfl), sa_p rfl rfl rfl (zh rfl zbp rfl), sa_p rfl rfl rfl (zm rfl (i := 0) rfl Tryz.isAgg9 rfl), sa_q rfl rfl rfl (zbw rfl (.cons Cv.rfl' (.cons Cv.rfl' .nil)) Tryz.call130 (Compare_c a.n b.n) zby), sa_p rfl rfl rfl (zh rfl zbt rfl), sa_p rfl rfl rfl (zm rfl (i := 1) rfl Tryz.isAgg9 rfl), sa_p rfl rfl rfl (zh rfl zbt rfl), sa_p rfl rfl rfl (zm rfl (i := 0) rfl Tryz.isAgg9 rfl), trivial⟩ ?_))))))
  refine OpsD.keep [0, 1, 2, 3, 4, 5, 6, 7, 8, 9, 10, 11, 12, 13] [(0, Lbl.d a), (1, Lbl.d b), (2, dP g1 0), (3, dP g2 0), (4, dI 0), (5, dP g1 0), (6, .s a.n), (7, dP g2 0), (8, .s b.n), (9, dI (cmpS a.n b.n)), (10, dP g1 1), (11, .s a.v), (12, dP g2 1), (13, .s b.v)] rfl (zi rfl rfl (zx [] _ [] rfl rfl (.cons ArgC.id (.cons ArgC.id .nil)) zr Tryz.call130 (Compare_c a.v b.v) (.inl rfl)) ?_)
  rintro _ _ ⟨_, ⟨rfl, rfl⟩, rfl⟩
  refine OpsD.norm [.bx g2 106 (Lbl.d b), .bx g1 106 (Lbl.d a)] rfl (zi rfl rfl (zap [.tmp 9, .tmp 14] rfl rfl (.cons (CellD.v rfl) (.cons (CellD.v rfl) .nil)) rfl Tryz.runUnderlying82 Tryz.sizeOf3 Tryz.zeroValue3 rfl rfl rfl rfl) ?_)
  rintro _ _ ⟨g3, rfl, rfl⟩
  refine zi rfl rfl (zx [] _ [.sl (vS g3 2 2) 1 3 ([dI (cmpS a.n b.n), dI (cmpS a.v b.v)])] rfl rfl (.cons (ArgC.own (j := 0) rfl rfl) .nil) (za1 (j := 0) rfl zr) Tryz.call129 (Or_c [cmpS a.n b.n, cmpS a.v b.v]) (.inr (zcb rfl))) ?_
  rintro _ _ ⟨_, ⟨rfl, rfl⟩, rfl⟩
  refine OpsD.norm [.sl (vS g3 2 2) 1 3 ([dI (cmpS a.n b.n), dI (cmpS a.v b.v)]), .bx g2 106 (Lbl.d b), .bx g1 106 (Lbl.d a)] rfl (za rfl rfl (zg rfl) (zf rfl (ze (JD.keep [4] [(4, dI (za2 [cmpS a.n b.n, cmpS a.v b.v]))] rfl (zH rfl ?_)))))
  exact zG Tryz.results94 (.cons (zah (zI rfl) (Cv.eq (congrArg (fun n => D.v (.int .i64 n)) (by rw [firstNZ_two]; rfl)))) .nil) rfl HSub.none ⟨rfl, rfl⟩

set_option maxHeartbeats 4000000 in
set_option maxRecDepth 100000 in
theorem CompareFunc_c (a b : List Lbl)  :
    CD Tryz.prog 98 [] [.sh 2 (a.map Lbl.d), .sh 2 (b.map Lbl.d), .fn 94 [] []] (isR (dI (zas a b))) := by
  refine zA Tryz.func98 rfl (N := 39) rfl rfl (fun C => ?_)
  refine JD.keep [0, 1, 2] [(0, .sh 2 (a.map Lbl.d)), (1, .sh 2 (b.map Lbl.d)), (2, .fn 94 [] [])] rfl ?_
  refine JD.bd 0 rfl (fun bd0 => ?_)
  have nl0 := zaB bd0
  refine JD.bd 1 rfl (fun bd1 => ?_)
  have nl1 := zaB bd1
  refine zd _ _ rfl rfl rfl (zb rfl (za rfl rfl (zg rfl) (zf rfl (ze (zd _ _ rfl rfl rfl (zd _ _ rfl rfl rfl (zb rfl (za rfl rfl (zc rfl) (za rfl rfl (zat (n := a.length) rfl Tryz.runUnderlying52 (by simp only [lm, lc, ln])) (za rfl rfl (zc rfl) (zf rfl (ze (zu _ rfl rfl (zM (fun (g : Nat) => [(0, .sh 2 (a.map Lbl.d)), (1, .sh 2 (b.map Lbl.d)), (2, .fn 94 [] []), (11, .sh 2 (a.map Lbl.d)), (12, dN a.length), (13, dN g)]) (fun (g : Nat) => []) (fun (g : Nat) => (g ≤ a.length) ∧ (zas a b = zas (a.drop g) (b.drop g))) (fun (g : Nat) => a.length - g) _ 0 rfl rfl ⟨sk rfl, sk rfl, sk rfl, sk rfl, sk rfl, sk rfl, trivial⟩ HSub.rfl' ⟨Nat.zero_le _, by simp⟩ ?_))))))))))))))
  rintro k ⟨hk, hf⟩
  refine JD.keep [0, 1, 2, 11, 12, 13] [(0, .sh 2 (a.map Lbl.d)), (1, .sh 2 (b.map Lbl.d)), (2, .fn 94 [] []), (11, .sh 2 (a.map Lbl.d)), (12, dN a.length), (13, dN k)] rfl (JD.norm [] rfl (zd _ _ rfl rfl rfl (zb rfl (za rfl rfl (zU rfl rfl rfl) (zf rfl (ze (zd _ _ rfl rfl rfl ?_)))))))
  refine zy _ _ rfl rfl rfl rfl (fun hc1 => ?_) (fun hc1 => ?_)
  · replace hc1 := of_decide_eq_true hc1
    refine zD rfl (ze (zd _ _ rfl rfl rfl (zu _ rfl rfl (zd _ _ rfl rfl rfl (zb rfl (za rfl rfl (zc rfl) ?_))))))
    obtain ⟨x1, hx1⟩ := zJ a k (by omega)
    refine za rfl rfl (zE (k := k) rfl rfl Tryz.runUnderlying52 Tryz.sizeOf106 (by first | rfl | omega) (zl hx1)) (za rfl rfl (zaj (d := Lbl.d x1) rfl Tryz.isAgg106 Tryz.sizeOf106 rfl rfl) (zi rfl rfl (zao (zv := (.agg #[(.string ByteArray.empty), (.string ByteArray.empty)])) Tryz.zeroValue106 ⟨rfl, rfl, trivial⟩ (Cv.vagg (by decide))) ?_))
    rintro _ _ ⟨g2, rfl, rfl⟩
    refine za rfl rfl (zg rfl) (zi rfl rfl (zO (i := 0) (X' := Lbl.d x1) rfl rfl rfl (CellD.agg) Tryz.sizeOf106 rfl rfl rfl) ?_)
    rintro _ _ ⟨rfl, rfl⟩
    refine OpsD.norm [.bx g2 106 (Lbl.d x1)] rfl (zf rfl (ze (zd _ _ rfl rfl rfl (zd _ _ rfl rfl rfl (zb rfl (za rfl rfl (zc rfl) (za rfl rfl (zc rfl) (za rfl rfl (zat (n := b.length) rfl Tryz.runUnderlying52 (by simp only [lm, lc, ln])) (za rfl rfl (zdj rfl rfl rfl) (zf rfl (ze ?_)))))))))))
    refine zy _ _ rfl rfl rfl rfl (fun hc3 => ?_) (fun hc3 => ?_)
    · replace hc3 := of_decide_eq_true hc3
      refine zd _ _ rfl rfl rfl (zb rfl (za rfl rfl (zg rfl) (zf rfl (ze (zH rfl (zL (zZ (zL (zaW (zZ (zL ?_)))))))))))
      exact zG Tryz.results98 (.cons (zah (zI rfl) (Cv.eq (congrArg (fun n => D.v (.int .i64 n)) (by exact (cmpLs_right hx1 (by omega) hf).symm)))) .nil) rfl HSub.none ⟨rfl, rfl⟩
    · replace hc3 := of_decide_eq_false hc3
      refine zD rfl (ze (zd _ _ rfl rfl rfl (zb rfl (za rfl rfl (zc rfl) (za rfl rfl (zc rfl) ?_)))))
      obtain ⟨x2, hx2⟩ := zJ b k (by omega)
      refine za rfl rfl (zE (k := k) rfl rfl Tryz.runUnderlying52 Tryz.sizeOf106 (by first | rfl | omega) (zl hx2)) (za rfl rfl (zaj (d := Lbl.d x2) rfl Tryz.isAgg106 Tryz.sizeOf106 rfl rfl) (zi rfl rfl (zao (zv := (.agg #[(.string ByteArray.empty), (.string ByteArray.empty)])) Tryz.zeroValue106 ⟨rfl, rfl, trivial⟩ (Cv.vagg (by decide))) ?_))
      rintro _ _ ⟨g4, rfl, rfl⟩
      refine zi rfl rfl (zO (i := 0) (X' := Lbl.d x2) rfl rfl rfl (CellD.agg) Tryz.sizeOf106 rfl rfl rfl) ?_
      rintro _ _ ⟨rfl, rfl⟩
      refine OpsD.norm [.bx g4 106 (Lbl.d x2), .bx g2 106 (Lbl.d x1)] rfl (zf rfl (ze (zd _ _ rfl rfl rfl (zb rfl (za rfl rfl (zc rfl) (za rfl rfl (zaq (d := Lbl.d x1) rfl (i := 1) rfl Tryz.isAgg106 Tryz.sizeOf106 rfl rfl) (za rfl rfl (zaq (d := Lbl.d x2) rfl (i := 0) rfl Tryz.isAgg106 Tryz.sizeOf106 rfl rfl) (zi rfl rfl (zc3 [] _ [] rfl rfl rfl (.cons ArgC.id (.cons ArgC.id .nil)) zr Tryz.call94 (order_c x1 x2) (.inl rfl)) ?_))))))))
      rintro _ _ ⟨_, ⟨rfl, rfl⟩, rfl⟩
      refine OpsD.norm [.bx g4 106 (Lbl.d x2), .bx g2 106 (Lbl.d x1)] rfl (za rfl rfl (zg rfl) (zf rfl (ze (zd _ _ rfl rfl rfl (zb rfl (za rfl rfl (zc rfl) (za rfl rfl (zcZ rfl rfl rfl) (zf rfl (ze ?_)))))))))
      refine zy _ _ rfl rfl rfl rfl (fun hc5 => ?_) (fun hc5 => ?_)
      · replace hc5 := of_decide_eq_true hc5
        refine zd _ _ rfl rfl rfl (zb rfl (za rfl rfl (zc rfl) (za rfl rfl (zg rfl) (zf rfl (ze (zH rfl (zZ (zL (zaW (zZ (zL ?_)))))))))))
        exact zG Tryz.results98 (.cons (zah (zI rfl) (Cv.eq (congrArg (fun n => D.v (.int .i64 n)) (by exact (cmpLs_at hx1 hx2 hf (by assumption)).symm)))) .nil) rfl HSub.none ⟨rfl, rfl⟩
      · replace hc5 := of_decide_eq_false hc5
        refine zD rfl (zP (ze (zb rfl (za rfl rfl (z5 (c := ((k + 1 : Nat) : Int)) rfl rfl (zR (by omega) (by omega))) (za rfl rfl (zc rfl) (zf rfl ?_))))))
        exact zW (k + 1) ⟨sk rfl, sk rfl, sk rfl, sk rfl, sk rfl, sk rfl, trivial⟩ HSub.none ⟨by omega, cmpLs_next hx1 hx2 hf (by omega)⟩ (by omega)
  · replace hc1 := of_decide_eq_false hc1
    refine zN rfl (zw (zt (zq (ze (zd _ _ rfl rfl rfl (zd _ _ rfl rfl rfl (zb rfl (za rfl rfl (zc rfl) (za rfl rfl (zat (n := a.length) rfl Tryz.runUnderlying52 (by simp only [lm, lc, ln])) (za rfl rfl (zc rfl) (za rfl rfl (zat (n := b.length) rfl Tryz.runUnderlying52 (by simp only [lm, lc, ln])) (za rfl rfl (zU rfl rfl rfl) (zf rfl (ze (JD.keep [38] [(38, dB (decide (((a.length : Nat) : Int) < ((b.length : Nat) : Int))))] rfl ?_)))))))))))))))
    refine zy _ _ rfl rfl rfl rfl (fun hc6 => ?_) (fun hc6 => ?_)
    · replace hc6 := of_decide_eq_true hc6
      refine zd _ _ rfl rfl rfl (zb rfl (za rfl rfl (zg rfl) (zf rfl (ze (zH rfl (zL ?_))))))
      exact zG Tryz.results98 (.cons (zah (zI rfl) (Cv.eq (congrArg (fun n => D.v (.int .i64 n)) (by rw [cmpLs_end (by omega) hf (by omega)]; first | rw [if_pos (by omega)] | rw [if_neg (by omega)])))) .nil) rfl HSub.none ⟨rfl, rfl⟩
    · replace hc6 := of_decide_eq_false hc6
      refine zD rfl (ze (zd _ _ rfl rfl rfl (zb rfl (za rfl rfl (zg rfl) (zf rfl (ze (zH rfl ?_)))))))
      exact zG Tryz.results98 (.cons (zah (zI rfl) (Cv.eq (congrArg (fun n => D.v (.int .i64 n)) (by rw [cmpLs_end (by omega) hf (by omega)]; first | rw [if_pos (by omega)] | rw [if_neg (by omega)])))) .nil) rfl HSub.none ⟨rfl, rfl⟩

set_option maxHeartbeats 4000000 in
set_option maxRecDepth 100000 in
theorem Compare2_c (a : List Lbl) (b : List Lbl)  :
    CD Tryz.prog 30 [] [.sh 2 (a.map Lbl.d), .sh 2 (b.map Lbl.d)] (isR (dI (zas a b))) := by
  refine zA Tryz.func30 rfl (N := 8) rfl rfl (fun C => ?_)
  refine JD.keep [0, 1] [(0, .sh 2 (a.map Lbl.d)), (1, .sh 2 (b.map Lbl.d))] rfl ?_
  refine JD.bd 0 rfl (fun bd0 => ?_)
  have nl0 := zaB bd0
  refine JD.bd 1 rfl (fun bd1 => ?_)
  have nl1 := zaB bd1
  refine zd _ _ rfl rfl rfl (zb rfl (za rfl rfl (zg rfl) (zf rfl (ze (zd _ _ rfl rfl rfl (zb rfl (za rfl rfl (zc rfl) (za rfl rfl (zc rfl) (zi rfl rfl (zx [] _ [] rfl rfl (.cons ArgC.id (.cons ArgC.id (.cons ArgC.id .nil))) zr Tryz.call98 (CompareFunc_c a b) (.inl rfl)) ?_)))))))))
  rintro _ _ ⟨_, ⟨rfl, rfl⟩, rfl⟩
  refine OpsD.norm [] rfl (za rfl rfl (zg rfl) (zf rfl (ze (zH rfl ?_))))
  exact zG Tryz.results30 (.cons (zI rfl) .nil) rfl HSub.none ⟨rfl, rfl⟩

set_option maxHeartbeats 4000000 in
set_option maxRecDepth 100000 in
theorem texts_c (a : ByteArray) (b : ByteArray)  :
    CD Tryz.prog 97 [] [.s a, .s b] (isR (dI (cmpS a b))) := by
  refine zA Tryz.func97 rfl (N := 13) rfl rfl (fun C => ?_)
  refine JD.keep [0, 1] [(0, .s a), (1, .s b)] rfl ?_
  refine JD.bd 0 rfl (fun bd0 => ?_)
  have sz0 : a.size ≤ 9223372036854775807 := bd0
  refine JD.bd 1 rfl (fun bd1 => ?_)
  have sz1 : b.size ≤ 9223372036854775807 := bd1
  refine zd _ _ rfl rfl rfl (zb rfl (za rfl rfl (zg rfl) (zf rfl (ze (zd _ _ rfl rfl rfl (zu _ rfl rfl (zd _ _ rfl rfl rfl (zb rfl (za rfl rfl (zc rfl) (za rfl rfl (zc rfl) (za rfl rfl (p_lts rfl rfl rfl) (za rfl rfl (zg rfl) (zf rfl (ze ?_))))))))))))))
  refine zy _ _ rfl rfl rfl rfl (fun hc1 => ?_) (fun hc1 => ?_)
  · replace hc1 := of_decide_eq_true hc1
    refine zd _ _ rfl rfl rfl (zb rfl (za rfl rfl (zg rfl) (zf rfl (ze (zH rfl (zZ (zL ?_)))))))
    exact zG Tryz.results97 (.cons (zah (zI rfl) (Cv.eq (congrArg (fun n => D.v (.int .i64 n)) (by rcases cmpS_cases a b with h | h | h <;> rw [h] <;> omega)))) .nil) rfl HSub.none ⟨rfl, rfl⟩
  · replace hc1 := of_decide_eq_false hc1
    refine zd _ _ rfl rfl rfl (zb rfl (za rfl rfl (zc rfl) (za rfl rfl (zc rfl) (za rfl rfl (p_gts rfl rfl rfl) (za rfl rfl (zg rfl) (zf rfl (ze (JD.keep [4, 9] [(4, dI 0), (9, dB (decide (0 < cmpS a b)))] rfl ?_))))))))
    refine zy _ _ rfl rfl rfl rfl (fun hc2 => ?_) (fun hc2 => ?_)
    · replace hc2 := of_decide_eq_true hc2
      refine zd _ _ rfl rfl rfl (zb rfl (za rfl rfl (zg rfl) (zf rfl (ze (zH rfl (zZ (zL ?_)))))))
      exact zG Tryz.results97 (.cons (zah (zI rfl) (Cv.eq (congrArg (fun n => D.v (.int .i64 n)) (by rcases cmpS_cases a b with h | h | h <;> rw [h] <;> omega)))) .nil) rfl HSub.none ⟨rfl, rfl⟩
    · replace hc2 := of_decide_eq_false hc2
      refine zD rfl (zP (ze (zd _ _ rfl rfl rfl (zb rfl (za rfl rfl (zg rfl) (zf rfl (ze (zH rfl ?_))))))))
      exact zG Tryz.results97 (.cons (zah (zI rfl) (Cv.eq (congrArg (fun n => D.v (.int .i64 n)) (by rcases cmpS_cases a b with h | h | h <;> rw [h] <;> omega)))) .nil) rfl HSub.none ⟨rfl, rfl⟩

set_option maxHeartbeats 4000000 in
set_option maxRecDepth 100000 in
theorem compare_c (o : Int) (a : RowD) (b : RowD)  :
    CD Tryz.prog 164 [] [dI o, RowD.d a, RowD.d b] (isR (dI (zC o a b))) := by
  refine zA Tryz.func164 rfl (N := 35) rfl rfl (fun C => ?_)
  refine JD.keep [0, 1, 2] [(0, dI o), (1, RowD.d a), (2, RowD.d b)] rfl ?_
  refine JD.bd 1 rfl (fun bd1 => ?_)
  refine JD.bd 2 rfl (fun bd2 => ?_)
  refine zd _ _ rfl rfl rfl (zb rfl (zi rfl rfl (zbv rfl (CellD.agg)) ?_))
  rintro _ _ ⟨g1, rfl, rfl⟩
  refine zi rfl rfl (zbv rfl (CellD.agg)) ?_
  rintro _ _ ⟨g2, rfl, rfl⟩
  refine za rfl rfl (zg rfl) (zf rfl (ze (zd _ _ rfl rfl rfl (zb rfl (za rfl rfl (zh rfl za3 rfl) (za rfl rfl (zm rfl (i := 1) rfl Tryz.isAgg52 rfl) (za rfl rfl (zh rfl za3 rfl) (za rfl rfl (zm rfl (i := 0) rfl Tryz.isAgg52 rfl) (zi rfl rfl (zx [] _ [] rfl rfl (.cons ArgC.id (.cons ArgC.id .nil)) zr Tryz.call30 (Compare2_c a.ls b.ls) (.inl rfl)) ?_)))))))))
  rintro _ _ ⟨_, ⟨rfl, rfl⟩, rfl⟩
  refine OpsD.norm [.bx g2 71 (RowD.d b), .bx g1 71 (RowD.d a)] rfl (za rfl rfl (zg rfl) (zf rfl (ze (zd _ _ rfl rfl rfl (zd _ _ rfl rfl rfl (zb rfl (za rfl rfl (zc rfl) (zf rfl (ze (zu _ rfl rfl (zd _ _ rfl rfl rfl (zb rfl (za rfl rfl (zaz rfl rfl rfl) (za rfl rfl (zg rfl) (zf rfl (ze (JD.keep [4, 5, 6, 7, 13, 14] [(4, dP g1 0), (5, dP g2 0), (6, dI 0), (7, dI (zas a.ls b.ls)), (13, dI o), (14, dB (decide (o = (1 : Int))))] rfl ?_)))))))))))))))))
  refine zy _ _ rfl rfl rfl rfl (fun hc3 => ?_) (fun hc3 => ?_)
  · replace hc3 := of_decide_eq_true hc3
    refine zd _ _ rfl rfl rfl (zb rfl (za rfl rfl (zh rfl zaE rfl) (za rfl rfl (zm rfl (i := 1) rfl Tryz.isAgg3 rfl) (za rfl rfl (zh rfl zaE rfl) (za rfl rfl (zm rfl (i := 0) rfl Tryz.isAgg3 rfl) (zi rfl rfl (zx [] _ [] rfl rfl (.cons ArgC.id (.cons ArgC.id .nil)) zr Tryz.call177 (cmpI_c a.v b.v) (.inl rfl)) ?_))))))
    rintro _ _ ⟨_, ⟨rfl, rfl⟩, rfl⟩
    refine OpsD.norm [.bx g2 71 (RowD.d b), .bx g1 71 (RowD.d a)] rfl (za rfl rfl (zc rfl) (zi rfl rfl (zap [.tmp 20, .tmp 21] rfl rfl (.cons (CellD.v rfl) (.cons (CellD.v rfl) .nil)) rfl Tryz.runUnderlying82 Tryz.sizeOf3 Tryz.zeroValue3 rfl rfl rfl rfl) ?_))
    rintro _ _ ⟨g4, rfl, rfl⟩
    refine zi rfl rfl (zx [] _ [.sl (vS g4 2 2) 1 3 ([dI (cmpI a.v b.v), dI (zas a.ls b.ls)])] rfl rfl (.cons (ArgC.own (j := 0) rfl rfl) .nil) (za1 (j := 0) rfl zr) Tryz.call129 (Or_c [cmpI a.v b.v, zas a.ls b.ls]) (.inr (zcb rfl))) ?_
    rintro _ _ ⟨_, ⟨rfl, rfl⟩, rfl⟩
    refine OpsD.norm [.sl (vS g4 2 2) 1 3 ([dI (cmpI a.v b.v), dI (zas a.ls b.ls)]), .bx g2 71 (RowD.d b), .bx g1 71 (RowD.d a)] rfl (za rfl rfl (zg rfl) (zf rfl (ze (JD.keep [6, 7] [(6, dI (za2 [cmpI a.v b.v, zas a.ls b.ls])), (7, dI (zas a.ls b.ls))] rfl (zH rfl (zZ (zL ?_)))))))
    exact zG Tryz.results164 (.cons (zah (zI rfl) (Cv.eq (congrArg (fun n => D.v (.int .i64 n)) (by unfold zC; simp [*, firstNZ_two])))) .nil) rfl HSub.none ⟨rfl, rfl⟩
  · replace hc3 := of_decide_eq_false hc3
    refine zd _ _ rfl rfl rfl (zb rfl (za rfl rfl (zaz rfl rfl rfl) (za rfl rfl (zg rfl) (zf rfl (ze ?_)))))
    refine zy _ _ rfl rfl rfl rfl (fun hc5 => ?_) (fun hc5 => ?_)
    · replace hc5 := of_decide_eq_true hc5
      refine zd _ _ rfl rfl rfl (zb rfl (za rfl rfl (zh rfl zaE rfl) (za rfl rfl (zm rfl (i := 0) rfl Tryz.isAgg3 rfl) (za rfl rfl (zh rfl zaE rfl) (za rfl rfl (zm rfl (i := 1) rfl Tryz.isAgg3 rfl) (zi rfl rfl (zx [] _ [] rfl rfl (.cons ArgC.id (.cons ArgC.id .nil)) zr Tryz.call177 (cmpI_c b.v a.v) (.inl rfl)) ?_))))))
      rintro _ _ ⟨_, ⟨rfl, rfl⟩, rfl⟩
      refine OpsD.norm [.bx g2 71 (RowD.d b), .bx g1 71 (RowD.d a)] rfl (za rfl rfl (zc rfl) (zi rfl rfl (zap [.tmp 30, .tmp 31] rfl rfl (.cons (CellD.v rfl) (.cons (CellD.v rfl) .nil)) rfl Tryz.runUnderlying82 Tryz.sizeOf3 Tryz.zeroValue3 rfl rfl rfl rfl) ?_))
      rintro _ _ ⟨g6, rfl, rfl⟩
      refine zi rfl rfl (zx [] _ [.sl (vS g6 2 2) 1 3 ([dI (cmpI b.v a.v), dI (zas a.ls b.ls)])] rfl rfl (.cons (ArgC.own (j := 0) rfl rfl) .nil) (za1 (j := 0) rfl zr) Tryz.call129 (Or_c [cmpI b.v a.v, zas a.ls b.ls]) (.inr (zcb rfl))) ?_
      rintro _ _ ⟨_, ⟨rfl, rfl⟩, rfl⟩
      refine OpsD.norm [.sl (vS g6 2 2) 1 3 ([dI (cmpI b.v a.v), dI (zas a.ls b.ls)]), .bx g2 71 (RowD.d b), .bx g1 71 (RowD.d a)] rfl (za rfl rfl (zg rfl) (zf rfl (ze (JD.keep [6, 7] [(6, dI (za2 [cmpI b.v a.v, zas a.ls b.ls])), (7, dI (zas a.ls b.ls))] rfl (zH rfl (zZ (zL ?_)))))))
      exact zG Tryz.results164 (.cons (zah (zI rfl) (Cv.eq (congrArg (fun n => D.v (.int .i64 n)) (by unfold zC; simp [*, firstNZ_two])))) .nil) rfl HSub.none ⟨rfl, rfl⟩
    · replace hc5 := of_decide_eq_false hc5
      refine zD rfl (zP (ze (zd _ _ rfl rfl rfl (zb rfl (za rfl rfl (zc rfl) (za rfl rfl (zg rfl) (zf rfl (ze (zH rfl ?_)))))))))
      exact zG Tryz.results164 (.cons (zah (zI rfl) (Cv.eq (congrArg (fun n => D.v (.int .i64 n)) (by unfold zC; simp [*, firstNZ_two])))) .nil) rfl HSub.none ⟨rfl, rfl⟩

set_option maxHeartbeats 4000000 in
set_option maxRecDepth 100000 in
theorem Less_c (o : Int) (a : RowD) (b : RowD)  :
    CD Tryz.prog 185 [] [dI o, RowD.d a, RowD.d b] (isR (dB (less o a b))) := by
  refine zA Tryz.func185 rfl (N := 12) rfl rfl (fun C => ?_)
  refine JD.keep [0, 1, 2] [(0, dI o), (1, RowD.d a), (2, RowD.d b)] rfl ?_
  refine JD.bd 1 rfl (fun bd1 => ?_)
  refine JD.bd 2 rfl (fun bd2 => ?_)
  refine zd _ _ rfl rfl rfl (zb rfl (zi rfl rfl (zbv rfl (CellD.agg)) ?_))
  rintro _ _ ⟨g1, rfl, rfl⟩
  refine zi rfl rfl (zbv rfl (CellD.agg)) ?_
  rintro _ _ ⟨g2, rfl, rfl⟩
  refine za rfl rfl (zg rfl) (zf rfl (ze (zd _ _ rfl rfl rfl (zb rfl (za rfl rfl (zc rfl) (za rfl rfl (zaq (d := RowD.d a) rfl (i := 1) rfl Tryz.isAgg71 Tryz.sizeOf71 rfl rfl) (za rfl rfl (zaq (d := RowD.d b) rfl (i := 0) rfl Tryz.isAgg71 Tryz.sizeOf71 rfl rfl) (zi rfl rfl (zx [] _ [] rfl rfl (.cons ArgC.id (.cons ArgC.id (.cons ArgC.id .nil))) zr Tryz.call164 (compare_c o a b) (.inl rfl)) ?_))))))))
  rintro _ _ ⟨_, ⟨rfl, rfl⟩, rfl⟩
  refine OpsD.norm [.bx g2 71 (RowD.d b), .bx g1 71 (RowD.d a)] rfl (za rfl rfl (zU rfl rfl rfl) (za rfl rfl (zg rfl) (zf rfl (ze (JD.keep [6] [(6, dB (decide (zC o a b < (0 : Int))))] rfl (zH rfl ?_))))))
  exact zG Tryz.results185 (.cons (zah (zI rfl) (Cv.eq (congrArg (fun b => D.v (.bool b)) (by rfl)))) .nil) rfl HSub.none ⟨rfl, rfl⟩

set_option maxHeartbeats 4000000 in
set_option maxRecDepth 100000 in
theorem refCompare_c (a : List Lbl) (b : List Lbl)  :
    CD Tryz.prog 29 [] [.sh 2 (a.map Lbl.d), .sh 2 (b.map Lbl.d)] (isR (dI (zas a b))) := by
  refine zA Tryz.func29 rfl (N := 58) rfl rfl (fun C => ?_)
  refine JD.keep [0, 1] [(0, .sh 2 (a.map Lbl.d)), (1, .sh 2 (b.map Lbl.d))] rfl ?_
  refine JD.bd 0 rfl (fun bd0 => ?_)
  have nl0 := zaB bd0
  refine JD.bd 1 rfl (fun bd1 => ?_)
  have nl1 := zaB bd1
  refine zd _ _ rfl rfl rfl (zb rfl (za rfl rfl (zg rfl) (zf rfl (ze (zd _ _ rfl rfl rfl (zd _ _ rfl rfl rfl (zb rfl (za rfl rfl (zg rfl) (zf rfl (ze (zu _ rfl rfl (zM (fun (g : Nat) => [(0, .sh 2 (a.map Lbl.d)), (1, .sh 2 (b.map Lbl.d)), (5, dN g)]) (fun (g : Nat) => []) (fun (g : Nat) => (g ≤ a.length) ∧ (g ≤ b.length) ∧ (zas a b = zas (a.drop g) (b.drop g))) (fun (g : Nat) => a.length - g) _ 0 rfl rfl ⟨sk rfl, sk rfl, sk rfl, trivial⟩ HSub.rfl' ⟨Nat.zero_le _, Nat.zero_le _, by simp⟩ ?_))))))))))))
  rintro k ⟨hk, hk2, hf⟩
  refine JD.keep [0, 1, 5] [(0, .sh 2 (a.map Lbl.d)), (1, .sh 2 (b.map Lbl.d)), (5, dN k)] rfl (JD.norm [] rfl (zd _ _ rfl rfl rfl (zd _ _ rfl rfl rfl (JD.keep [0, 1, 5] [(0, .sh 2 (a.map Lbl.d)), (1, .sh 2 (b.map Lbl.d)), (5, dN k)] rfl ?_))))
  refine zbf 16 ((decide (((k : Nat) : Int) < ((a.length : Nat) : Int)) && decide (((k : Nat) : Int) < ((b.length : Nat) : Int)))) [] (fun _ hQ1 => ?_) ?_
  · skip
    by_cases hg2 : ((k : Nat) : Int) < ((a.length : Nat) : Int)
    · skip
      refine zb rfl (za rfl rfl (zc rfl) (za rfl rfl (zc rfl) (za rfl rfl (zat (n := a.length) rfl Tryz.runUnderlying52 (by simp only [lm, lc, ln])) (za rfl rfl (zU rfl rfl (decide_eq_true hg2)) (za rfl rfl (zc rfl) (zj rfl rfl rfl rfl rfl (zc rfl) (zj rfl rfl rfl rfl rfl (zc rfl) (zj rfl rfl rfl rfl rfl (zat (n := b.length) rfl Tryz.runUnderlying52 (by simp only [lm, lc, ln])) (zj rfl rfl rfl rfl rfl (zU rfl rfl rfl) (za rfl rfl (zF rfl rfl) (zf rfl ?_)))))))))))
      exact PD.sub ((16, dB (decide (((k : Nat) : Int) < ((a.length : Nat) : Int)) && decide (((k : Nat) : Int) < ((b.length : Nat) : Int)))) :: [(0, .sh 2 (a.map Lbl.d)), (1, .sh 2 (b.map Lbl.d)), (5, dN k)]) ⟨sc rfl (Cv.eq (congrArg (fun b => D.v (.bool b)) (by first | (simp [hg2]; done) | (simp_all; done)))), sk rfl, sk rfl, sk rfl, trivial⟩ hQ1
    · skip
      refine zb rfl (za rfl rfl (zc rfl) (za rfl rfl (zc rfl) (za rfl rfl (zat (n := a.length) rfl Tryz.runUnderlying52 (by simp only [lm, lc, ln])) (za rfl rfl (zU rfl rfl (decide_eq_false hg2)) (za rfl rfl (zc rfl) (zn rfl rfl rfl rfl rfl (by decide) (zn rfl rfl rfl rfl rfl (by decide) (zn rfl rfl rfl rfl rfl (by decide) (zn rfl rfl rfl rfl rfl (by decide) (za rfl rfl (zS rfl rfl) (zf rfl ?_)))))))))))
      exact PD.sub ((16, dB (decide (((k : Nat) : Int) < ((a.length : Nat) : Int)) && decide (((k : Nat) : Int) < ((b.length : Nat) : Int)))) :: [(0, .sh 2 (a.map Lbl.d)), (1, .sh 2 (b.map Lbl.d)), (5, dN k)]) ⟨sc rfl (Cv.eq (congrArg (fun b => D.v (.bool b)) (by first | (simp [hg2]; done) | (simp_all; done)))), sk rfl, sk rfl, sk rfl, trivial⟩ hQ1
  · skip
    refine ze ?_
    refine zy _ _ rfl rfl rfl rfl (fun hc3 => ?_) (fun hc3 => ?_)
    · simp only [Bool.and_eq_true, Bool.or_eq_true, Bool.not_eq_true', Bool.not_eq_false', Bool.and_eq_false_iff, Bool.or_eq_false_iff, decide_eq_true_eq, decide_eq_false_iff_not, Decidable.not_not, ne_eq] at hc3
      refine zD rfl (ze (zd _ _ rfl rfl rfl (zu _ rfl rfl (zd _ _ rfl rfl rfl (JD.keep [0, 1, 5, 16] [(0, .sh 2 (a.map Lbl.d)), (1, .sh 2 (b.map Lbl.d)), (5, dN k), (16, dB (decide (((k : Nat) : Int) < ((a.length : Nat) : Int)) && decide (((k : Nat) : Int) < ((b.length : Nat) : Int))))] rfl (JD.norm [] rfl ?_))))))
      obtain ⟨x1, hx1⟩ := zJ a k (by omega)
      obtain ⟨x2, hx2⟩ := zJ b k (by omega)
      refine z7 10 [(19, .sh 2 (a.map Lbl.d), none), (20, dN k, none), (21, .el (Lbl.d x1) 0, none), (22, .el (Lbl.d x1) 0, none), (23, .s x1.n, none), (24, .sh 2 (b.map Lbl.d), none), (25, dN k, none), (26, .el (Lbl.d x2) 0, none), (27, .el (Lbl.d x2) 0, none), (28, .s x2.n, none)] [] (Hn := []) zar rfl rfl rfl rfl HSub.rfl' rfl ⟨sa_p rfl rfl rfl (zc rfl), sa_p rfl rfl rfl (zc rfl), sa_p rfl rfl rfl (zE (k := k) rfl rfl Tryz.runUnderlying52 Tryz.sizeOf106 (by first | rfl | omega) (zl hx1)), sa_p rfl rfl rfl (zX rfl zbp rfl), sa_p rfl rfl rfl (zV rfl Tryz.isAgg9 rfl), sa_p rfl rfl rfl (zc rfl), sa_p rfl rfl rfl (zc rfl), sa_p rfl rfl rfl (zE (k := k) rfl rfl Tryz.runUnderlying52 Tryz.sizeOf106 (by first | rfl | omega) (zl hx2)), sa_p rfl rfl rfl (zX rfl zbp rfl), sa_p rfl rfl rfl (zV rfl Tryz.isAgg9 rfl), trivial⟩ ?_
      refine OpsD.keep [0, 1, 5, 16, 19, 20, 21, 22, 23, 24, 25, 26, 27, 28] [(0, .sh 2 (a.map Lbl.d)), (1, .sh 2 (b.map Lbl.d)), (5, dN k), (16, dB (decide (((k : Nat) : Int) < ((a.length : Nat) : Int)) && decide (((k : Nat) : Int) < ((b.length : Nat) : Int)))), (19, .sh 2 (a.map Lbl.d)), (20, dN k), (21, .el (Lbl.d x1) 0), (22, .el (Lbl.d x1) 0), (23, .s x1.n), (24, .sh 2 (b.map Lbl.d)), (25, dN k), (26, .el (Lbl.d x2) 0), (27, .el (Lbl.d x2) 0), (28, .s x2.n)] rfl (zi rfl rfl (zx [] _ [] rfl rfl (.cons ArgC.id (.cons ArgC.id .nil)) zr Tryz.call97 (texts_c x1.n x2.n) (.inl rfl)) ?_)
      rintro _ _ ⟨_, ⟨rfl, rfl⟩, rfl⟩
      refine OpsD.norm [] rfl (za rfl rfl (zg rfl) (zf rfl (ze (zd _ _ rfl rfl rfl (zd _ _ rfl rfl rfl (zb rfl (za rfl rfl (zc rfl) (za rfl rfl (zaz rfl rfl rfl) (zf rfl (ze ?_))))))))))
      refine zy _ _ rfl rfl rfl rfl (fun hc4 => ?_) (fun hc4 => ?_)
      · replace hc4 := of_decide_eq_true hc4
        refine JD.keep [0, 1, 5, 6, 16, 19, 20, 21, 22, 23, 24, 25, 26, 27, 28, 29, 30, 31] [(0, .sh 2 (a.map Lbl.d)), (1, .sh 2 (b.map Lbl.d)), (5, dN k), (6, dI (cmpS x1.n x2.n)), (16, dB (decide (((k : Nat) : Int) < ((a.length : Nat) : Int)) && decide (((k : Nat) : Int) < ((b.length : Nat) : Int)))), (19, .sh 2 (a.map Lbl.d)), (20, dN k), (21, .el (Lbl.d x1) 0), (22, .el (Lbl.d x1) 0), (23, .s x1.n), (24, .sh 2 (b.map Lbl.d)), (25, dN k), (26, .el (Lbl.d x2) 0), (27, .el (Lbl.d x2) 0), (28, .s x2.n), (29, dI (cmpS x1.n x2.n)), (30, dI (cmpS x1.n x2.n)), (31, dB (decide (cmpS x1.n x2.n = (0 : Int))))] rfl (JD.norm [] rfl ?_)
        refine z7 10 [(32, .sh 2 (a.map Lbl.d), none), (33, dN k, none), (34, .el (Lbl.d x1) 0, none), (35, .el (Lbl.d x1) 1, none), (36, .s x1.v, none), (37, .sh 2 (b.map Lbl.d), none), (38, dN k, none), (39, .el (Lbl.d x2) 0, none), (40, .el (Lbl.d x2) 1, none), (41, .s x2.v, none)] [] (Hn := []) zar rfl rfl rfl rfl HSub.rfl' rfl ⟨sa_p rfl rfl rfl (zc rfl), sa_p rfl rfl rfl (zc rfl), sa_p rfl rfl rfl (zE (k := k) rfl rfl Tryz.runUnderlying52 Tryz.sizeOf106 (by first | rfl | omega) (zl hx1)), sa_p rfl rfl rfl (zX rfl zbt rfl), sa_p rfl rfl rfl (zV rfl Tryz.isAgg9 rfl), sa_p rfl rfl rfl (zc rfl), sa_p rfl rfl rfl (zc rfl), sa_p rfl rfl rfl (zE (k := k) rfl rfl Tryz.runUnderlying52 Tryz.sizeOf106 (by first | rfl | omega) (zl hx2)), sa_p rfl rfl rfl (zX rfl zbt rfl), sa_p rfl rfl rfl (zV rfl Tryz.isAgg9 rfl), trivial⟩ ?_
        refine OpsD.keep [0, 1, 5, 6, 16, 19, 20, 21, 22, 23, 24, 25, 26, 27, 28, 29, 30, 31, 32, 33, 34, 35, 36, 37, 38, 39, 40, 41] [(0, .sh 2 (a.map Lbl.d)), (1, .sh 2 (b.map Lbl.d)), (5, dN k), (6, dI (cmpS x1.n x2.n)), (16, dB (decide (((k : Nat) : Int) < ((a.length : Nat) : Int)) && decide (((k : Nat) : Int) < ((b.length : Nat) : Int)))), (19, .sh 2 (a.map Lbl.d)), (20, dN k), (21, .el (Lbl.d x1) 0), (22, .el (Lbl.d x1) 0), (23, .s x1.n), (24, .sh 2 (b.map Lbl.d)), (25, dN k), (26, .el (Lbl.d x2) 0), (27, .el (Lbl.d x2) 0), (28, .s x2.n), (29, dI (cmpS x1.n x2.n)), (30, dI (cmpS x1.n x2.n)), (31, dB (decide (cmpS x1.n x2.n = (0 : Int)))), (32, .sh 2 (a.map Lbl.d)), (33, dN k), (34, .el (Lbl.d x1) 0), (35, .el (Lbl.d x1) 1), (36, .s x1.v), (37, .sh 2 (b.map Lbl.d)), (38, dN k), (39, .el (Lbl.d x2) 0), (40, .el (Lbl.d x2) 1), (41, .s x2.v)] rfl (zi rfl rfl (zx [] _ [] rfl rfl (.cons ArgC.id (.cons ArgC.id .nil)) zr Tryz.call97 (texts_c x1.v x2.v) (.inl rfl)) ?_)
        rintro _ _ ⟨_, ⟨rfl, rfl⟩, rfl⟩
        refine OpsD.norm [] rfl (za rfl rfl (zg rfl) (zf rfl (ze (zd _ _ rfl rfl rfl (zb rfl (za rfl rfl (zc rfl) (za rfl rfl (zcZ rfl rfl rfl) (zf rfl (ze ?_)))))))))
        refine zy _ _ rfl rfl rfl rfl (fun hc5 => ?_) (fun hc5 => ?_)
        · replace hc5 := of_decide_eq_true hc5
          refine zd _ _ rfl rfl rfl (zb rfl (za rfl rfl (zc rfl) (za rfl rfl (zg rfl) (zf rfl (ze (zH rfl (zZ (zL (zaW (zZ (zL ?_)))))))))))
          exact zG Tryz.results29 (.cons (zah (zI rfl) (Cv.eq (congrArg (fun n => D.v (.int .i64 n)) (by rw [cmpLs_at hx1 hx2 hf (by unfold zbn or2; split <;> omega)]; unfold zbn or2; first | rw [if_pos (by omega)] | rw [if_neg (by omega)])))) .nil) rfl HSub.none ⟨rfl, rfl⟩
        · replace hc5 := of_decide_eq_false hc5
          refine zD rfl (zP (ze (zb rfl (za rfl rfl (zc rfl) (za rfl rfl (z5 (c := ((k + 1 : Nat) : Int)) rfl rfl (zR (by omega) (by omega))) (za rfl rfl (zg rfl) (zf rfl ?_)))))))
          exact zW (k + 1) ⟨sk rfl, sk rfl, sk rfl, trivial⟩ HSub.rfl' ⟨by omega, by omega, cmpLs_next hx1 hx2 hf (by unfold zbn or2; split <;> omega)⟩ (by omega)
      · replace hc4 := of_decide_eq_false hc4
        refine zD rfl (ze (zd _ _ rfl rfl rfl (zb rfl (za rfl rfl (zc rfl) (za rfl rfl (zcZ rfl rfl rfl) (zf rfl (ze ?_)))))))
        refine zy _ _ rfl rfl rfl rfl (fun hc6 => ?_) (fun hc6 => ?_)
        · replace hc6 := of_decide_eq_true hc6
          refine zd _ _ rfl rfl rfl (zb rfl (za rfl rfl (zc rfl) (za rfl rfl (zg rfl) (zf rfl (ze (zH rfl (zZ (zL (zaW (zZ (zL ?_)))))))))))
          exact zG Tryz.results29 (.cons (zah (zI rfl) (Cv.eq (congrArg (fun n => D.v (.int .i64 n)) (by rw [cmpLs_at hx1 hx2 hf (by unfold zbn or2; split <;> omega)]; unfold zbn or2; first | rw [if_pos (by omega)] | rw [if_neg (by omega)])))) .nil) rfl HSub.none ⟨rfl, rfl⟩
        · replace hc6 := of_decide_eq_false hc6
          refine zD rfl (zP (ze (zb rfl (za rfl rfl (zc rfl) (za rfl rfl (z5 (c := ((k + 1 : Nat) : Int)) rfl rfl (zR (by omega) (by omega))) (za rfl rfl (zg rfl) (zf rfl ?_)))))))
          exact zW (k + 1) ⟨sk rfl, sk rfl, sk rfl, trivial⟩ HSub.rfl' ⟨by omega, by omega, cmpLs_next hx1 hx2 hf (by unfold zbn or2; split <;> omega)⟩ (by omega)
    · simp only [Bool.and_eq_true, Bool.or_eq_true, Bool.not_eq_true', Bool.not_eq_false', Bool.and_eq_false_iff, Bool.or_eq_false_iff, decide_eq_true_eq, decide_eq_false_iff_not, Decidable.not_not, ne_eq] at hc3
      refine zN rfl (zw (zt (zq (ze (zd _ _ rfl rfl rfl (zu _ rfl rfl (zd _ _ rfl rfl rfl (zb rfl (za rfl rfl (zc rfl) (za rfl rfl (zat (n := a.length) rfl Tryz.runUnderlying52 (by simp only [lm, lc, ln])) (za rfl rfl (zc rfl) (za rfl rfl (zat (n := b.length) rfl Tryz.runUnderlying52 (by simp only [lm, lc, ln])) (za rfl rfl (zU rfl rfl rfl) (za rfl rfl (zg rfl) (zf rfl (ze ?_))))))))))))))))
      refine zy _ _ rfl rfl rfl rfl (fun hc7 => ?_) (fun hc7 => ?_)
      · replace hc7 := of_decide_eq_true hc7
        refine zd _ _ rfl rfl rfl (zb rfl (za rfl rfl (zg rfl) (zf rfl (ze (JD.keep [4] [(4, dI (-1))] rfl (zH rfl (zZ (zL ?_))))))))
        exact zG Tryz.results29 (.cons (zah (zI rfl) (Cv.eq (congrArg (fun n => D.v (.int .i64 n)) (by rw [hf]; first | rw [cmpLs_nil (by omega) (by omega) (by omega)] | rw [cmpLs_nil_l (by omega) (by omega)] | rw [cmpLs_nil_r (by omega) (by omega)])))) .nil) rfl HSub.none ⟨rfl, rfl⟩
      · replace hc7 := of_decide_eq_false hc7
        refine zd _ _ rfl rfl rfl (zb rfl (za rfl rfl (zc rfl) (za rfl rfl (zat (n := a.length) rfl Tryz.runUnderlying52 (by simp only [lm, lc, ln])) (za rfl rfl (zc rfl) (za rfl rfl (zat (n := b.length) rfl Tryz.runUnderlying52 (by simp only [lm, lc, ln])) (za rfl rfl (za4 rfl rfl rfl) (za rfl rfl (zg rfl) (zf rfl (ze (JD.keep [52] [(52, dB (decide (((b.length : Nat) : Int) < ((a.length : Nat) : Int))))] rfl ?_))))))))))
        refine zy _ _ rfl rfl rfl rfl (fun hc8 => ?_) (fun hc8 => ?_)
        · replace hc8 := of_decide_eq_true hc8
          refine zd _ _ rfl rfl rfl (zb rfl (za rfl rfl (zg rfl) (zf rfl (ze (zH rfl (zZ (zL ?_)))))))
          exact zG Tryz.results29 (.cons (zah (zI rfl) (Cv.eq (congrArg (fun n => D.v (.int .i64 n)) (by rw [hf]; first | rw [cmpLs_nil (by omega) (by omega) (by omega)] | rw [cmpLs_nil_l (by omega) (by omega)] | rw [cmpLs_nil_r (by omega) (by omega)])))) .nil) rfl HSub.none ⟨rfl, rfl⟩
        · replace hc8 := of_decide_eq_false hc8
          refine zD rfl (zP (ze (zd _ _ rfl rfl rfl (zb rfl (za rfl rfl (zg rfl) (zf rfl (ze (zH rfl ?_))))))))
          exact zG Tryz.results29 (.cons (zah (zI rfl) (Cv.eq (congrArg (fun n => D.v (.int .i64 n)) (by rw [hf]; first | rw [cmpLs_nil (by omega) (by omega) (by omega)] | rw [cmpLs_nil_l (by omega) (by omega)] | rw [cmpLs_nil_r (by omega) (by omega)])))) .nil) rfl HSub.none ⟨rfl, rfl⟩

set_option maxHeartbeats 4000000 in
set_option maxRecDepth 100000 in
theorem refLess_c (o : Int) (a : RowD) (b : RowD)  :
    CD Tryz.prog 107 [] [dI o, RowD.d a, RowD.d b] (isR (dB (less o a b))) := by
  refine zA Tryz.func107 rfl (N := 41) rfl rfl (fun C => ?_)
  refine JD.keep [0, 1, 2] [(0, dI o), (1, RowD.d a), (2, RowD.d b)] rfl ?_
  refine JD.bd 1 rfl (fun bd1 => ?_)
  refine JD.bd 2 rfl (fun bd2 => ?_)
  refine zd _ _ rfl rfl rfl (zb rfl (zi rfl rfl (zbv rfl (CellD.agg)) ?_))
  rintro _ _ ⟨g1, rfl, rfl⟩
  refine zi rfl rfl (zbv rfl (CellD.agg)) ?_
  rintro _ _ ⟨g2, rfl, rfl⟩
  refine za rfl rfl (zg rfl) (zf rfl (ze (zd _ _ rfl rfl rfl (zd _ _ rfl rfl rfl (JD.keep [0, 4, 5, 6] [(0, dI o), (4, dP g1 0), (5, dP g2 0), (6, dB false)] rfl ?_)))))
  refine zbf 15 ((decide (o = (1 : Int)) && decide (a.v ≠ b.v))) [.bx g2 71 (RowD.d b), .bx g1 71 (RowD.d a)] (fun _ hQ3 => ?_) ?_
  · skip
    by_cases hg4 : o = (1 : Int)
    · skip
      refine zb rfl (za rfl rfl (zc rfl) (za rfl rfl (zaz rfl rfl (decide_eq_true hg4)) (za rfl rfl (zc rfl) (zj rfl rfl rfl rfl rfl (zh rfl zaE rfl) (zj rfl rfl rfl rfl rfl (zm rfl (i := 1) rfl Tryz.isAgg3 rfl) (zj rfl rfl rfl rfl rfl (zh rfl zaE rfl) (zj rfl rfl rfl rfl rfl (zm rfl (i := 0) rfl Tryz.isAgg3 rfl) (zj rfl rfl rfl rfl rfl (zcZ rfl rfl rfl) (za rfl rfl (zF rfl rfl) (zf rfl ?_))))))))))
      exact PD.sub ((15, dB (decide (o = (1 : Int)) && decide (a.v ≠ b.v))) :: [(0, dI o), (4, dP g1 0), (5, dP g2 0), (6, dB false)]) ⟨sc rfl (Cv.eq (congrArg (fun b => D.v (.bool b)) (by first | (simp [hg4]; done) | (simp_all; done)))), sk rfl, sk rfl, sk rfl, sk rfl, trivial⟩ hQ3
    · skip
      refine zb rfl (za rfl rfl (zc rfl) (za rfl rfl (zaz rfl rfl (decide_eq_false hg4)) (za rfl rfl (zc rfl) (zn rfl rfl rfl rfl rfl (by decide) (zn rfl rfl rfl rfl rfl (by decide) (zn rfl rfl rfl rfl rfl (by decide) (zn rfl rfl rfl rfl rfl (by decide) (zn rfl rfl rfl rfl rfl (by decide) (za rfl rfl (zS rfl rfl) (zf rfl ?_))))))))))
      exact PD.sub ((15, dB (decide (o = (1 : Int)) && decide (a.v ≠ b.v))) :: [(0, dI o), (4, dP g1 0), (5, dP g2 0), (6, dB false)]) ⟨sc rfl (Cv.eq (congrArg (fun b => D.v (.bool b)) (by first | (simp [hg4]; done) | (simp_all; done)))), sk rfl, sk rfl, sk rfl, sk rfl, trivial⟩ hQ3
  · skip
    refine ze ?_
    refine zy _ _ rfl rfl rfl rfl (fun hc5 => ?_) (fun hc5 => ?_)
    · simp only [Bool.and_eq_true, Bool.or_eq_true, Bool.not_eq_true', Bool.not_eq_false', Bool.and_eq_false_iff, Bool.or_eq_false_iff, decide_eq_true_eq, decide_eq_false_iff_not, Decidable.not_not, ne_eq] at hc5
      refine zd _ _ rfl rfl rfl (zb rfl (za rfl rfl (zh rfl zaE rfl) (za rfl rfl (zm rfl (i := 1) rfl Tryz.isAgg3 rfl) (za rfl rfl (zh rfl zaE rfl) (za rfl rfl (zm rfl (i := 0) rfl Tryz.isAgg3 rfl) (za rfl rfl (zU rfl rfl rfl) (za rfl rfl (zg rfl) (zf rfl (ze (zH rfl (zL ?_)))))))))))
      exact zG Tryz.results107 (.cons (zah (zI rfl) (Cv.eq (congrArg (fun b => D.v (.bool b)) (by first | rw [less_ref1 (by omega) (by omega)] | rw [less_ref2 (by omega) (by omega)] | rw [less_ref3 (by omega) (by omega)])))) .nil) rfl HSub.none ⟨rfl, rfl⟩
    · simp only [Bool.and_eq_true, Bool.or_eq_true, Bool.not_eq_true', Bool.not_eq_false', Bool.and_eq_false_iff, Bool.or_eq_false_iff, decide_eq_true_eq, decide_eq_false_iff_not, Decidable.not_not, ne_eq] at hc5
      refine zD rfl (ze (zd _ _ rfl rfl rfl (zd _ _ rfl rfl rfl (JD.keep [0, 4, 5, 6] [(0, dI o), (4, dP g1 0), (5, dP g2 0), (6, dB false)] rfl ?_))))
      refine zbf 29 ((decide (o = (2 : Int)) && decide (a.v ≠ b.v))) [.bx g2 71 (RowD.d b), .bx g1 71 (RowD.d a)] (fun _ hQ6 => ?_) ?_
      · skip
        by_cases hg7 : o = (2 : Int)
        · skip
          refine zb rfl (za rfl rfl (zc rfl) (za rfl rfl (zaz rfl rfl (decide_eq_true hg7)) (za rfl rfl (zc rfl) (zj rfl rfl rfl rfl rfl (zh rfl zaE rfl) (zj rfl rfl rfl rfl rfl (zm rfl (i := 1) rfl Tryz.isAgg3 rfl) (zj rfl rfl rfl rfl rfl (zh rfl zaE rfl) (zj rfl rfl rfl rfl rfl (zm rfl (i := 0) rfl Tryz.isAgg3 rfl) (zj rfl rfl rfl rfl rfl (zcZ rfl rfl rfl) (za rfl rfl (zF rfl rfl) (zf rfl ?_))))))))))
          exact PD.sub ((29, dB (decide (o = (2 : Int)) && decide (a.v ≠ b.v))) :: [(0, dI o), (4, dP g1 0), (5, dP g2 0), (6, dB false)]) ⟨sc rfl (Cv.eq (congrArg (fun b => D.v (.bool b)) (by first | (simp [hg7]; done) | (simp_all; done)))), sk rfl, sk rfl, sk rfl, sk rfl, trivial⟩ hQ6
        · skip
          refine zb rfl (za rfl rfl (zc rfl) (za rfl rfl (zaz rfl rfl (decide_eq_false hg7)) (za rfl rfl (zc rfl) (zn rfl rfl rfl rfl rfl (by decide) (zn rfl rfl rfl rfl rfl (by decide) (zn rfl rfl rfl rfl rfl (by decide) (zn rfl rfl rfl rfl rfl (by decide) (zn rfl rfl rfl rfl rfl (by decide) (za rfl rfl (zS rfl rfl) (zf rfl ?_))))))))))
          exact PD.sub ((29, dB (decide (o = (2 : Int)) && decide (a.v ≠ b.v))) :: [(0, dI o), (4, dP g1 0), (5, dP g2 0), (6, dB false)]) ⟨sc rfl (Cv.eq (congrArg (fun b => D.v (.bool b)) (by first | (simp [hg7]; done) | (simp_all; done)))), sk rfl, sk rfl, sk rfl, sk rfl, trivial⟩ hQ6
      · skip
        refine ze ?_
        refine zy _ _ rfl rfl rfl rfl (fun hc8 => ?_) (fun hc8 => ?_)
        · simp only [Bool.and_eq_true, Bool.or_eq_true, Bool.not_eq_true', Bool.not_eq_false', Bool.and_eq_false_iff, Bool.or_eq_false_iff, decide_eq_true_eq, decide_eq_false_iff_not, Decidable.not_not, ne_eq] at hc8
          refine zd _ _ rfl rfl rfl (zb rfl (za rfl rfl (zh rfl zaE rfl) (za rfl rfl (zm rfl (i := 1) rfl Tryz.isAgg3 rfl) (za rfl rfl (zh rfl zaE rfl) (za rfl rfl (zm rfl (i := 0) rfl Tryz.isAgg3 rfl) (za rfl rfl (za4 rfl rfl rfl) (za rfl rfl (zg rfl) (zf rfl (ze (zH rfl (zL ?_)))))))))))
          exact zG Tryz.results107 (.cons (zah (zI rfl) (Cv.eq (congrArg (fun b => D.v (.bool b)) (by first | rw [less_ref1 (by omega) (by omega)] | rw [less_ref2 (by omega) (by omega)] | rw [less_ref3 (by omega) (by omega)])))) .nil) rfl HSub.none ⟨rfl, rfl⟩
        · simp only [Bool.and_eq_true, Bool.or_eq_true, Bool.not_eq_true', Bool.not_eq_false', Bool.and_eq_false_iff, Bool.or_eq_false_iff, decide_eq_true_eq, decide_eq_false_iff_not, Decidable.not_not, ne_eq] at hc8
          refine zD rfl (ze (zd _ _ rfl rfl rfl (zb rfl (za rfl rfl (zh rfl za3 rfl) (za rfl rfl (zm rfl (i := 1) rfl Tryz.isAgg52 rfl) (za rfl rfl (zh rfl za3 rfl) (za rfl rfl (zm rfl (i := 0) rfl Tryz.isAgg52 rfl) (zi rfl rfl (zx [] _ [] rfl rfl (.cons ArgC.id (.cons ArgC.id .nil)) zr Tryz.call29 (refCompare_c a.ls b.ls) (.inl rfl)) ?_))))))))
          rintro _ _ ⟨_, ⟨rfl, rfl⟩, rfl⟩
          refine OpsD.norm [.bx g2 71 (RowD.d b), .bx g1 71 (RowD.d a)] rfl (za rfl rfl (zU rfl rfl rfl) (za rfl rfl (zg rfl) (zf rfl (ze (JD.keep [6] [(6, dB (decide (zas a.ls b.ls < (0 : Int))))] rfl (zH rfl ?_))))))
          exact zG Tryz.results107 (.cons (zah (zI rfl) (Cv.eq (congrArg (fun b => D.v (.bool b)) (by first | rw [less_ref1 (by omega) (by omega)] | rw [less_ref2 (by omega) (by omega)] | rw [less_ref3 (by omega) (by omega)])))) .nil) rfl HSub.none ⟨rfl, rfl⟩
end Lp
/-
  BYTES: rows of bytes, texts appended to them; a strings.Builder.
-/
set_option linter.unusedVariables false
namespace Lp
open Go Go.RowKit
open Go.Lib (strCells strCells_eq byteCells byteCells_length run_append_own_string)

section
variable {P : Program} {ty : TypeId} {K : Kd} {H : List Hp}
def decR (s : ByteArray) (p : Nat) : Nat := (Utf8.decode s p).1
def decW (s : ByteArray) (p : Nat) : Nat := (Utf8.decode s p).2
theorem decW_pos (s : ByteArray) (p : Nat) : 1 ≤ decW s p := by
  unfold decW Utf8.decode
  simp only
  (repeat' split) <;> simp
/-- the runes of a text, from a place on -/
def runesAt (s : ByteArray) (p : Nat) : List Int := if h : p < s.size then (decR s p : Int) :: runesAt s (p + decW s p) else []
termination_by s.size - p
decreasing_by have := decW_pos s p; omega
def runes (s : ByteArray) : List Int := runesAt s 0
end
end Lp
