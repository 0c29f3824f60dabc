/- Walks, printed by a program of mine. -/
import Derived.Test.YtoanlikkhjohpaaGreatDL
set_option linter.unusedSimpArgs false
set_option linter.unusedVariables false
namespace Lp
open Go Go.RowKit Go.Proofs

namespace HdYtoanlikkhjohpaaGreatV16
theorem bd_115 : ∀ w, ((#[⟨"room", 3, 0, false, "", "leporello/purse", 0⟩, ⟨"now", 3, 1, false, "", "leporello/purse", 8⟩, ⟨"high", 3, 2, false, "", "leporello/purse", 16⟩] : Array Field).mapM fun f => do pure (f.offset, ← Go.sizeOf f.type) : Sem (Array (Nat × Nat))).run Tryz.prog w = .ok ([(0, 1), (1, 1), (2, 1)] : List (Nat × Nat)).toArray w := fun _ => by kernel_rfl
theorem zcv (x y : Operand) (a : Addr) (w : World) : (do eqGuard .eql 73 x y (.pointer (some a)) (.pointer none); binOp .eql 73 (.pointer (some a)) (.pointer none) : Sem Value).run Tryz.prog w = .ok (.bool false) w := by kernel_rfl
theorem zbp (b o : Nat) : ∀ w, (Instr.fieldAt 106 (.pointer (some ⟨b, o, none⟩)) 0).run Tryz.prog w = .ok (.pointer (some ⟨b, o + 0, none⟩)) w := fun _ => by kernel_rfl
theorem zbt (b o : Nat) : ∀ w, (Instr.fieldAt 106 (.pointer (some ⟨b, o, none⟩)) 1).run Tryz.prog w = .ok (.pointer (some ⟨b, o + 1, none⟩)) w := fun _ => by kernel_rfl
theorem fa_115_0 (b o : Nat) : ∀ w, (Instr.fieldAt 115 (.pointer (some ⟨b, o, none⟩)) 0).run Tryz.prog w = .ok (.pointer (some ⟨b, o + 0, none⟩)) w := fun _ => by kernel_rfl
theorem zct (b o : Nat) : ∀ w, (Instr.fieldAt 115 (.pointer (some ⟨b, o, none⟩)) 1).run Tryz.prog w = .ok (.pointer (some ⟨b, o + 1, none⟩)) w := fun _ => by kernel_rfl
theorem fa_115_2 (b o : Nat) : ∀ w, (Instr.fieldAt 115 (.pointer (some ⟨b, o, none⟩)) 2).run Tryz.prog w = .ok (.pointer (some ⟨b, o + 2, none⟩)) w := fun _ => by kernel_rfl
theorem za3 (b o : Nat) : ∀ w, (Instr.fieldAt 71 (.pointer (some ⟨b, o, none⟩)) 0).run Tryz.prog w = .ok (.pointer (some ⟨b, o + 0, none⟩)) w := fun _ => by kernel_rfl
end HdYtoanlikkhjohpaaGreatV16
open HdYtoanlikkhjohpaaGreatV16

set_option maxHeartbeats 4000000 in
set_option maxRecDepth 100000 in
theorem zde (r : RowD) (hr : zbd r.ls = true) :
    CD Tryz.prog 45 [] [RowD.d r] (isR (dI (zp r))) := by
  refine zA Tryz.func45 rfl (N := 25) rfl rfl (fun C => ?_)
  refine JD.keep [0] [(0, RowD.d r)] rfl ?_
  refine JD.bd 0 rfl (fun bd0 => ?_)
  have hb0 := light_cost hr
  have hb9 := zcp hr
  refine zd _ _ rfl rfl rfl (zb rfl (zi rfl rfl (zbv rfl (CellD.agg)) ?_))
  rintro _ _ ⟨g1, rfl, rfl⟩
  refine za rfl rfl (zg rfl) (zf rfl (ze (zd _ _ rfl rfl rfl (zb rfl (za rfl rfl (zg rfl) (zf rfl (ze (zd _ _ rfl rfl rfl (zd _ _ rfl rfl rfl (zb rfl (za rfl rfl (zh rfl za3 rfl) (za rfl rfl (zm rfl (i := 0) rfl Tryz.isAgg52 rfl) (za rfl rfl (zat (n := r.ls.length) rfl Tryz.runUnderlying52 (by simp only [lm, lc, ln])) (za rfl rfl (zc rfl) (zf rfl (ze (zu _ rfl rfl (zM (fun (g : Nat) => [(2, dI 0), (7, .sh 2 (r.ls.map Lbl.d)), (8, dN r.ls.length), (3, dI (16 + zaN (r.ls.take g))), (9, dN g)]) (fun (g : Nat) => [.bx g1 71 (RowD.d r)]) (fun (g : Nat) => True) (fun (g : Nat) => r.ls.length - g) _ 0 rfl rfl ⟨sk rfl, sk rfl, sk rfl, sc rfl (Cv.eq (congrArg dI (by simp [zaN]))), sk rfl, trivial⟩ HSub.rfl' trivial ?_))))))))))))))))))
  rintro k _
  refine JD.keep [2, 7, 8, 3, 9] [(2, dI 0), (7, .sh 2 (r.ls.map Lbl.d)), (8, dN r.ls.length), (3, dI (16 + zaN (r.ls.take k))), (9, dN k)] rfl (JD.norm [.bx g1 71 (RowD.d r)] rfl ?_)
  have hb1 := costL_take_le r.ls k
  have hb3 := zbW (r.ls.take k)
  refine zd _ _ rfl rfl rfl (zb rfl (za rfl rfl (zU rfl rfl rfl) (zf rfl (ze (zd _ _ rfl rfl rfl ?_)))))
  refine zy _ _ rfl rfl rfl rfl (fun hc2 => ?_) (fun hc2 => ?_)
  · replace hc2 := of_decide_eq_true hc2
    refine zD rfl (ze (zd _ _ rfl rfl rfl (zu _ rfl rfl (zd _ _ rfl rfl rfl (zb rfl ?_)))))
    obtain ⟨x1, hx1⟩ := zJ r.ls k (by omega)
    have hs1 := costL_snoc hx1
    have hb2 := costL_take_le r.ls (k + 1)
    refine za rfl rfl (zE (k := k) rfl rfl Tryz.runUnderlying52 Tryz.sizeOf106 (by first | rfl | omega) (zl hx1)) (za rfl rfl (zaj (d := Lbl.d x1) rfl Tryz.isAgg106 Tryz.sizeOf106 rfl rfl) (zi rfl rfl (zao (zv := (.agg #[(.string ByteArray.empty), (.string ByteArray.empty)])) Tryz.zeroValue106 ⟨rfl, rfl, trivial⟩ (Cv.vagg (by decide))) ?_))
    rintro _ _ ⟨g3, rfl, rfl⟩
    refine zi rfl rfl (zO (i := 0) (X' := Lbl.d x1) rfl rfl rfl (CellD.agg) Tryz.sizeOf106 rfl rfl rfl) ?_
    rintro _ _ ⟨rfl, rfl⟩
    refine OpsD.norm [.bx g3 106 (Lbl.d x1), .bx g1 71 (RowD.d r)] rfl (zf rfl (ze (zb rfl (za rfl rfl (zc rfl) (za rfl rfl (zh rfl zbp rfl) (za rfl rfl (zm rfl (i := 0) rfl Tryz.isAgg9 rfl) (za rfl rfl (zb0 rfl Tryz.runUnderlying9) (za rfl rfl (z5 (c := ((8 + x1.n.size : Nat) : Int)) rfl rfl (zR (by omega) (by omega))) (za rfl rfl (zh rfl zbt rfl) (za rfl rfl (zm rfl (i := 0) rfl Tryz.isAgg9 rfl) (za rfl rfl (zb0 rfl Tryz.runUnderlying9) (za rfl rfl (z5 (c := (((8 + x1.n.size) + x1.v.size : Nat) : Int)) rfl rfl (zR (by omega) (by omega))) (za rfl rfl (z5 (c := ((16 + zaN (r.ls.take k)) + (((8 + x1.n.size) + x1.v.size : Nat) : Int))) rfl rfl (zR (by omega) (by omega))) (za rfl rfl (zg rfl) (zf rfl (zP (ze (zb rfl (za rfl rfl (z5 (c := ((k + 1 : Nat) : Int)) rfl rfl (zR (by omega) (by omega))) (za rfl rfl (zc rfl) (zf rfl ?_)))))))))))))))))))))
    exact zW (k + 1) ⟨sk rfl, sk rfl, sk rfl, sc rfl (Cv.eq (congrArg dI (by rw [costL_snoc hx1]; omega))), sk rfl, trivial⟩ (HSub.lst 1 rfl) trivial (by omega)
  · replace hc2 := of_decide_eq_false hc2
    refine zN rfl (zw (zt (zq (ze (zd _ _ rfl rfl rfl (zb rfl (za rfl rfl (zc rfl) (za rfl rfl (zg rfl) (zf rfl (ze (zH rfl ?_)))))))))))
    exact zG Tryz.results45 (.cons (zah (zI rfl) (Cv.eq (congrArg (fun n => D.v (.int .i64 n)) (by unfold zp; rw [List.take_of_length_le (by omega)])))) .nil) rfl HSub.none ⟨rfl, rfl⟩

set_option maxHeartbeats 4000000 in
set_option maxRecDepth 100000 in
theorem Least_c (fan : Int) (l : List RowD) (h0 : 0 ≤ fan) (h1 : fan ≤ 20) (hl : z9 l) :
    CD Tryz.prog 11 [] [dI fan, .sh 2 (l.map RowD.d)] (isR (dI (fan * maxC l))) := by
  refine zA Tryz.func11 rfl (N := 22) rfl rfl (fun C => ?_)
  refine JD.keep [0, 1] [(0, dI fan), (1, .sh 2 (l.map RowD.d))] rfl ?_
  refine JD.bd 1 rfl (fun bd1 => ?_)
  have nl1 := zaB bd1
  refine zd _ _ rfl rfl rfl (zb rfl (za rfl rfl (zg rfl) (zf rfl (ze (zd _ _ rfl rfl rfl (zb rfl (za rfl rfl (zg rfl) (zf rfl (ze (zd _ _ rfl rfl rfl (zd _ _ rfl rfl rfl (zb rfl (za rfl rfl (zc rfl) (za rfl rfl (zat (n := l.length) rfl Tryz.runUnderlying22 (by simp only [lm, lc, ln])) (za rfl rfl (zc rfl) (zf rfl (ze (zu _ rfl rfl (zM (fun (g : Nat) => [(0, dI fan), (4, dI 0), (8, .sh 2 (l.map RowD.d)), (9, dN l.length), (5, dI (maxC (l.take g))), (10, dN g)]) (fun (g : Nat) => []) (fun (g : Nat) => (0 ≤ fan * maxC (l.take g) ∧ fan * maxC (l.take g) ≤ 163520)) (fun (g : Nat) => l.length - g) _ 0 rfl rfl ⟨sk rfl, sk rfl, sk rfl, sk rfl, sc rfl (Cv.eq (congrArg dI (by simp [maxC]))), sk rfl, trivial⟩ HSub.rfl' (zdR h0 h1 (zb7 hl _).1 (zb7 hl _).2) ?_)))))))))))))))))))
  rintro k hmb
  refine JD.keep [0, 4, 8, 9, 5, 10] [(0, dI fan), (4, dI 0), (8, .sh 2 (l.map RowD.d)), (9, dN l.length), (5, dI (maxC (l.take k))), (10, dN k)] rfl (JD.norm [] rfl (zd _ _ rfl rfl rfl (zb rfl (za rfl rfl (zU rfl rfl rfl) (zf rfl (ze (zd _ _ rfl rfl rfl ?_)))))))
  refine zy _ _ rfl rfl rfl rfl (fun hc1 => ?_) (fun hc1 => ?_)
  · replace hc1 := of_decide_eq_true hc1
    refine zD rfl (ze (zd _ _ rfl rfl rfl (zu _ rfl rfl (zd _ _ rfl rfl rfl (zb rfl ?_)))))
    obtain ⟨x1, hx1⟩ := zJ l k (by omega)
    refine za rfl rfl (zE (k := k) rfl rfl Tryz.runUnderlying22 Tryz.sizeOf71 (by first | rfl | omega) (zl hx1)) (za rfl rfl (zaj (d := RowD.d x1) rfl Tryz.isAgg71 Tryz.sizeOf71 rfl rfl) (zi rfl rfl (zao (zv := (.agg #[(.slice none 0 0), (.int .i64 0)])) Tryz.zeroValue71 ⟨rfl, rfl, trivial⟩ (Cv.vagg (by decide))) ?_))
    rintro _ _ ⟨g2, rfl, rfl⟩
    refine zi rfl rfl (zO (i := 0) (X' := RowD.d x1) rfl rfl rfl (CellD.agg) Tryz.sizeOf71 rfl rfl rfl) ?_
    rintro _ _ ⟨rfl, rfl⟩
    refine OpsD.norm [.bx g2 71 (RowD.d x1)] rfl (zf rfl (ze (zb rfl (za rfl rfl (zc rfl) (za rfl rfl (zaq (d := RowD.d x1) rfl (i := 0) rfl Tryz.isAgg71 Tryz.sizeOf71 rfl rfl) (zi rfl rfl (zx [] _ [] rfl rfl (.cons ArgC.id .nil) zr Tryz.call45 (zde x1 (hl x1 (zai hx1))) (.inl rfl)) ?_))))))
    rintro _ _ ⟨_, ⟨rfl, rfl⟩, rfl⟩
    refine OpsD.norm [.bx g2 71 (RowD.d x1)] rfl (za rfl rfl (zdx rfl rfl rfl) (za rfl rfl (zg rfl) (zf rfl (zP (ze (zb rfl (za rfl rfl (z5 (c := ((k + 1 : Nat) : Int)) rfl rfl (zR (by omega) (by omega))) (za rfl rfl (zc rfl) (zf rfl ?_)))))))))
    exact zW (k + 1) ⟨sk rfl, sk rfl, sk rfl, sk rfl, sc rfl (Cv.eq (congrArg dI (by rw [maxC_snoc hx1]))), sk rfl, trivial⟩ HSub.none (zdR h0 h1 (zb7 hl _).1 (zb7 hl _).2) (by omega)
  · replace hc1 := of_decide_eq_false hc1
    refine zN rfl (zw (zt (zq (ze (zd _ _ rfl rfl rfl (zb rfl (za rfl rfl (zc rfl) (za rfl rfl (zc rfl) (za rfl rfl (zcT (c := (fan * (maxC (l.take k)))) rfl rfl (zR (by omega) (by omega))) (za rfl rfl (zg rfl) (zf rfl (ze (JD.keep [4] [(4, dI (fan * (maxC (l.take k))))] rfl (zH rfl ?_))))))))))))))
    exact zG Tryz.results11 (.cons (zah (zI rfl) (Cv.eq (congrArg (fun n => D.v (.int .i64 n)) (by rw [List.take_of_length_le (by omega)])))) .nil) rfl HSub.none ⟨rfl, rfl⟩

set_option maxHeartbeats 4000000 in
set_option maxRecDepth 100000 in
theorem New_c (room : Int) (h0 : 0 ≤ room) (h1 : room ≤ 1000000) :
    CD Tryz.prog 39 [] [dI room] (fun r H' => ∃ g, r = dP g 0 ∧ H' = [.bx g 115 (.agg [dI ((PurseD.mk room 0 0).room), dI ((PurseD.mk room 0 0).now), dI ((PurseD.mk room 0 0).high)])]) := by
  refine zA Tryz.func39 rfl (N := 8) rfl rfl (fun C => ?_)
  refine JD.keep [0] [(0, dI room)] rfl (zd _ _ rfl rfl rfl (zb rfl (za rfl rfl (zg rfl) (zf rfl (ze (zd _ _ rfl rfl rfl (zb rfl (za rfl rfl (zc rfl) (za rfl rfl (zdx rfl rfl rfl) (za rfl rfl (p_min rfl rfl rfl) (za rfl rfl (zau [0] [.tmp 5] (zv := (.agg #[(.int .i64 0), (.int .i64 0), (.int .i64 0)])) rfl rfl (.cons (CellD.v rfl) .nil) (Tryz.runUnderlying115) Tryz.zeroValue115 bd_115 ⟨rfl, rfl, rfl, trivial⟩ rfl) (zi rfl rfl (zbv rfl (CellD.agg)) ?_))))))))))))
  rintro _ _ ⟨g1, rfl, rfl⟩
  refine za rfl rfl (zg rfl) (zf rfl (ze (zH rfl (PD.norm [.bx g1 115 (.agg [dI (min (max room (0 : Int)) (1000000 : Int)), dI 0, dI 0])] rfl (PD.norm [.bx g1 115 (.agg [dI ((PurseD.mk room 0 0).room), dI ((PurseD.mk room 0 0).now), dI ((PurseD.mk room 0 0).high)])] (by rw [show min (max room 0) 1000000 = room by omega]) ?_)))))
  exact zG Tryz.results39 (.cons (zI rfl) .nil) rfl (HSub.fst 1 rfl) ⟨_, rfl, rfl⟩

set_option maxHeartbeats 4000000 in
set_option maxRecDepth 100000 in
theorem Take_c (gp : Nat) (p : PurseD) (n : Int) (hp : p.Ok) (hn : -1000000 ≤ n ∧ n ≤ 1000000) :
    CD Tryz.prog 103 [.bx gp 115 (.agg [dI p.room, dI p.now, dI p.high])] [dP gp 0, dI n] (fun r H' => r = dB (p.takes n) ∧ H' = [.bx gp 115 (.agg [dI ((p.take n).room), dI ((p.take n).now), dI ((p.take n).high)])]) := by
  refine zA Tryz.func103 rfl (N := 44) rfl rfl (fun C => ?_)
  refine JD.keep [0, 1] [(0, dP gp 0), (1, dI n)] rfl ?_
  have hn0 := hp.n0
  have hnh := hp.nh
  have hhr := hp.hr
  have hrm := hp.rm
  refine zd _ _ rfl rfl rfl (zb rfl (za rfl rfl (zg rfl) (zf rfl (ze (zd _ _ rfl rfl rfl (zd _ _ rfl rfl rfl (JD.keep [0, 1, 4] [(0, dP gp 0), (1, dI n), (4, dB false)] rfl ?_)))))))
  refine zbf 23 ((decide (n < (0 : Int)) || decide ((p.room - p.now) < n))) [.bx gp 115 (.agg [dI p.room, dI p.now, dI p.high])] (fun _ hQ1 => ?_) ?_
  · skip
    by_cases hg2 : n < (0 : Int)
    · skip
      refine JD.keep [0, 1, 4] [(0, dP gp 0), (1, dI n), (4, dB false)] rfl (JD.norm [.bx gp 115 (.agg [dI p.room, dI p.now, dI p.high])] rfl ?_)
      refine z7 17 [(5, dP gp 0, none), (6, dB false, none), (7, dB false, none), (8, dI n, none), (9, dB true, none), (10, dB true, none), (11, dB true, none), (12, .v undef, none), (13, .v undef, none), (14, .v undef, none), (15, .v undef, none), (16, .v undef, none), (17, .v undef, none), (18, .v undef, none), (19, .v undef, none), (20, .v undef, none), (21, .v undef, none)] [.bx gp 115 (.agg [dI p.room, dI p.now, dI p.high])] (Hn := [.bx gp 115 (.agg [dI p.room, dI p.now, dI p.high])]) zar rfl rfl rfl rfl HSub.rfl' rfl ⟨sa_p rfl rfl rfl (zc rfl), sa_p rfl rfl rfl (zdN (r := .bool false) rfl rfl (zcv _ _ _)), sa_p rfl rfl rfl (zc rfl), z6 rfl rfl rfl rfl rfl rfl (zc rfl).qu, z6 rfl rfl rfl rfl rfl rfl (zU rfl rfl (decide_eq_true hg2)).qu, sa_p rfl rfl rfl (zS rfl rfl), sa_p rfl rfl rfl (zc rfl), sa_s rfl rfl rfl rfl rfl rfl (by decide), sa_s rfl rfl rfl rfl rfl rfl (by decide), sa_s rfl rfl rfl rfl rfl rfl (by decide), sa_s rfl rfl rfl rfl rfl rfl (by decide), sa_s rfl rfl rfl rfl rfl rfl (by decide), sa_s rfl rfl rfl rfl rfl rfl (by decide), sa_s rfl rfl rfl rfl rfl rfl (by decide), sa_s rfl rfl rfl rfl rfl rfl (by decide), sa_s rfl rfl rfl rfl rfl rfl (by decide), sa_s rfl rfl rfl rfl rfl rfl (by decide), trivial⟩ ?_
      refine OpsD.keep [0, 1, 4, 5, 6, 7, 8, 9, 10, 11, 12, 13, 14, 15, 16, 17, 18, 19, 20, 21] [(0, dP gp 0), (1, dI n), (4, dB false), (5, dP gp 0), (6, dB false), (7, dB false), (8, dI n), (9, dB true), (10, dB true), (11, dB true), (12, .v undef), (13, .v undef), (14, .v undef), (15, .v undef), (16, .v undef), (17, .v undef), (18, .v undef), (19, .v undef), (20, .v undef), (21, .v undef)] rfl (zn rfl rfl rfl rfl rfl (by decide) (za rfl rfl (zF rfl rfl) (zf rfl ?_)))
      exact PD.sub ((23, dB (decide (n < (0 : Int)) || decide ((p.room - p.now) < n))) :: [(0, dP gp 0), (1, dI n), (4, dB false)]) ⟨sc rfl (Cv.eq (congrArg (fun b => D.v (.bool b)) (by first | (simp [hg2]; done) | (simp_all; done)))), sk rfl, sk rfl, sk rfl, trivial⟩ hQ1
    · skip
      refine JD.keep [0, 1, 4] [(0, dP gp 0), (1, dI n), (4, dB false)] rfl (JD.norm [.bx gp 115 (.agg [dI p.room, dI p.now, dI p.high])] rfl ?_)
      refine z7 17 [(5, dP gp 0, none), (6, dB false, none), (7, dB false, none), (8, dI n, none), (9, dB false, none), (10, dB false, none), (11, dB false, none), (12, dI n, none), (13, dP gp 0, none), (14, dP gp 0, none), (15, dP gp 0, none), (16, dI p.room, none), (17, dP gp 0, none), (18, dP gp 0, none), (19, dP gp 1, none), (20, dI p.now, none), (21, dI (p.room - p.now), none)] [.bx gp 115 (.agg [dI p.room, dI p.now, dI p.high])] (Hn := [.bx gp 115 (.agg [dI p.room, dI p.now, dI p.high])]) zar rfl rfl rfl rfl HSub.rfl' rfl ⟨sa_p rfl rfl rfl (zc rfl), sa_p rfl rfl rfl (zdN (r := .bool false) rfl rfl (zcv _ _ _)), sa_p rfl rfl rfl (zc rfl), z6 rfl rfl rfl rfl rfl rfl (zc rfl).qu, z6 rfl rfl rfl rfl rfl rfl (zU rfl rfl (decide_eq_false hg2)).qu, sa_p rfl rfl rfl (zS rfl rfl), sa_p rfl rfl rfl (zc rfl), z6 rfl rfl rfl rfl rfl rfl (zc rfl).qu, z6 rfl rfl rfl rfl rfl rfl (zc rfl).qu, z6 rfl rfl rfl rfl rfl rfl (zs rfl).qu, z6 rfl rfl rfl rfl rfl rfl (zh rfl fa_115_0 rfl).qu, z6 rfl rfl rfl rfl rfl rfl (zm rfl (i := 0) rfl Tryz.isAgg3 rfl).qu, z6 rfl rfl rfl rfl rfl rfl (zc rfl).qu, z6 rfl rfl rfl rfl rfl rfl (zs rfl).qu, z6 rfl rfl rfl rfl rfl rfl (zh rfl zct rfl).qu, z6 rfl rfl rfl rfl rfl rfl (zm rfl (i := 0) rfl Tryz.isAgg3 rfl).qu, z6 rfl rfl rfl rfl rfl rfl (za6 (c := (p.room - p.now)) rfl rfl (zR (by omega) (by omega))).qu, trivial⟩ ?_
      refine OpsD.keep [0, 1, 4, 5, 6, 7, 8, 9, 10, 11, 12, 13, 14, 15, 16, 17, 18, 19, 20, 21] [(0, dP gp 0), (1, dI n), (4, dB false), (5, dP gp 0), (6, dB false), (7, dB false), (8, dI n), (9, dB false), (10, dB false), (11, dB false), (12, dI n), (13, dP gp 0), (14, dP gp 0), (15, dP gp 0), (16, dI p.room), (17, dP gp 0), (18, dP gp 0), (19, dP gp 1), (20, dI p.now), (21, dI (p.room - p.now))] rfl (zj rfl rfl rfl rfl rfl (za4 rfl rfl rfl) (za rfl rfl (zS rfl rfl) (zf rfl ?_)))
      exact PD.sub ((23, dB (decide (n < (0 : Int)) || decide ((p.room - p.now) < n))) :: [(0, dP gp 0), (1, dI n), (4, dB false)]) ⟨sc rfl (Cv.eq (congrArg (fun b => D.v (.bool b)) (by first | (simp [hg2]; done) | (simp_all; done)))), sk rfl, sk rfl, sk rfl, trivial⟩ hQ1
  · skip
    refine ze ?_
    refine zy _ _ rfl rfl rfl rfl (fun hc3 => ?_) (fun hc3 => ?_)
    · simp only [Bool.and_eq_true, Bool.or_eq_true, Bool.not_eq_true', Bool.not_eq_false', Bool.and_eq_false_iff, Bool.or_eq_false_iff, decide_eq_true_eq, decide_eq_false_iff_not, Decidable.not_not, ne_eq] at hc3
      refine zd _ _ rfl rfl rfl (zb rfl (za rfl rfl (zg rfl) (zf rfl (ze (zH rfl (zL (PD.norm [.bx gp 115 (.agg [dI p.room, dI p.now, dI p.high])] rfl (PD.norm [.bx gp 115 (.agg [dI ((p.take n).room), dI ((p.take n).now), dI ((p.take n).high)])] (by rw [(take_f (p := p) (n := n) (by omega)).2]) ?_))))))))
      exact zG Tryz.results103 (.cons (zah (zI rfl) (Cv.eq (congrArg (fun b => D.v (.bool b)) (take_f (p := p) (n := n) (by omega)).1.symm))) .nil) rfl HSub.rfl' ⟨rfl, rfl⟩
    · simp only [Bool.and_eq_true, Bool.or_eq_true, Bool.not_eq_true', Bool.not_eq_false', Bool.and_eq_false_iff, Bool.or_eq_false_iff, decide_eq_true_eq, decide_eq_false_iff_not, Decidable.not_not, ne_eq] at hc3
      refine zD rfl (ze (zd _ _ rfl rfl rfl (zb rfl (za rfl rfl (zc rfl) (za rfl rfl (zs rfl) (za rfl rfl (zh rfl zct rfl) (za rfl rfl (zm rfl (i := 0) rfl Tryz.isAgg3 rfl) (za rfl rfl (zc rfl) (za rfl rfl (z5 (c := (p.now + n)) rfl rfl (zR (by omega) (by omega))) (za rfl rfl (zs rfl) (za rfl rfl (zh rfl zct rfl) (zi rfl rfl (zO (i := 0) (X' := .agg [dI p.room, dI (p.now + n), dI p.high]) rfl rfl rfl (CellD.v rfl) Tryz.sizeOf3 rfl rfl rfl) ?_))))))))))))
      rintro _ _ ⟨rfl, rfl⟩
      refine OpsD.norm [.bx gp 115 (.agg [dI p.room, dI (p.now + n), dI p.high])] rfl (zf rfl (ze (JD.keep [0, 4] [(0, dP gp 0), (4, dB false)] rfl (zd _ _ rfl rfl rfl (JD.keep [0, 4] [(0, dP gp 0), (4, dB false)] rfl (JD.norm [.bx gp 115 (.agg [dI p.room, dI (p.now + n), dI p.high])] rfl ?_))))))
      refine z7 10 [(32, dP gp 0, none), (33, dP gp 0, none), (34, dP gp 0, none), (35, dP gp 2, none), (36, dI p.high, none), (37, dP gp 0, none), (38, dP gp 0, none), (39, dP gp 1, none), (40, dI (p.now + n), none), (41, dI (max p.high (p.now + n)), none)] [.bx gp 115 (.agg [dI p.room, dI (p.now + n), dI p.high])] (Hn := [.bx gp 115 (.agg [dI p.room, dI (p.now + n), dI p.high])]) zar rfl rfl rfl rfl HSub.rfl' rfl ⟨sa_p rfl rfl rfl (zc rfl), sa_p rfl rfl rfl (zc rfl), sa_p rfl rfl rfl (zs rfl), sa_p rfl rfl rfl (zh rfl fa_115_2 rfl), sa_p rfl rfl rfl (zm rfl (i := 0) rfl Tryz.isAgg3 rfl), sa_p rfl rfl rfl (zc rfl), sa_p rfl rfl rfl (zs rfl), sa_p rfl rfl rfl (zh rfl zct rfl), sa_p rfl rfl rfl (zm rfl (i := 0) rfl Tryz.isAgg3 rfl), sa_p rfl rfl rfl (zdx rfl rfl rfl), trivial⟩ ?_
      refine OpsD.keep [0, 4, 32, 33, 34, 35, 36, 37, 38, 39, 40, 41] [(0, dP gp 0), (4, dB false), (32, dP gp 0), (33, dP gp 0), (34, dP gp 0), (35, dP gp 2), (36, dI p.high), (37, dP gp 0), (38, dP gp 0), (39, dP gp 1), (40, dI (p.now + n)), (41, dI (max p.high (p.now + n)))] rfl (za rfl rfl (zs rfl) (za rfl rfl (zh rfl fa_115_2 rfl) (zi rfl rfl (zO (i := 0) (X' := .agg [dI p.room, dI (p.now + n), dI (max p.high (p.now + n))]) rfl rfl rfl (CellD.v rfl) Tryz.sizeOf3 rfl rfl rfl) ?_)))
      rintro _ _ ⟨rfl, rfl⟩
      refine OpsD.norm [.bx gp 115 (.agg [dI p.room, dI (p.now + n), dI (max p.high (p.now + n))])] rfl (zf rfl (ze (JD.keep [4] [(4, dB false)] rfl (zd _ _ rfl rfl rfl (zb rfl (za rfl rfl (zg rfl) (zf rfl (ze (zH rfl (PD.norm [.bx gp 115 (.agg [dI p.room, dI (p.now + n), dI (max p.high (p.now + n))])] rfl (PD.norm [.bx gp 115 (.agg [dI ((p.take n).room), dI ((p.take n).now), dI ((p.take n).high)])] (by rw [(zdr (p := p) (n := n) (by omega) (by omega)).2]) ?_)))))))))))
      exact zG Tryz.results103 (.cons (zah (zI rfl) (Cv.eq (congrArg (fun b => D.v (.bool b)) (zdr (p := p) (n := n) (by omega) (by omega)).1.symm))) .nil) rfl HSub.rfl' ⟨rfl, rfl⟩

set_option maxHeartbeats 4000000 in
set_option maxRecDepth 100000 in
theorem Give_c (gp : Nat) (p : PurseD) (n : Int) (hp : p.Ok) (hn : -1000000 ≤ n ∧ n ≤ 1000000) :
    CD Tryz.prog 142 [.bx gp 115 (.agg [dI p.room, dI p.now, dI p.high])] [dP gp 0, dI n] (fun r H' => r = dB (p.gives n) ∧ H' = [.bx gp 115 (.agg [dI ((p.give n).room), dI ((p.give n).now), dI ((p.give n).high)])]) := by
  refine zA Tryz.func142 rfl (N := 27) rfl rfl (fun C => ?_)
  refine JD.keep [0, 1] [(0, dP gp 0), (1, dI n)] rfl ?_
  have hn0 := hp.n0
  have hnh := hp.nh
  have hhr := hp.hr
  have hrm := hp.rm
  refine zd _ _ rfl rfl rfl (zb rfl (za rfl rfl (zg rfl) (zf rfl (ze (zd _ _ rfl rfl rfl (zd _ _ rfl rfl rfl (JD.keep [0, 1, 4] [(0, dP gp 0), (1, dI n), (4, dB false)] rfl ?_)))))))
  refine zbf 18 ((decide (n < (0 : Int)) || decide (p.now < n))) [.bx gp 115 (.agg [dI p.room, dI p.now, dI p.high])] (fun _ hQ1 => ?_) ?_
  · skip
    by_cases hg2 : n < (0 : Int)
    · skip
      refine zb rfl (za rfl rfl (zc rfl) (za rfl rfl (zdN (r := .bool false) rfl rfl (zcv _ _ _)) (za rfl rfl (zc rfl) (zj rfl rfl rfl rfl rfl (zc rfl) (zj rfl rfl rfl rfl rfl (zU rfl rfl (decide_eq_true hg2)) (za rfl rfl (zS rfl rfl) (za rfl rfl (zc rfl) (zn rfl rfl rfl rfl rfl (by decide) (zn rfl rfl rfl rfl rfl (by decide) (zn rfl rfl rfl rfl rfl (by decide) (zn rfl rfl rfl rfl rfl (by decide) (zn rfl rfl rfl rfl rfl (by decide) (zn rfl rfl rfl rfl rfl (by decide) (za rfl rfl (zF rfl rfl) (zf rfl ?_)))))))))))))))
      exact PD.sub ((18, dB (decide (n < (0 : Int)) || decide (p.now < n))) :: [(0, dP gp 0), (1, dI n), (4, dB false)]) ⟨sc rfl (Cv.eq (congrArg (fun b => D.v (.bool b)) (by first | (simp [hg2]; done) | (simp_all; done)))), sk rfl, sk rfl, sk rfl, trivial⟩ hQ1
    · skip
      refine zb rfl (za rfl rfl (zc rfl) (za rfl rfl (zdN (r := .bool false) rfl rfl (zcv _ _ _)) (za rfl rfl (zc rfl) (zj rfl rfl rfl rfl rfl (zc rfl) (zj rfl rfl rfl rfl rfl (zU rfl rfl (decide_eq_false hg2)) (za rfl rfl (zS rfl rfl) (za rfl rfl (zc rfl) (zj rfl rfl rfl rfl rfl (zc rfl) (zj rfl rfl rfl rfl rfl (zc rfl) (zj rfl rfl rfl rfl rfl (zs rfl) (zj rfl rfl rfl rfl rfl (zh rfl zct rfl) (zj rfl rfl rfl rfl rfl (zm rfl (i := 0) rfl Tryz.isAgg3 rfl) (zj rfl rfl rfl rfl rfl (za4 rfl rfl rfl) (za rfl rfl (zS rfl rfl) (zf rfl ?_)))))))))))))))
      exact PD.sub ((18, dB (decide (n < (0 : Int)) || decide (p.now < n))) :: [(0, dP gp 0), (1, dI n), (4, dB false)]) ⟨sc rfl (Cv.eq (congrArg (fun b => D.v (.bool b)) (by first | (simp [hg2]; done) | (simp_all; done)))), sk rfl, sk rfl, sk rfl, trivial⟩ hQ1
  · skip
    refine ze ?_
    refine zy _ _ rfl rfl rfl rfl (fun hc3 => ?_) (fun hc3 => ?_)
    · simp only [Bool.and_eq_true, Bool.or_eq_true, Bool.not_eq_true', Bool.not_eq_false', Bool.and_eq_false_iff, Bool.or_eq_false_iff, decide_eq_true_eq, decide_eq_false_iff_not, Decidable.not_not, ne_eq] at hc3
      refine zd _ _ rfl rfl rfl (zb rfl (za rfl rfl (zg rfl) (zf rfl (ze (zH rfl (zL (PD.norm [.bx gp 115 (.agg [dI p.room, dI p.now, dI p.high])] rfl (PD.norm [.bx gp 115 (.agg [dI ((p.give n).room), dI ((p.give n).now), dI ((p.give n).high)])] (by rw [give_f (p := p) (n := n) (by omega)]) ?_))))))))
      exact zG Tryz.results142 (.cons (zah (zI rfl) (Cv.eq (congrArg (fun b => D.v (.bool b)) (gives_f (p := p) (n := n) (by omega)).symm))) .nil) rfl HSub.rfl' ⟨rfl, rfl⟩
    · simp only [Bool.and_eq_true, Bool.or_eq_true, Bool.not_eq_true', Bool.not_eq_false', Bool.and_eq_false_iff, Bool.or_eq_false_iff, decide_eq_true_eq, decide_eq_false_iff_not, Decidable.not_not, ne_eq] at hc3
      refine zD rfl (ze (zd _ _ rfl rfl rfl (zb rfl (za rfl rfl (zc rfl) (za rfl rfl (zs rfl) (za rfl rfl (zh rfl zct rfl) (za rfl rfl (zm rfl (i := 0) rfl Tryz.isAgg3 rfl) (za rfl rfl (zc rfl) (za rfl rfl (za6 (c := (p.now - n)) rfl rfl (zR (by omega) (by omega))) (za rfl rfl (zs rfl) (za rfl rfl (zh rfl zct rfl) (zi rfl rfl (zO (i := 0) (X' := .agg [dI p.room, dI (p.now - n), dI p.high]) rfl rfl rfl (CellD.v rfl) Tryz.sizeOf3 rfl rfl rfl) ?_))))))))))))
      rintro _ _ ⟨rfl, rfl⟩
      refine OpsD.norm [.bx gp 115 (.agg [dI p.room, dI (p.now - n), dI p.high])] rfl (zf rfl (ze (JD.keep [4] [(4, dB false)] rfl (zd _ _ rfl rfl rfl (zb rfl (za rfl rfl (zg rfl) (zf rfl (ze (zH rfl (PD.norm [.bx gp 115 (.agg [dI p.room, dI (p.now - n), dI p.high])] rfl (PD.norm [.bx gp 115 (.agg [dI ((p.give n).room), dI ((p.give n).now), dI ((p.give n).high)])] (by rw [give_t (p := p) (n := n) (by omega) (by omega)]) ?_)))))))))))
      exact zG Tryz.results142 (.cons (zah (zI rfl) (Cv.eq (congrArg (fun b => D.v (.bool b)) (gives_t (p := p) (n := n) (by omega) (by omega)).symm))) .nil) rfl HSub.rfl' ⟨rfl, rfl⟩

set_option maxHeartbeats 4000000 in
set_option maxRecDepth 100000 in
theorem High_c (gp : Nat) (p : PurseD)  :
    CD Tryz.prog 42 [.bx gp 115 (.agg [dI p.room, dI p.now, dI p.high])] [dP gp 0] (fun r H' => r = dI p.high ∧ H' = [.bx gp 115 (.agg [dI p.room, dI p.now, dI p.high])]) := by
  refine zA Tryz.func42 rfl (N := 9) rfl rfl (fun C => ?_)
  refine JD.keep [0] [(0, dP gp 0)] rfl (zd _ _ rfl rfl rfl (zb rfl (za rfl rfl (zg rfl) (zf rfl (ze (zd _ _ rfl rfl rfl (zd _ _ rfl rfl rfl (zb rfl (za rfl rfl (zc rfl) (za rfl rfl (zdN (r := .bool false) rfl rfl (zcv _ _ _)) (zf rfl (ze (zaw _ rfl rfl rfl (zD rfl (ze (zd _ _ rfl rfl rfl (zb rfl (za rfl rfl (zc rfl) (za rfl rfl (zs rfl) (za rfl rfl (zh rfl fa_115_2 rfl) (za rfl rfl (zm rfl (i := 0) rfl Tryz.isAgg3 rfl) (za rfl rfl (zg rfl) (zf rfl (ze (zH rfl ?_)))))))))))))))))))))))))
  exact zG Tryz.results42 (.cons (zI rfl) .nil) rfl (HSub.fst 1 rfl) ⟨rfl, rfl⟩
end Lp
