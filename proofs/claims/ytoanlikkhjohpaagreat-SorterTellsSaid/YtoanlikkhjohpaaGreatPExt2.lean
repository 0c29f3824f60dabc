/- Walks, printed by a program of mine. -/
import Derived.Test.YtoanlikkhjohpaaGreatV21
set_option linter.unusedSimpArgs false
set_option linter.unusedVariables false
namespace Lp
open Go Go.RowKit Go.Proofs

namespace HdYtoanlikkhjohpaaGreatV22
theorem zaF : ∃ i, Tryz.prog.info? 71 = some i ∧ i.zero = some (.agg #[(.slice none 0 0), (.int .i64 0)]) ∧ i.size = 2 ∧ i.bytes = 32 := zaR (by kernel_rfl)
theorem zaV : Tryz.prog.underlying 22 = some (.slice 71) := by kernel_rfl
end HdYtoanlikkhjohpaaGreatV22
open HdYtoanlikkhjohpaaGreatV22

set_option maxHeartbeats 4000000 in
set_option maxRecDepth 100000 in
theorem refSort_c (o : Int) (l : List RowD) (hl : l.length ≤ 1000000) :
    CD Tryz.prog 46 [] [dI o, .sh 2 (l.map RowD.d)] (zc2 2 71 ((zaH o l).map RowD.d)) := by
  refine zA Tryz.func46 rfl (N := 48) rfl rfl (fun C => ?_)
  refine JD.keep [0, 1] [(0, dI o), (1, .sh 2 (l.map RowD.d))] rfl ?_
  refine JD.bd 1 rfl (fun bd1 => ?_)
  have nl1 := zaB bd1
  refine zd _ _ rfl rfl rfl (zb rfl (za rfl rfl (zg rfl) (zf rfl (ze (zd _ _ rfl rfl rfl (zb rfl (za rfl rfl (zg rfl) (zf rfl (ze (zd _ _ rfl rfl rfl (zd _ _ rfl rfl rfl (zb rfl (za rfl rfl (zg rfl) (zf rfl (ze (zu _ rfl rfl (zM (fun (g : Nat × Value × List RowD) => [(0, dI o), (1, .sh 2 (l.map RowD.d)), (4, dZ), (6, dN g.1), (5, .ov g.2.1)]) (fun (g : Nat × Value × List RowD) => [.sl g.2.1 2 71 (g.2.2.map RowD.d)]) (fun (g : Nat × Value × List RowD) => (g.1 ≤ l.length) ∧ (g.2.2 = zaH o (l.take g.1))) (fun (g : Nat × Value × List RowD) => l.length - g.1) _ (0, .slice none 0 0, []) rfl rfl ⟨sk rfl, sk rfl, sk rfl, sk rfl, sc rfl (Cv.ov rfl), trivial⟩ (HSub.nil 2 71) ⟨Nat.zero_le _, rfl⟩ ?_)))))))))))))))))
  rintro ⟨i, ov, out⟩ ⟨hil, hso⟩
  replace hil : i ≤ l.length := hil
  replace hso : out = zaH o (l.take i) := hso
  refine JD.keep [0, 1, 4, 6, 5] [(0, dI o), (1, .sh 2 (l.map RowD.d)), (4, dZ), (6, dN i), (5, .ov ov)] rfl (JD.norm [.sl ov 2 71 (out.map RowD.d)] rfl ?_)
  have hol : out.length = i := by rw [hso, sortR_length, List.length_take]; omega
  refine zd _ _ rfl rfl rfl (zd _ _ rfl rfl rfl (zb rfl (za rfl rfl (zc rfl) (za rfl rfl (zc rfl) (za rfl rfl (zat (n := l.length) rfl Tryz.runUnderlying22 (by simp only [lm, lc, ln])) (za rfl rfl (zU rfl rfl rfl) (zf rfl (ze ?_))))))))
  refine zy _ _ rfl rfl rfl rfl (fun hc1 => ?_) (fun hc1 => ?_)
  · replace hc1 := of_decide_eq_true hc1
    obtain ⟨x1, hx1⟩ := zJ l i (by omega)
    refine zD rfl (ze (zd _ _ rfl rfl rfl (zu _ rfl rfl (zd _ _ rfl rfl rfl (zb rfl (za rfl rfl (zc rfl) (za rfl rfl (z8 (n := out.length) (j := 0) rfl rfl Tryz.runUnderlying22 (List.length_map _)) (za rfl rfl (zg rfl) (zf rfl (ze (zd _ _ rfl rfl rfl (zu _ rfl rfl ?_))))))))))))
    refine zM (fun (g : Nat) => [(0, dI o), (1, .sh 2 (l.map RowD.d)), (4, dZ), (5, .ov ov), (6, dN i), (8, dN i), (9, .sh 2 (l.map RowD.d)), (10, dN l.length), (11, dB (decide (((i : Nat) : Int) < ((l.length : Nat) : Int)))), (14, .ov ov), (15, dN out.length), (7, dN g)]) (fun (g : Nat) => [.sl ov 2 71 (out.map RowD.d)]) (fun (g : Nat) => (g ≤ out.length) ∧ (posR o x1 out out.length = posR o x1 out g)) (fun (g : Nat) => g) _ out.length rfl rfl ⟨sk rfl, sk rfl, sk rfl, sk rfl, sk rfl, sk rfl, sk rfl, sk rfl, sk rfl, sk rfl, sk rfl, sk rfl, trivial⟩ HSub.rfl' ⟨Nat.le_refl _, rfl⟩ ?_
    rintro k ⟨hko, hpk⟩
    refine JD.keep [0, 1, 4, 5, 6, 8, 9, 10, 11, 14, 15, 7] [(0, dI o), (1, .sh 2 (l.map RowD.d)), (4, dZ), (5, .ov ov), (6, dN i), (8, dN i), (9, .sh 2 (l.map RowD.d)), (10, dN l.length), (11, dB (decide (((i : Nat) : Int) < ((l.length : Nat) : Int)))), (14, .ov ov), (15, dN out.length), (7, dN k)] rfl (JD.norm [.sl ov 2 71 (out.map RowD.d)] rfl (zd _ _ rfl rfl rfl (zd _ _ rfl rfl rfl ?_)))
    by_cases hg2 : (0 : Int) < ((k : Nat) : Int)
    · skip
      refine JD.keep [0, 1, 4, 5, 6, 7, 8, 9, 10, 11, 14, 15] [(0, dI o), (1, .sh 2 (l.map RowD.d)), (4, dZ), (5, .ov ov), (6, dN i), (7, dN k), (8, dN i), (9, .sh 2 (l.map RowD.d)), (10, dN l.length), (11, dB (decide (((i : Nat) : Int) < ((l.length : Nat) : Int)))), (14, .ov ov), (15, dN out.length)] rfl (JD.norm [.sl ov 2 71 (out.map RowD.d)] rfl ?_)
      obtain ⟨x2, hx2⟩ := zJ out (k - 1) (by omega)
      refine z7 13 [(16, dN k, none), (17, dB true, none), (18, dB true, none), (19, dI o, none), (20, .sh 2 (l.map RowD.d), none), (21, dN i, none), (22, .el (RowD.d x1) 0, none), (23, RowD.d x1, none), (24, .ov ov, none), (25, dN k, none), (26, dN (k - 1), none), (27, .v (.pointer (some ⟨bl ov, (k - 1) * 2 + 0, none⟩)), none), (28, RowD.d x2, none)] [.sl ov 2 71 (out.map RowD.d)] (Hn := [.sl ov 2 71 (out.map RowD.d)]) zar rfl rfl rfl rfl HSub.rfl' rfl ⟨sa_p rfl rfl rfl (zc rfl), sa_p rfl rfl rfl (za4 rfl rfl (decide_eq_true hg2)), sa_p rfl rfl rfl (zc rfl), z6 rfl rfl rfl rfl rfl rfl (zc rfl).qu, z6 rfl rfl rfl rfl rfl rfl (zc rfl).qu, z6 rfl rfl rfl rfl rfl rfl (zc rfl).qu, z6 rfl rfl rfl rfl rfl rfl (zE (k := i) rfl rfl Tryz.runUnderlying22 Tryz.sizeOf71 (by first | rfl | omega) (zl hx1)).qu, z6 rfl rfl rfl rfl rfl rfl (zaj (d := RowD.d x1) rfl Tryz.isAgg71 Tryz.sizeOf71 rfl rfl).qu, z6 rfl rfl rfl rfl rfl rfl (zc rfl).qu, z6 rfl rfl rfl rfl rfl rfl (zc rfl).qu, z6 rfl rfl rfl rfl rfl rfl (za6 (c := ((k - 1 : Nat) : Int)) rfl rfl (zR (by omega) (by omega))).qu, z6 rfl rfl rfl rfl rfl rfl (zo (k := k - 1) (j := 0) rfl rfl rfl Tryz.runUnderlying22 Tryz.sizeOf71 (by first | rfl | omega) (zl hx2)).qu, z6 rfl rfl rfl rfl rfl rfl (zaG (d := RowD.d x2) rfl (i := 0) rfl (zl hx2) Tryz.isAgg71 Tryz.sizeOf71 rfl rfl).qu, trivial⟩ ?_
      refine OpsD.keep [0, 1, 4, 5, 6, 7, 8, 9, 10, 11, 14, 15, 16, 17, 18, 19, 20, 21, 22, 23, 24, 25, 26, 27, 28] [(0, dI o), (1, .sh 2 (l.map RowD.d)), (4, dZ), (5, .ov ov), (6, dN i), (7, dN k), (8, dN i), (9, .sh 2 (l.map RowD.d)), (10, dN l.length), (11, dB (decide (((i : Nat) : Int) < ((l.length : Nat) : Int)))), (14, .ov ov), (15, dN out.length), (16, dN k), (17, dB true), (18, dB true), (19, dI o), (20, .sh 2 (l.map RowD.d)), (21, dN i), (22, .el (RowD.d x1) 0), (23, RowD.d x1), (24, .ov ov), (25, dN k), (26, dN (k - 1)), (27, .v (.pointer (some ⟨bl ov, (k - 1) * 2 + 0, none⟩))), (28, RowD.d x2)] rfl (zaI rfl rfl rfl rfl rfl (zx [] _ [] rfl rfl (.cons ArgC.id (.cons ArgC.id (.cons ArgC.id .nil))) zr Tryz.call107 (refLess_c o x1 x2) (.inl rfl)) ?_)
      rintro _ _ ⟨_, ⟨rfl, rfl⟩, rfl⟩
      refine OpsD.norm [.sl ov 2 71 (out.map RowD.d)] rfl (za rfl rfl (zF rfl rfl) (zf rfl (ze ?_)))
      refine zy _ _ rfl rfl rfl rfl (fun hc3 => ?_) (fun hc3 => ?_)
      · skip
        refine zD rfl (ze (zu _ rfl rfl (zb rfl (za rfl rfl (zc rfl) (za rfl rfl (za6 (c := ((k - 1 : Nat) : Int)) rfl rfl (zR (by omega) (by omega))) (za rfl rfl (zg rfl) (zf rfl (zP ?_))))))))
        exact zW (k - 1) ⟨sk rfl, sk rfl, sk rfl, sk rfl, sk rfl, sk rfl, sk rfl, sk rfl, sk rfl, sk rfl, sk rfl, sk rfl, trivial⟩ HSub.rfl' ⟨by show k - 1 ≤ out.length; omega, by rw [hpk]; exact posR_next hx2 (by omega) (by omega) hc3⟩ (by omega)
      · skip
        have hpos : posR o x1 out out.length = k := by rw [hpk]; exact posR_stop hx2 (by omega) hc3
        refine zN rfl (zw (zt (zq (ze (JD.keep [0, 1, 4, 5, 6, 7, 8, 9, 10, 11, 14, 15, 16, 17, 18, 19, 20, 21, 22, 23, 24, 25, 26, 27, 28, 29, 30] [(0, dI o), (1, .sh 2 (l.map RowD.d)), (4, dZ), (5, .ov ov), (6, dN i), (7, dN k), (8, dN i), (9, .sh 2 (l.map RowD.d)), (10, dN l.length), (11, dB (decide (((i : Nat) : Int) < ((l.length : Nat) : Int)))), (14, .ov ov), (15, dN out.length), (16, dN k), (17, dB true), (18, dB true), (19, dI o), (20, .sh 2 (l.map RowD.d)), (21, dN i), (22, .el (RowD.d x1) 0), (23, RowD.d x1), (24, .ov ov), (25, dN k), (26, dN (k - 1)), (27, .v (.pointer (some ⟨bl ov, (k - 1) * 2 + 0, none⟩))), (28, RowD.d x2), (29, dB (less o x1 x2)), (30, dB (less o x1 x2))] rfl (JD.norm [.sl ov 2 71 (out.map RowD.d)] rfl ?_))))))
        refine zbD 13 [(33, .q (.ov ov)), (34, .q (dN k)), (35, .q (.v (cut 2 ov 0 k))), (36, .o (fun γ => [.sl (γ 3) 2 71 (((out.take k).drop 0).map RowD.d), .sl ov 2 71 (out.map RowD.d)])), (37, .q (.sh 2 (l.map RowD.d))), (38, .q (dN i)), (39, .q (.el (RowD.d x1) 0)), (40, .q (RowD.d x1)), (41, .q (.sh 2 ([x1].map RowD.d))), (42, .o (fun γ => [.sl (γ 9) 2 71 ((((out.take k).drop 0) ++ [x1]).map RowD.d), .sl ov 2 71 (out.map RowD.d)])), (43, .q (.ov ov)), (44, .q (dN k)), (45, .q (.v (cut 2 ov k out.length)))] [.sl ov 2 71 (out.map RowD.d)] (Hn := fun γ => [.sl (γ 9) 2 71 ((((out.take k).drop 0) ++ [x1]).map RowD.d), .sl ov 2 71 (out.map RowD.d)]) zar rfl rfl (by kernel_rfl) (by kernel_rfl) (by kernel_rfl) HSub.rfl' (fun _ => rfl) (fun γ => ⟨so_p rfl rfl rfl (zc rfl), so_p rfl rfl rfl (zc rfl), so_p rfl rfl rfl (zca (a := 0) (b := k) (j := 0) rfl rfl rfl rfl (by first | rfl | (show _ = _; (try simp only [lm]); omega) | exact List.length_map _) (by first | rfl | (show _ = _; (try simp only [lm]); omega) | exact List.length_map _) Tryz.runUnderlying22 Tryz.sizeOf71 (by omega) (by (try simp only [lm, la, lc, ln]); first | omega | decide)), so_o rfl rfl rfl rfl ((zbj (f := RowD.d) (l' := ((out.take k).drop 0)) rfl rfl ((by rw [List.map_drop, List.map_take]; exact SrcD.cut (j := 1) rfl (by omega) (by (try simp only [lm]); omega))) zaV zaF rfl rfl (by unfold maxLen; (try simp only [la, lc, ln, lm, lt', ld, ls, lr]); omega) (by (try simp only [la, lc, ln, lm, lt', ld, ls, lr]); omega)).mono (by rintro _ _ ⟨v, rfl, rfl⟩; exact ⟨v, rfl, rfl⟩)) (fun _ => HSub.lst 1 rfl), so_p rfl rfl rfl (zc rfl), so_p rfl rfl rfl (zc rfl), so_p rfl rfl rfl (zE (k := i) rfl rfl Tryz.runUnderlying22 Tryz.sizeOf71 (by first | rfl | omega) (zl hx1)), so_p rfl rfl rfl (zaj (d := RowD.d x1) rfl Tryz.isAgg71 Tryz.sizeOf71 rfl rfl), so_q rfl rfl rfl (zaT [.tmp 40] rfl rfl (.cons CellD.agg .nil) rfl Tryz.runUnderlying22 Tryz.sizeOf71 Tryz.zeroValue71 rfl rfl rfl rfl), so_o rfl rfl rfl rfl ((zal (f := RowD.d) (l := ((out.take k).drop 0)) (l' := [x1]) (i := 0) rfl rfl rfl (SrcD.sh) zaV zaF rfl rfl (by unfold maxLen; (try simp only [la, lc, ln, lm, lt', ld, ls, lr]); omega) (by (try simp only [la, lc, ln, lm, lt', ld, ls, lr]); omega)).mono (by rintro _ _ ⟨v, rfl, rfl⟩; exact ⟨v, rfl, rfl⟩)) (fun _ => HSub.lst 1 rfl), so_p rfl rfl rfl (zc rfl), so_p rfl rfl rfl (zc rfl), so_p rfl rfl rfl (zca (a := k) (b := out.length) (j := 0) rfl rfl rfl rfl (by first | rfl | (show _ = _; (try simp only [lm]); omega) | exact List.length_map _) (by first | rfl | (show _ = _; (try simp only [lm]); omega) | exact List.length_map _) Tryz.runUnderlying22 Tryz.sizeOf71 (by omega) (by (try simp only [lm, la, lc, ln]); first | omega | decide)), trivial⟩) (fun γ => ?_)
        refine OpsD.keep [0, 1, 4, 5, 6, 7, 8, 9, 10, 11, 14, 15, 16, 17, 18, 19, 20, 21, 22, 23, 24, 25, 26, 27, 28, 29, 30, 33, 34, 35, 36, 37, 38, 39, 40, 41, 42, 43, 44, 45] [(0, dI o), (1, .sh 2 (l.map RowD.d)), (4, dZ), (5, .ov ov), (6, dN i), (7, dN k), (8, dN i), (9, .sh 2 (l.map RowD.d)), (10, dN l.length), (11, dB (decide (((i : Nat) : Int) < ((l.length : Nat) : Int)))), (14, .ov ov), (15, dN out.length), (16, dN k), (17, dB true), (18, dB true), (19, dI o), (20, .sh 2 (l.map RowD.d)), (21, dN i), (22, .el (RowD.d x1) 0), (23, RowD.d x1), (24, .ov ov), (25, dN k), (26, dN (k - 1)), (27, .v (.pointer (some ⟨bl ov, (k - 1) * 2 + 0, none⟩))), (28, RowD.d x2), (29, dB (less o x1 x2)), (30, dB (less o x1 x2)), (33, .ov ov), (34, dN k), (35, .v (cut 2 ov 0 k)), (36, .ov (γ 3)), (37, .sh 2 (l.map RowD.d)), (38, dN i), (39, .el (RowD.d x1) 0), (40, RowD.d x1), (41, .sh 2 ([x1].map RowD.d)), (42, .ov (γ 9)), (43, .ov ov), (44, dN k), (45, .v (cut 2 ov k out.length))] rfl ?_
        refine zi rfl rfl (zal (f := RowD.d) (l := (((out.take k).drop 0) ++ [x1])) (l' := ((out.take out.length).drop k)) (i := 0) rfl rfl rfl ((by rw [List.map_drop, List.map_take]; exact SrcD.cut (j := 1) rfl (by omega) (by (try simp only [lm]); omega))) zaV zaF rfl rfl (by unfold maxLen; (try simp only [la, lc, ln, lm, lt', ld, ls, lr]); omega) (by (try simp only [la, lc, ln, lm, lt', ld, ls, lr]); omega)) ?_
        rintro _ _ ⟨v4, rfl, rfl⟩
        refine OpsD.norm [.sl v4 2 71 (((((out.take k).drop 0) ++ [x1]) ++ ((out.take out.length).drop k)).map RowD.d), .sl ov 2 71 (out.map RowD.d)] rfl (za rfl rfl (zg rfl) (zf rfl (zP (ze (zb rfl (za rfl rfl (zc rfl) (za rfl rfl (z5 (c := ((i + 1 : Nat) : Int)) rfl rfl (zR (by omega) (by omega))) (za rfl rfl (zg rfl) (zf rfl (PD.subH (HSub.fst 1 rfl) (PD.norm [.sl v4 2 71 (((((out.take k).drop 0) ++ [x1]) ++ ((out.take out.length).drop k)).map RowD.d)] rfl ?_)))))))))))
        exact zW (i + 1, v4, ((((out.take k).drop 0) ++ [x1]) ++ ((out.take out.length).drop k))) ⟨sk rfl, sk rfl, sk rfl, sk rfl, sk rfl, trivial⟩ HSub.rfl' ⟨by show i + 1 ≤ l.length; omega, by show _ = zaH o (l.take (i + 1)); exact sort_eq hx1 hso hpos⟩ (by omega)
    · skip
      refine JD.keep [0, 1, 4, 5, 6, 7, 8, 9, 10, 11, 14, 15] [(0, dI o), (1, .sh 2 (l.map RowD.d)), (4, dZ), (5, .ov ov), (6, dN i), (7, dN k), (8, dN i), (9, .sh 2 (l.map RowD.d)), (10, dN l.length), (11, dB (decide (((i : Nat) : Int) < ((l.length : Nat) : Int)))), (14, .ov ov), (15, dN out.length)] rfl (JD.norm [.sl ov 2 71 (out.map RowD.d)] rfl ?_)
      refine z7 13 [(16, dN k, none), (17, dB false, none), (18, dB false, none), (19, .v undef, none), (20, .v undef, none), (21, .v undef, none), (22, .v undef, none), (23, .v undef, none), (24, .v undef, none), (25, .v undef, none), (26, .v undef, none), (27, .v undef, none), (28, .v undef, none)] [.sl ov 2 71 (out.map RowD.d)] (Hn := [.sl ov 2 71 (out.map RowD.d)]) zar rfl rfl rfl rfl HSub.rfl' rfl ⟨sa_p rfl rfl rfl (zc rfl), sa_p rfl rfl rfl (za4 rfl rfl (decide_eq_false hg2)), sa_p rfl rfl rfl (zc rfl), sa_s rfl rfl rfl rfl rfl rfl (by decide), sa_s rfl rfl rfl rfl rfl rfl (by decide), sa_s rfl rfl rfl rfl rfl rfl (by decide), sa_s rfl rfl rfl rfl rfl rfl (by decide), sa_s rfl rfl rfl rfl rfl rfl (by decide), sa_s rfl rfl rfl rfl rfl rfl (by decide), sa_s rfl rfl rfl rfl rfl rfl (by decide), sa_s rfl rfl rfl rfl rfl rfl (by decide), sa_s rfl rfl rfl rfl rfl rfl (by decide), sa_s rfl rfl rfl rfl rfl rfl (by decide), trivial⟩ ?_
      refine OpsD.keep [0, 1, 4, 5, 6, 7, 8, 9, 10, 11, 14, 15, 16, 17, 18, 19, 20, 21, 22, 23, 24, 25, 26, 27, 28] [(0, dI o), (1, .sh 2 (l.map RowD.d)), (4, dZ), (5, .ov ov), (6, dN i), (7, dN k), (8, dN i), (9, .sh 2 (l.map RowD.d)), (10, dN l.length), (11, dB (decide (((i : Nat) : Int) < ((l.length : Nat) : Int)))), (14, .ov ov), (15, dN out.length), (16, dN k), (17, dB false), (18, dB false), (19, .v undef), (20, .v undef), (21, .v undef), (22, .v undef), (23, .v undef), (24, .v undef), (25, .v undef), (26, .v undef), (27, .v undef), (28, .v undef)] rfl (zn rfl rfl rfl rfl rfl (by decide) (za rfl rfl (zS rfl rfl) (zf rfl (ze ?_))))
      have hpos : posR o x1 out out.length = k := by rw [hpk, show k = 0 by omega]; rfl
      refine zaw _ rfl rfl rfl (zN rfl (zw (zt (zq (ze (JD.keep [0, 1, 4, 5, 6, 7, 8, 9, 10, 11, 14, 15, 16, 17, 18, 19, 20, 21, 22, 23, 24, 25, 26, 27, 28, 29, 30] [(0, dI o), (1, .sh 2 (l.map RowD.d)), (4, dZ), (5, .ov ov), (6, dN i), (7, dN k), (8, dN i), (9, .sh 2 (l.map RowD.d)), (10, dN l.length), (11, dB (decide (((i : Nat) : Int) < ((l.length : Nat) : Int)))), (14, .ov ov), (15, dN out.length), (16, dN k), (17, dB false), (18, dB false), (19, .v undef), (20, .v undef), (21, .v undef), (22, .v undef), (23, .v undef), (24, .v undef), (25, .v undef), (26, .v undef), (27, .v undef), (28, .v undef), (29, .v undef), (30, dB false)] rfl (JD.norm [.sl ov 2 71 (out.map RowD.d)] rfl ?_)))))))
      refine zbD 13 [(33, .q (.ov ov)), (34, .q (dN k)), (35, .q (.v (cut 2 ov 0 k))), (36, .o (fun γ => [.sl (γ 3) 2 71 (((out.take k).drop 0).map RowD.d), .sl ov 2 71 (out.map RowD.d)])), (37, .q (.sh 2 (l.map RowD.d))), (38, .q (dN i)), (39, .q (.el (RowD.d x1) 0)), (40, .q (RowD.d x1)), (41, .q (.sh 2 ([x1].map RowD.d))), (42, .o (fun γ => [.sl (γ 9) 2 71 ((((out.take k).drop 0) ++ [x1]).map RowD.d), .sl ov 2 71 (out.map RowD.d)])), (43, .q (.ov ov)), (44, .q (dN k)), (45, .q (.v (cut 2 ov k out.length)))] [.sl ov 2 71 (out.map RowD.d)] (Hn := fun γ => [.sl (γ 9) 2 71 ((((out.take k).drop 0) ++ [x1]).map RowD.d), .sl ov 2 71 (out.map RowD.d)]) zar rfl rfl (by kernel_rfl) (by kernel_rfl) (by kernel_rfl) HSub.rfl' (fun _ => rfl) (fun γ => ⟨so_p rfl rfl rfl (zc rfl), so_p rfl rfl rfl (zc rfl), so_p rfl rfl rfl (zca (a := 0) (b := k) (j := 0) rfl rfl rfl rfl (by first | rfl | (show _ = _; (try simp only [lm]); omega) | exact List.length_map _) (by first | rfl | (show _ = _; (try simp only [lm]); omega) | exact List.length_map _) Tryz.runUnderlying22 Tryz.sizeOf71 (by omega) (by (try simp only [lm, la, lc, ln]); first | omega | decide)), so_o rfl rfl rfl rfl ((zbj (f := RowD.d) (l' := ((out.take k).drop 0)) rfl rfl ((by rw [List.map_drop, List.map_take]; exact SrcD.cut (j := 1) rfl (by omega) (by (try simp only [lm]); omega))) zaV zaF rfl rfl (by unfold maxLen; (try simp only [la, lc, ln, lm, lt', ld, ls, lr]); omega) (by (try simp only [la, lc, ln, lm, lt', ld, ls, lr]); omega)).mono (by rintro _ _ ⟨v, rfl, rfl⟩; exact ⟨v, rfl, rfl⟩)) (fun _ => HSub.lst 1 rfl), so_p rfl rfl rfl (zc rfl), so_p rfl rfl rfl (zc rfl), so_p rfl rfl rfl (zE (k := i) rfl rfl Tryz.runUnderlying22 Tryz.sizeOf71 (by first | rfl | omega) (zl hx1)), so_p rfl rfl rfl (zaj (d := RowD.d x1) rfl Tryz.isAgg71 Tryz.sizeOf71 rfl rfl), so_q rfl rfl rfl (zaT [.tmp 40] rfl rfl (.cons CellD.agg .nil) rfl Tryz.runUnderlying22 Tryz.sizeOf71 Tryz.zeroValue71 rfl rfl rfl rfl), so_o rfl rfl rfl rfl ((zal (f := RowD.d) (l := ((out.take k).drop 0)) (l' := [x1]) (i := 0) rfl rfl rfl (SrcD.sh) zaV zaF rfl rfl (by unfold maxLen; (try simp only [la, lc, ln, lm, lt', ld, ls, lr]); omega) (by (try simp only [la, lc, ln, lm, lt', ld, ls, lr]); omega)).mono (by rintro _ _ ⟨v, rfl, rfl⟩; exact ⟨v, rfl, rfl⟩)) (fun _ => HSub.lst 1 rfl), so_p rfl rfl rfl (zc rfl), so_p rfl rfl rfl (zc rfl), so_p rfl rfl rfl (zca (a := k) (b := out.length) (j := 0) rfl rfl rfl rfl (by first | rfl | (show _ = _; (try simp only [lm]); omega) | exact List.length_map _) (by first | rfl | (show _ = _; (try simp only [lm]); omega) | exact List.length_map _) Tryz.runUnderlying22 Tryz.sizeOf71 (by omega) (by (try simp only [lm, la, lc, ln]); first | omega | decide)), trivial⟩) (fun γ => ?_)
      refine OpsD.keep [0, 1, 4, 5, 6, 7, 8, 9, 10, 11, 14, 15, 16, 17, 18, 19, 20, 21, 22, 23, 24, 25, 26, 27, 28, 29, 30, 33, 34, 35, 36, 37, 38, 39, 40, 41, 42, 43, 44, 45] [(0, dI o), (1, .sh 2 (l.map RowD.d)), (4, dZ), (5, .ov ov), (6, dN i), (7, dN k), (8, dN i), (9, .sh 2 (l.map RowD.d)), (10, dN l.length), (11, dB (decide (((i : Nat) : Int) < ((l.length : Nat) : Int)))), (14, .ov ov), (15, dN out.length), (16, dN k), (17, dB false), (18, dB false), (19, .v undef), (20, .v undef), (21, .v undef), (22, .v undef), (23, .v undef), (24, .v undef), (25, .v undef), (26, .v undef), (27, .v undef), (28, .v undef), (29, .v undef), (30, dB false), (33, .ov ov), (34, dN k), (35, .v (cut 2 ov 0 k)), (36, .ov (γ 3)), (37, .sh 2 (l.map RowD.d)), (38, dN i), (39, .el (RowD.d x1) 0), (40, RowD.d x1), (41, .sh 2 ([x1].map RowD.d)), (42, .ov (γ 9)), (43, .ov ov), (44, dN k), (45, .v (cut 2 ov k out.length))] rfl ?_
      refine zi rfl rfl (zal (f := RowD.d) (l := (((out.take k).drop 0) ++ [x1])) (l' := ((out.take out.length).drop k)) (i := 0) rfl rfl rfl ((by rw [List.map_drop, List.map_take]; exact SrcD.cut (j := 1) rfl (by omega) (by (try simp only [lm]); omega))) zaV zaF rfl rfl (by unfold maxLen; (try simp only [la, lc, ln, lm, lt', ld, ls, lr]); omega) (by (try simp only [la, lc, ln, lm, lt', ld, ls, lr]); omega)) ?_
      rintro _ _ ⟨v5, rfl, rfl⟩
      refine OpsD.norm [.sl v5 2 71 (((((out.take k).drop 0) ++ [x1]) ++ ((out.take out.length).drop k)).map RowD.d), .sl ov 2 71 (out.map RowD.d)] rfl (za rfl rfl (zg rfl) (zf rfl (zP (ze (zb rfl (za rfl rfl (zc rfl) (za rfl rfl (z5 (c := ((i + 1 : Nat) : Int)) rfl rfl (zR (by omega) (by omega))) (za rfl rfl (zg rfl) (zf rfl (PD.subH (HSub.fst 1 rfl) (PD.norm [.sl v5 2 71 (((((out.take k).drop 0) ++ [x1]) ++ ((out.take out.length).drop k)).map RowD.d)] rfl ?_)))))))))))
      exact zW (i + 1, v5, ((((out.take k).drop 0) ++ [x1]) ++ ((out.take out.length).drop k))) ⟨sk rfl, sk rfl, sk rfl, sk rfl, sk rfl, trivial⟩ HSub.rfl' ⟨by show i + 1 ≤ l.length; omega, by show _ = zaH o (l.take (i + 1)); exact sort_eq hx1 hso hpos⟩ (by omega)
  · replace hc1 := of_decide_eq_false hc1
    refine zN rfl (zw (zt (zq (ze (zd _ _ rfl rfl rfl (zb rfl (za rfl rfl (zc rfl) (za rfl rfl (zg rfl) (zf rfl (ze (JD.keep [4] [(4, .ov ov)] rfl (zH rfl (PD.subH (HSub.less (zb5 (i := 0) rfl)) (PD.subH (HSub.turn (h' := .sl ov 2 71 ((zaH o l).map RowD.d)) rfl (Hp.eq_sl (show List.map RowD.d out = List.map RowD.d (zaH o l) from congrArg _ (by rw [hso, List.take_of_length_le (by omega)])))) ?_))))))))))))))
    exact zbr Tryz.results46 (.cons (zI rfl) .nil) rfl ⟨_, rfl, rfl⟩
end Lp
/-
  What is in use while runs are merged: the costs of the rows at hand.
-/
set_option linter.unusedVariables false
namespace Lp
open Go
def hdC : List RowD → Int
  | [] => 0
  | r :: _ => zp r
def zad (L : LLs) : Int := (L.map hdC).sum
theorem sum_set : ∀ {L : List Int} {m : Nat} {a b : Int}, L[m]? = some a → (L.set m b).sum = L.sum - a + b
  | [], _, _, _, h => by simp at h
  | x :: r, 0, a, b, h => by
    have : x = a := by simpa using h
    subst this; simp only [List.set_cons_zero, List.sum_cons]; omega
  | x :: r, m + 1, a, b, h => by
    have := sum_set (L := r) (m := m) (a := a) (b := b) (by simpa using h)
    simp only [List.set_cons_succ, List.sum_cons]; omega
theorem sum_ge : ∀ {L : List Int} {m : Nat} {a : Int}, (∀ x ∈ L, 0 ≤ x) → L[m]? = some a → a ≤ L.sum
  | [], _, _, _, h => by simp at h
  | x :: r, 0, a, h0, h => by
    have : x = a := by simpa using h
    subst this
    have hr : 0 ≤ r.sum := by
      have h1 : ∀ y ∈ r, 0 ≤ y := fun y hy => h0 y (List.mem_cons_of_mem _ hy)
      clear h h0
      induction r with
      | nil => simp
      | cons y t ih =>
        have := h1 y List.mem_cons_self
        have := ih (fun z hz => h1 z (List.mem_cons_of_mem _ hz))
        simp only [List.sum_cons]; omega
    simp only [List.sum_cons]; omega
  | x :: r, m + 1, a, h0, h => by
    have := sum_ge (L := r) (m := m) (a := a) (fun y hy => h0 y (List.mem_cons_of_mem _ hy)) (by simpa using h)
    have := h0 x List.mem_cons_self
    simp only [List.sum_cons]; omega
theorem hdC_drop {z : List RowD} {q : Nat} {u : RowD} (h : z[q]? = some u) : hdC (z.drop q) = zp u := by rw [zax h]; rfl
theorem hdC_end {z : List RowD} {q : Nat} (h : z.length ≤ q) : hdC (z.drop q) = 0 := by rw [List.drop_eq_nil_of_le h]; rfl
theorem headC_step {ll : LLs} {c : List Nat} {m q : Nat} {z : List RowD} {u : RowD} (hz : ll[m]? = some z) (hq : c[m]? = some q) (hu : z[q]? = some u) :
    zad (rest ll (c.set m (q + 1))) = zad (rest ll c) - zp u + hdC (z.drop (q + 1)) := by
  have hg : (rest ll c)[m]? = some (z.drop q) := zcG hz hq
  rw [← zcY hz hq]
  unfold pop zad
  rw [List.map_set]
  have e : (rest ll c).getD m [] = z.drop q := by rw [List.getD_eq_getElem?_getD, hg]; rfl
  rw [e, List.drop_drop, sum_set (a := zp u) (by rw [List.getElem?_map, hg, Option.map_some, hdC_drop hu])]
theorem headC_ge {ll : LLs} {c : List Nat} {m q : Nat} {z : List RowD} {u : RowD} (hl : ∀ x ∈ ll, z9 x) (hz : ll[m]? = some z) (hq : c[m]? = some q) (hu : z[q]? = some u) : zp u ≤ zad (rest ll c) := by
  have hg : (rest ll c)[m]? = some (z.drop q) := zcG hz hq
  unfold zad
  refine sum_ge (m := m) (fun x hx => ?_) (by rw [List.getElem?_map, hg, Option.map_some, hdC_drop hu])
  obtain ⟨y, hy, rfl⟩ := List.mem_map.1 hx
  obtain ⟨i, hi⟩ := List.mem_iff_getElem?.1 hy
  unfold rest at hi
  rw [List.getElem?_zipWith] at hi
  cases e1 : ll[i]? with
  | none => rw [e1] at hi; simp at hi
  | some a =>
    cases e2 : c[i]? with
    | none => rw [e1, e2] at hi; simp at hi
    | some b =>
      rw [e1, e2] at hi
      have hb : a.drop b = y := by simpa using hi
      cases y with
      | nil => exact Int.le_refl _
      | cons r t => exact Int.le_trans (by omega) (zaP (hl a (List.mem_of_getElem? e1) r (List.mem_of_mem_drop (by rw [hb]; exact List.mem_cons_self)))).1
/-- one row is merged: what is in use is the cost of the rows at hand -/
theorem step1_use {ll : LLs} {c : List Nat} {m q : Nat} {z : List RowD} {u : RowD} {p : PurseD} (hl : ∀ x ∈ ll, z9 x) (hz : ll[m]? = some z) (hq : c[m]? = some q) (hu : z[q]? = some u) (hp : p.Ok)
    (hn : p.now = zad (rest ll c)) (hr : zad (rest ll (c.set m (q + 1))) ≤ p.room) :
    (zbs ll m c p).now = zad (rest ll (c.set m (q + 1))) ∧ (zbs ll m c p).high = max p.high (zad (rest ll (c.set m (q + 1)))) := by
  have hst := headC_step hz hq hu
  have hge := headC_ge hl hz hq hu
  have hcu := zaP (hl z (List.mem_of_getElem? hz) u (List.mem_of_getElem? hu))
  have hh := hp.nh
  have hg := give_t (p := p) (n := zp u) (by omega) (by omega)
  rcases Nat.lt_or_ge (q + 1) z.length with hlt | hge2
  · obtain ⟨v, hv⟩ := zJ z (q + 1) hlt
    have hcv := zaP (hl z (List.mem_of_getElem? hz) v (List.mem_of_getElem? hv))
    rw [hdC_drop hv] at hst
    rw [step1_t hz hq hu hv, hg, (zdr (p := ⟨p.room, p.now - zp u, p.high⟩) (n := zp v) (by omega) (by show ¬ p.room - (p.now - zp u) < _; omega)).2]
    refine ⟨by show p.now - zp u + zp v = _; omega, ?_⟩
    show max p.high (p.now - zp u + zp v) = _
    congr 1; omega
  · rw [hdC_end hge2] at hst
    rw [step1_f hz hq hu (by omega), hg]
    refine ⟨by show p.now - zp u = _; omega, ?_⟩
    show p.high = _
    omega
theorem headC_nonneg {L : LLs} (h : ∀ x ∈ L, z9 x) : 0 ≤ zad L := by
  unfold zad
  induction L with
  | nil => simp
  | cons x r ih =>
    have h1 := ih (fun y hy => h y (List.mem_cons_of_mem _ hy))
    have h2 : 0 ≤ hdC x := by
      cases x with
      | nil => exact Int.le_refl _
      | cons a t => exact Int.le_trans (by omega) (zaP (h _ List.mem_cons_self a List.mem_cons_self)).1
    simp only [List.map_cons, List.sum_cons]; omega
/-- the first row of each list is taken -/
theorem firsts_use : ∀ {ll : LLs} {p : PurseD}, p.Ok → (∀ x ∈ ll, z9 x ∧ 0 < x.length) → p.now + zad ll ≤ p.room →
    (z4 p ll).now = p.now + zad ll ∧ (z4 p ll).high = max p.high (p.now + zad ll) ∧ (z4 p ll).room = p.room
  | [], p, hp, _, _ => by
    have := hp.nh
    refine ⟨by show p.now = p.now + 0; omega, by show p.high = max p.high (p.now + 0); omega, rfl⟩
  | x :: r, p, hp, h, hr => by
    have hx := h x List.mem_cons_self
    have hrr : ∀ y ∈ r, z9 y ∧ 0 < y.length := fun y hy => h y (List.mem_cons_of_mem _ hy)
    have hn := headC_nonneg (L := r) (fun y hy => (hrr y hy).1)
    obtain ⟨a, t, rfl⟩ : ∃ a t, x = a :: t := by cases x with
      | nil => simp at hx
      | cons a t => exact ⟨a, t, rfl⟩
    have hc := zaP (hx.1 a List.mem_cons_self)
    have e : zad ((a :: t) :: r) = zp a + zad r := by unfold zad; simp only [List.map_cons, List.sum_cons]; rfl
    rw [e] at hr ⊢
    have ht := (zdr (p := p) (n := zp a) (by omega) (by omega)).2
    have hok := (hp.take (zp a)).1
    show (z4 (p.take (zp a)) r).now = _ ∧ (z4 (p.take (zp a)) r).high = _ ∧ (z4 (p.take (zp a)) r).room = _
    rw [ht] at hok ⊢
    obtain ⟨i1, i2, i3⟩ := firsts_use hok hrr (by show p.now + zp a + zad r ≤ p.room; omega)
    refine ⟨by rw [i1]; show p.now + zp a + zad r = _; omega, by rw [i2]; show max (max p.high (p.now + zp a)) (p.now + zp a + zad r) = _; omega, i3⟩
theorem headC_le {M : Int} (h0 : 0 ≤ M) : ∀ {L : LLs}, (∀ x ∈ L, ∀ r ∈ x, zp r ≤ M) → zad L ≤ (L.length : Int) * M
  | [], _ => by simp [zad]
  | x :: r, h => by
    have ih := headC_le h0 (L := r) (fun y hy => h y (List.mem_cons_of_mem _ hy))
    have h2 : hdC x ≤ M := by
      cases x with
      | nil => exact h0
      | cons a t => exact h _ List.mem_cons_self a List.mem_cons_self
    have e : zad (x :: r) = hdC x + zad r := by unfold zad; simp only [List.map_cons, List.sum_cons]
    rw [e, List.length_cons, Int.natCast_add, Int.add_mul]
    omega
theorem sortR_isort (o : Int) (l : List RowD) : zaH o l = zag (zC o) l := by
  have st := sortR_stable o l
  exact Stab.eq (zab o) ⟨st.sorted.to, st.same⟩ (zaJ (zab o) _ _ rfl)
end Lp
/-
  The document's own sorting in little room: what it keeps is what the program's sorting keeps.
-/
set_option linter.unusedVariables false
namespace Lp
open Go
theorem seg_empty {α : Type} {l : List α} {k : Nat} (h : k ≤ l.length) : seg l k k = [] := by unfold seg; rw [List.drop_eq_nil_iff, List.length_take]; omega
theorem sumC_snoc (l : List RowD) (x : RowD) : sumC (l ++ [x]) = sumC l + zp x := by rw [sumC_app]; show sumC l + (zp x + 0) = _; omega
/-- rows are put into runs: where it stands at k -/
structure EInv (o room : Int) (l : List RowD) (k f : Nat) (s : SortD) : Prop where
  go : mkGo o (seg l f k) (l.drop k) s = mkGo o [] l (zak room)
  ok : s.p.Ok
  rme : s.p.room = room
  now : s.p.now = sumC (seg l f k)
  fk : f ≤ k
  kl : k ≤ l.length
  rl : s.runs.length ≤ k
/-- there is room for the next row -/
structure EMid (o room : Int) (l : List RowD) (k : Nat) (x : RowD) (f : Nat) (s : SortD) : Prop where
  go : mkGo o (seg l f k ++ [x]) (l.drop (k + 1)) ⟨s.runs, s.nr, s.nm, s.p.take (zp x)⟩ = mkGo o [] l (zak room)
  ok : s.p.Ok
  rme : s.p.room = room
  now : s.p.now = sumC (seg l f k)
  fit : s.p.now + zp x ≤ room
  fk : f ≤ k
  rl : s.runs.length ≤ k + 1
theorem EInv.zero {o room : Int} {l : List RowD} (h0 : 0 ≤ room) (h1 : room ≤ 1000000) : EInv o room l 0 0 (zak room) :=
  ⟨rfl, sort0_ok h0 h1, rfl, rfl, Nat.le_refl _, Nat.zero_le _, Nat.le_refl _⟩
theorem EInv.mid {o room : Int} {l : List RowD} {k f : Nat} {s : SortD} {x : RowD} (h : EInv o room l k f s) (hx : l[k]? = some x) (hc : 16 ≤ zp x) (hf : s.p.now + zp x ≤ room) : EMid o room l k x f s := by
  have ht := (zdr (p := s.p) (n := zp x) (by omega) (by rw [h.rme]; omega)).1
  refine ⟨?_, h.ok, h.rme, h.now, hf, h.fk, by have := h.rl; omega⟩
  rw [← h.go, zax hx, mkGo_t ht]
theorem EInv.turn {o room : Int} {l : List RowD} {k f : Nat} {s : SortD} {x : RowD} (h : EInv o room l k f s) (hx : l[k]? = some x) (hl : z9 l) (hr : zp x ≤ room) (hf : room < s.p.now + zp x) :
    EMid o room l k x k (endS o s (seg l f k)) ∧ lls (endS o s (seg l f k)).runs = lls s.runs ++ [zag (zC o) (seg l f k)] ∧ (endS o s (seg l f k)).p.now = 0 ∧ (endS o s (seg l f k)).p.high = s.p.high := by
  have hc := zaP (hl x (zai hx))
  have hk := zbm hx
  have hls := hl.seg f k
  have hpos : 0 < (seg l f k).length := by
    rcases Nat.eq_zero_or_pos (seg l f k).length with e | e
    · exfalso
      have hn := h.now
      rw [List.eq_nil_of_length_eq_zero e] at hn
      have : sumC [] = 0 := rfl
      omega
    · exact e
  have hok := SOk.end (o := o) (l := seg l f k) h.ok
  have hnow : (z0 s.p (seg l f k)).now = 0 := by
    have := h.now
    rw [giveAll_now hls (by omega)]; omega
  have hn0 : (endS o s (seg l f k)).p.now = 0 := by rw [zbV hpos]; exact hnow
  have ht := (take_f (p := s.p) (n := zp x) (by rw [h.rme]; omega)).1
  refine ⟨⟨?_, hok.1, hok.2.1.trans h.rme, ?_, ?_, Nat.le_refl _, ?_⟩, ?_, hn0, hok.2.2⟩
  · rw [seg_empty (by omega), List.nil_append, ← h.go, zax hx, mkGo_f ht]
  · rw [hn0, seg_empty (by omega)]; rfl
  · rw [hn0]; omega
  · have := endS_num (o := o) (s := s) (l := seg l f k); have := h.rl; omega
  · rw [zbV hpos]; unfold lls; rw [List.map_append]; rfl
/-- a row more -/
def takeS (s : SortD) (c : Int) : SortD := ⟨s.runs, s.nr, s.nm, ⟨s.p.room, s.p.now + c, max s.p.high (s.p.now + c)⟩⟩
theorem EMid.next {o room : Int} {l : List RowD} {k f : Nat} {s : SortD} {x : RowD} (h : EMid o room l k x f s) (hx : l[k]? = some x) (hc : 16 ≤ zp x) : EInv o room l (k + 1) f (takeS s (zp x)) := by
  have hk := zbm hx
  have ht := (zdr (p := s.p) (n := zp x) (by omega) (by rw [h.rme]; have := h.fit; omega)).2
  have hok := (h.ok.take (zp x)).1
  rw [ht] at hok
  have e := seg_snoc hx h.fk
  refine ⟨?_, hok, h.rme, ?_, by have := h.fk; omega, hk, h.rl⟩
  · rw [e, ← h.go, ht]; rfl
  · rw [e, sumC_snoc, ← h.now]; rfl
/-- all rows are in runs -/
structure EMade (o room : Int) (l : List RowD) (s : SortD) : Prop where
  md : mkGo o [] l (zak room) = s
  ok : s.p.Ok
  rme : s.p.room = room
  now : s.p.now = 0
theorem EInv.done {o room : Int} {l : List RowD} {k f : Nat} {s : SortD} (h : EInv o room l k f s) (hk : l.length ≤ k) (hl : z9 l) :
    EMade o room l (endS o s (seg l f k)) ∧ (endS o s (seg l f k)).p.high = s.p.high ∧ (0 < (seg l f k).length → lls (endS o s (seg l f k)).runs = lls s.runs ++ [zag (zC o) (seg l f k)]) ∧ (¬ 0 < (seg l f k).length → lls (endS o s (seg l f k)).runs = lls s.runs) := by
  have hls := hl.seg f k
  have hok := SOk.end (o := o) (l := seg l f k) h.ok
  refine ⟨⟨?_, hok.1, hok.2.1.trans h.rme, ?_⟩, hok.2.2, fun hp => ?_, fun hp => ?_⟩
  · rw [← h.go, mkGo_end (List.drop_eq_nil_iff.2 hk)]
  · by_cases hp : 0 < (seg l f k).length
    · rw [zbV hp]; show (z0 s.p (seg l f k)).now = 0
      have := h.now; rw [giveAll_now hls (by omega)]; omega
    · rw [zcw hp, h.now, List.eq_nil_of_length_eq_zero (show (seg l f k).length = 0 by omega)]; rfl
  · rw [zbV hp]; unfold lls; rw [List.map_append]; rfl
  · rw [zcw hp]
/-! ### merging -/
theorem runs_cost {s : SortD} {M : Int} (h : ∀ r ∈ zac s.runs, zp r ≤ M) (n : Nat) : ∀ x ∈ lls (s.runs.take n), ∀ r ∈ x, zp r ≤ M := by
  intro x hx r hr
  obtain ⟨y, hy, e⟩ := List.mem_map.1 hx
  refine h r ?_
  unfold zac
  exact List.mem_flatten.2 ⟨x, List.mem_map.2 ⟨y, List.mem_of_mem_take hy, e⟩, hr⟩
/-- what holds while runs are merged -/
structure EMrg (o room : Int) (fan n : Nat) (l : List RowD) (s : SortD) : Prop where
  mg : zbo o fan n s = zbM o room fan l
  p : s.p.Ok
  rme : s.p.room = room
  now : s.p.now = 0
  runs : RunsOk o s.runs
  rn : s.runs.length ≤ n + 1
  nn : n ≤ 2000
  nm0 : 0 ≤ s.nm
  nm1 : s.nm + ((n : Nat) : Int) ≤ 4000
  tot : (zac s.runs).length = l.length
  cost : ∀ r ∈ zac s.runs, zp r ≤ maxC l
theorem mem_isort {o : Int} {l : List RowD} {r : RowD} : r ∈ zag (zC o) l ↔ r ∈ l := isort_mem (zab o)
theorem endS_mem {o : Int} {s : SortD} {l : List RowD} {r : RowD} (h : r ∈ zac (endS o s l).runs) : r ∈ zac s.runs ∨ r ∈ l := by
  by_cases hp : 0 < l.length
  · rw [zbV hp] at h
    have h' : r ∈ zac (s.runs ++ [⟨true, zag (zC o) l⟩]) := h
    rw [zbB, zbP, List.mem_append] at h'
    exact h'.imp id mem_isort.1
  · rw [zcw hp] at h; exact .inl h
theorem mkGo_mem {o : Int} {r : RowD} : ∀ (rest cur : List RowD) (s : SortD), r ∈ zac (mkGo o cur rest s).runs → r ∈ zac s.runs ∨ r ∈ cur ∨ r ∈ rest
  | [], cur, s, h => (endS_mem h).imp id .inl
  | x :: t, cur, s, h => by
    rcases hk : s.p.takes (zp x) with _ | _
    · rw [mkGo_f hk] at h
      rcases mkGo_mem t [x] _ h with h | h | h
      · rcases endS_mem (o := o) h with h | h
        · exact .inl h
        · exact .inr (.inl h)
      · exact .inr (.inr (by rw [List.mem_singleton.1 h]; exact List.mem_cons_self))
      · exact .inr (.inr (List.mem_cons_of_mem _ h))
    · rw [mkGo_t hk] at h
      rcases mkGo_mem t (cur ++ [x]) _ h with h | h | h
      · exact .inl h
      · rcases List.mem_append.1 h with h | h
        · exact .inr (.inl h)
        · exact .inr (.inr (by rw [List.mem_singleton.1 h]; exact List.mem_cons_self))
      · exact .inr (.inr (List.mem_cons_of_mem _ h))
theorem EMade.mrg {o room : Int} {fan : Nat} {l : List RowD} {s : SortD} (h : EMade o room l s) (h0 : 0 ≤ room) (h1 : room ≤ 1000000) (hl : z9 l) (hll : l.length ≤ 2000) : EMrg o room fan l.length l s := by
  have m := zdO (o := o) h0 h1 hl
  rw [h.md] at m
  have z1 : (zak room).runs.length = 0 := rfl
  have z2 : (zak room).nm = 0 := rfl
  have z3 : (zac (zak room).runs).length = 0 := rfl
  have m1 := m.le2; have m2 := m.nm; have m3 := m.len
  refine ⟨by unfold zbM; rw [h.md], h.ok, h.rme, h.now, m.runs, by omega, hll, by omega, by omega, by omega, fun r hr => maxC_ge ?_⟩
  rw [← h.md] at hr
  rcases mkGo_mem l [] _ hr with hr | hr | hr
  · exact absurd hr (by simp [zac, zak])
  · cases hr
  · exact hr
theorem EMade.nr {o room : Int} {l : List RowD} {s : SortD} (h : EMade o room l s) (h0 : 0 ≤ room) (h1 : room ≤ 1000000) (hl : z9 l) : ((s.runs.length : Nat) : Int) = s.nr := by
  have m := zdO (o := o) h0 h1 hl
  rw [h.md] at m
  have := m.nr
  have z1 : (zak room).runs.length = 0 := rfl
  have z2 : (zak room).nr = 0 := rfl
  omega
theorem EMade.nm {o room : Int} {l : List RowD} {s : SortD} (h : EMade o room l s) (h0 : 0 ≤ room) (h1 : room ≤ 1000000) (hl : z9 l) : s.nm = 0 := by
  have m := zdO (o := o) h0 h1 hl
  rw [h.md] at m
  exact m.nm
/-- room for the heads -/
theorem fan_room {room M : Int} {fan n : Nat} (h0 : 0 ≤ M) (hn : n ≤ fan) (h : (fan : Int) * M ≤ room) : ((n : Nat) : Int) * M ≤ room := by
  have : (n : Int) * M ≤ (fan : Int) * M := Int.mul_le_mul_of_nonneg_right (by omega) h0
  omega
/-- what is in use stays within the room -/
theorem EMrg.take_bd {o room : Int} {fan n m : Nat} {l : List RowD} {s : SortD} (h : EMrg o room fan n l s) (hM : 0 ≤ maxC l) (hr : (fan : Int) * maxC l ≤ room) (hm : m ≤ fan) (i : Nat) : 0 ≤ zad ((lls (s.runs.take m)).take i) ∧ zad ((lls (s.runs.take m)).take i) ≤ room := by
  have hc := runs_cost (s := s) h.cost m
  refine ⟨headC_nonneg (fun x hx => ((zdE h.runs m) x (List.mem_of_mem_take hx)).1), Int.le_trans (headC_le hM (fun x hx => hc x (List.mem_of_mem_take hx))) ?_⟩
  refine fan_room hM ?_ hr
  rw [List.length_take, zcz, List.length_take]; omega
theorem headC_rest_le {M : Int} {ll : LLs} {c : List Nat} (h0 : 0 ≤ M) (h : ∀ x ∈ ll, ∀ r ∈ x, zp r ≤ M) (hc : c.length = ll.length) : zad (rest ll c) ≤ (ll.length : Int) * M := by
  have e : (rest ll c).length = ll.length := by unfold rest; rw [List.length_zipWith]; omega
  rw [← e]
  refine headC_le h0 (fun x hx r hr => ?_)
  unfold rest at hx
  obtain ⟨i, hi⟩ := List.mem_iff_getElem?.1 hx
  rw [List.getElem?_zipWith] at hi
  cases e1 : ll[i]? with
  | none => rw [e1] at hi; simp at hi
  | some a =>
    cases e2 : c[i]? with
    | none => rw [e1, e2] at hi; simp at hi
    | some b =>
      rw [e1, e2] at hi
      have hb : a.drop b = x := by simpa using hi
      rw [← hb] at hr
      exact h a (zai e1) r (List.mem_of_mem_drop hr)
theorem rest_done {o : Int} {L : LLs} {rs : List RowD} (h : Run o L rs []) : zad L = 0 := by
  generalize e : ([] : List Nat) = hs at h
  cases h with
  | step _ _ _ => cases e
  | done h =>
    unfold zad
    have : ∀ x ∈ L, x = [] := fun x hx => by
      obtain ⟨i, hi⟩ := List.mem_iff_getElem?.1 hx
      have := h i
      rw [hd_at hi] at this
      cases x with
      | nil => rfl
      | cons a b => cases this
    clear h
    induction L with
    | nil => rfl
    | cons x r ih =>
      have h1 := this x List.mem_cons_self
      subst h1
      simp only [List.map_cons, List.sum_cons, hdC]
      rw [ih (fun y hy => this y (List.mem_cons_of_mem _ hy))]; rfl
theorem headC_snoc {ll : LLs} {k : Nat} {x : List RowD} {y : RowD} (h : ll[k]? = some x) (hy : x[0]? = some y) : zad (ll.take (k + 1)) = zad (ll.take k) + zp y := by
  rw [zaD h]; unfold zad
  rw [List.map_append, List.sum_append]
  cases x with
  | nil => simp at hy
  | cons a t =>
    have : a = y := by simpa using hy
    subst this
    simp only [List.map_cons, List.map_nil, List.sum_cons, List.sum_nil, hdC]; omega
/-- one merge -/
theorem EMrg.next {o room : Int} {fan n : Nat} {l : List RowD} {s : SortD} (h : EMrg o room fan n l s) (hf : 2 ≤ fan) (h1 : 1 < s.runs.length) (hnow : (zan o (min fan s.runs.length) s).p.now = 0) : EMrg o room fan (n - 1) l (zan o (min fan s.runs.length) s) := by
  have m := mergeS_merged (o := o) (n := min fan s.runs.length) h.p h.runs (by omega) (by omega)
  have hrn := h.rn
  have hl := mergeS_runs o (min fan s.runs.length) s
  refine ⟨?_, m.p, m.room.trans h.rme, hnow, m.runs, by omega, by have := h.nn; omega, by have := h.nm0; have := m.nm; omega, by have := h.nm1; have := m.nm; omega, m.len.trans h.tot, ?_⟩
  · rw [← h.mg]
    obtain ⟨m, rfl⟩ : ∃ m, n = m + 1 := ⟨n - 1, by omega⟩
    exact (mergeAll_next h1).symm
  · intro r hr
    have hr' : r ∈ zac (s.runs.drop (min fan s.runs.length) ++ [⟨false, (runR o (lls (s.runs.take (min fan s.runs.length)))).1⟩]) := hr
    rw [zbB, zbP, List.mem_append] at hr'
    refine h.cost r ?_
    rcases hr' with hr' | hr'
    · obtain ⟨x, hx, hrx⟩ := List.mem_flatten.1 hr'
      obtain ⟨y, hy, e⟩ := List.mem_map.1 hx
      exact List.mem_flatten.2 ⟨x, List.mem_map.2 ⟨y, List.mem_of_mem_drop hy, e⟩, hrx⟩
    · obtain ⟨x, hx, hrx⟩ := (zbS o _).mem r hr'
      obtain ⟨y, hy, e⟩ := List.mem_map.1 hx
      exact List.mem_flatten.2 ⟨x, List.mem_map.2 ⟨y, List.mem_of_mem_take hy, e⟩, hrx⟩
theorem mergeS_lls (o : Int) (n : Nat) (s : SortD) : lls (zan o n s).runs = (lls s.runs).drop n ++ [(runR o ((lls s.runs).take n)).1] := by
  show lls (s.runs.drop n ++ [_]) = _
  unfold lls; rw [List.map_append, List.map_drop, List.map_take]; rfl
theorem lls_take (rs : List RunD) (n : Nat) : lls (rs.take n) = (lls rs).take n := List.map_take
theorem EMrg.rest_bd {o room : Int} {fan n m : Nat} {l : List RowD} {s : SortD} (h : EMrg o room fan n l s) (hM : 0 ≤ maxC l) (hr : (fan : Int) * maxC l ≤ room) (hm : m ≤ fan) {c : List Nat} (hc : c.length = (lls (s.runs.take m)).length) : zad (rest (lls (s.runs.take m)) c) ≤ room := by
  refine Int.le_trans (headC_rest_le hM (runs_cost (s := s) h.cost m) hc) (fan_room hM ?_ hr)
  rw [zcz, List.length_take]; omega
/-- what comes -/
theorem ext_one {s : SortD} {y : List RowD} (h : (lls s.runs)[0]? = some y) (h1 : s.runs.length ≤ 1) : zac s.runs = y := by
  unfold lls at h
  obtain ⟨r, hr, e⟩ : ∃ r, s.runs[0]? = some r ∧ r.l = y := by
    rw [List.getElem?_map] at h
    cases e : s.runs[0]? with
    | none => rw [e] at h; cases h
    | some r => rw [e] at h; injection h with h; exact ⟨r, rfl, h⟩
  have : s.runs = [r] := by
    match hs : s.runs, h1 with
    | [], _ => rw [hs] at hr; cases hr
    | [x], _ => rw [hs] at hr; injection hr with hr; rw [hr]
  rw [this, zbP]; exact e
theorem ext_none {s : SortD} (h : (lls s.runs).length = 0) : zac s.runs = [] := by
  rw [zcz] at h
  rw [List.eq_nil_of_length_eq_zero h]; rfl
end Lp
