/- Walks, printed by a program of mine. -/
import Derived.Test.YtoanlikkhjohpaaGreatV8
set_option linter.unusedSimpArgs false
set_option linter.unusedVariables false
namespace Lp
open Go Go.RowKit Go.Proofs

namespace HdYtoanlikkhjohpaaGreatV9
theorem zaa (b o : Nat) : ∀ w, (Instr.fieldAt 106 (.pointer (some ⟨b, o, none⟩)) 0).run Tryz.prog w = .ok (.pointer (some ⟨b, o + 0, none⟩)) w := fun _ => by kernel_rfl
theorem zaj (b o : Nat) : ∀ w, (Instr.fieldAt 106 (.pointer (some ⟨b, o, none⟩)) 1).run Tryz.prog w = .ok (.pointer (some ⟨b, o + 1, none⟩)) w := fun _ => by kernel_rfl
theorem zdj : ∃ i, Tryz.prog.info? 9 = some i ∧ i.zero = some (.string ByteArray.empty) ∧ i.size = 1 ∧ i.bytes = 16 := zbc (by kernel_rfl)
theorem zdf : Tryz.prog.underlying 53 = some (.slice 9) := by kernel_rfl
end HdYtoanlikkhjohpaaGreatV9
open HdYtoanlikkhjohpaaGreatV9

set_option maxHeartbeats 4000000 in
set_option maxRecDepth 100000 in
theorem Text_c (l : List Lbl) (hl : l.length ≤ 1000) (hz : ∀ x ∈ l, x.n.size ≤ 100000 ∧ x.v.size ≤ 100000) :
    CD Tryz.prog 34 [] [.sh 2 (l.map Lbl.d)] (isR (D.s (zbx l))) := by
  refine zB Tryz.func34 rfl (N := 27) rfl rfl (fun C => ?_)
  refine JD.keep [0] [(0, .sh 2 (l.map Lbl.d))] rfl ?_
  refine JD.bd 0 rfl (fun bd0 => ?_)
  have nl0 := zaf bd0
  refine zd _ _ rfl rfl rfl (zc rfl (za rfl rfl (ze rfl) (zg rfl (zf (zd _ _ rfl rfl rfl (zc rfl (za rfl rfl (ze rfl) (zg rfl (zf (zd _ _ rfl rfl rfl (zd _ _ rfl rfl rfl (zc rfl (za rfl rfl (zb rfl) (za rfl rfl (zas (n := l.length) rfl Tryz.runUnderlying52 (by simp only [lm, lc, ln])) (za rfl rfl (zb rfl) (zg rfl (zf (zu _ rfl rfl (zP (fun (g : Nat × Value × List ByteArray) => [(2, .v (.string ByteArray.empty)), (6, .sh 2 (l.map Lbl.d)), (7, dN l.length), (8, dN g.1), (3, .ov g.2.1)]) (fun (g : Nat × Value × List ByteArray) => [.sl g.2.1 1 9 (g.2.2.map D.s)]) (fun (g : Nat × Value × List ByteArray) => (g.2.2 = (l.take g.1).map zbe) ∧ (g.2.2.length ≤ g.1) ∧ (g.1 ≤ l.length)) (fun (g : Nat × Value × List ByteArray) => l.length - g.1) _ (0, .slice none 0 0, []) rfl rfl ⟨sk rfl, sk rfl, sk rfl, sk rfl, sc rfl (Cv.ov rfl), trivial⟩ (HSub.nil 1 9) ⟨rfl, Nat.le_refl _, Nat.zero_le _⟩ ?_)))))))))))))))))))
  rintro ⟨k, ov, o⟩ ⟨ho, hol, hkl⟩
  replace ho : o = (l.take k).map zbe := ho
  replace hol : o.length ≤ k := hol
  replace hkl : k ≤ l.length := hkl
  refine JD.keep [2, 6, 7, 8, 3] [(2, .v (.string ByteArray.empty)), (6, .sh 2 (l.map Lbl.d)), (7, dN l.length), (8, dN k), (3, .ov ov)] rfl (JD.norm [.sl ov 1 9 (o.map D.s)] rfl ?_)
  have hsk := sumSz_parts hl hz k; rw [← ho] at hsk
  refine zd _ _ rfl rfl rfl (zc rfl (za rfl rfl (zV rfl rfl rfl) (zg rfl (zf (zd _ _ rfl rfl rfl ?_)))))
  refine zw _ _ rfl rfl rfl rfl (fun hc1 => ?_) (fun hc1 => ?_)
  · replace hc1 := of_decide_eq_true hc1
    refine zI rfl (zf (zd _ _ rfl rfl rfl (zu _ rfl rfl (zd _ _ rfl rfl rfl (zc rfl ?_)))))
    obtain ⟨x1, hx1⟩ := zW l k (by omega)
    have hzk := hz x1 (List.mem_of_getElem? hx1)
    have hqk := quoteB_size x1.v
    refine za rfl rfl (zN (k := k) rfl rfl Tryz.runUnderlying52 Tryz.sizeOf106 (by first | rfl | omega) (zJ hx1)) (za rfl rfl (za7 (d := Lbl.d x1) rfl Tryz.isAgg106 Tryz.sizeOf106 rfl rfl) (zl rfl rfl (zbL (zv := (.agg #[(.string ByteArray.empty), (.string ByteArray.empty)])) Tryz.zeroValue106 ⟨rfl, rfl, trivial⟩ (Cv.vagg (by decide))) ?_))
    rintro _ _ ⟨g2, rfl, rfl⟩
    refine zl rfl rfl (zaz (i := 0) (X' := Lbl.d x1) rfl rfl rfl (CellD.agg) Tryz.sizeOf106 rfl rfl rfl) ?_
    rintro _ _ ⟨rfl, rfl⟩
    refine OpsD.norm [.bx g2 106 (Lbl.d x1), .sl ov 1 9 (o.map D.s)] rfl (zg rfl (zf (JD.keep [2, 3, 5, 6, 7, 8, 9, 10, 11] [(2, .v (.string ByteArray.empty)), (3, .ov ov), (5, dP g2 0), (6, .sh 2 (l.map Lbl.d)), (7, dN l.length), (8, dN k), (9, dB (decide (((k : Nat) : Int) < ((l.length : Nat) : Int)))), (10, .el (Lbl.d x1) 0), (11, Lbl.d x1)] rfl (JD.norm [.bx g2 106 (Lbl.d x1), .sl ov 1 9 (o.map D.s)] rfl ?_))))
    refine zam 9 [(12, .ov ov, none), (13, dP g2 0, none), (14, .s x1.n, none), (15, .s (x1.n ++ (⟨#[61]⟩ : ByteArray)), none), (16, dP g2 1, none), (17, .s x1.v, none), (18, .s (zaV x1.v), none), (19, .s ((x1.n ++ (⟨#[61]⟩ : ByteArray)) ++ (zaV x1.v)), none), (20, .sh 1 ([((x1.n ++ (⟨#[61]⟩ : ByteArray)) ++ (zaV x1.v))].map D.s), none)] [.bx g2 106 (Lbl.d x1), .sl ov 1 9 (o.map D.s)] (Hn := [.bx g2 106 (Lbl.d x1), .sl ov 1 9 (o.map D.s)]) zaH rfl rfl rfl rfl HSub.rfl' rfl ⟨sa_p rfl rfl rfl (zb rfl), sa_p rfl rfl rfl (zn rfl zaa rfl), sa_p rfl rfl rfl (zy rfl (i := 0) rfl Tryz.isAgg9 rfl), sa_p rfl rfl rfl (za0 rfl rfl (by unfold maxLen; (try simp only [ByteArray.size_append]); (try simp only [ByteArray.size_append]); have e1 : (⟨#[61]⟩ : ByteArray).size = 1 := rfl; have e2 : (⟨#[123]⟩ : ByteArray).size = 1 := rfl; have e3 : (⟨#[125]⟩ : ByteArray).size = 1 := rfl; (try have := zb3 (sep := ⟨#[44]⟩) rfl o); omega)), sa_p rfl rfl rfl (zn rfl zaj rfl), sa_p rfl rfl rfl (zy rfl (i := 0) rfl Tryz.isAgg9 rfl), sa_q rfl rfl rfl (zbq rfl (.cons Cv.rfl' .nil) Tryz.call99 (Quote_c x1.v (by omega)) zbb), sa_p rfl rfl rfl (za0 rfl rfl (by unfold maxLen; (try simp only [ByteArray.size_append]); (try simp only [ByteArray.size_append]); have e1 : (⟨#[61]⟩ : ByteArray).size = 1 := rfl; have e2 : (⟨#[123]⟩ : ByteArray).size = 1 := rfl; have e3 : (⟨#[125]⟩ : ByteArray).size = 1 := rfl; (try have := zb3 (sep := ⟨#[44]⟩) rfl o); omega)), sa_q rfl rfl rfl (qu_buildSlice [.tmp 19] rfl rfl (.cons CellD.s .nil) rfl Tryz.runUnderlying53 Tryz.sizeOf9 Tryz.zeroValue9 rfl rfl rfl rfl), trivial⟩ ?_
    refine OpsD.keep [2, 3, 5, 6, 7, 8, 9, 10, 11, 12, 13, 14, 15, 16, 17, 18, 19, 20] [(2, .v (.string ByteArray.empty)), (3, .ov ov), (5, dP g2 0), (6, .sh 2 (l.map Lbl.d)), (7, dN l.length), (8, dN k), (9, dB (decide (((k : Nat) : Int) < ((l.length : Nat) : Int)))), (10, .el (Lbl.d x1) 0), (11, Lbl.d x1), (12, .ov ov), (13, dP g2 0), (14, .s x1.n), (15, .s (x1.n ++ (⟨#[61]⟩ : ByteArray))), (16, dP g2 1), (17, .s x1.v), (18, .s (zaV x1.v)), (19, .s ((x1.n ++ (⟨#[61]⟩ : ByteArray)) ++ (zaV x1.v))), (20, .sh 1 ([((x1.n ++ (⟨#[61]⟩ : ByteArray)) ++ (zaV x1.v))].map D.s))] rfl (zl rfl rfl (z4 (f := D.s) (l := o) (l' := [((x1.n ++ (⟨#[61]⟩ : ByteArray)) ++ (zaV x1.v))]) (i := 1) rfl rfl rfl (SrcD.sh) zdf zdj rfl rfl (by unfold maxLen; (try simp only [la, lc, ln, lm, lt', ld, ls, lr]); omega) (by (try simp only [la, lc, ln, lm, lt', ld, ls, lr]); omega)) ?_)
    rintro _ _ ⟨v3, rfl, rfl⟩
    refine OpsD.norm [.bx g2 106 (Lbl.d x1), .sl v3 1 9 ((o ++ [((x1.n ++ (⟨#[61]⟩ : ByteArray)) ++ (zaV x1.v))]).map D.s)] rfl (za rfl rfl (ze rfl) (zg rfl (zL (zf (zc rfl (za rfl rfl (zae (c := ((k + 1 : Nat) : Int)) rfl rfl (z3 (by omega) (by omega))) (za rfl rfl (zb rfl) (zg rfl ?_))))))))
    exact zU (k + 1, v3, (o ++ [((x1.n ++ (⟨#[61]⟩ : ByteArray)) ++ (zaV x1.v))])) ⟨sk rfl, sk rfl, sk rfl, sk rfl, sk rfl, trivial⟩ (HSub.lst 1 rfl) ⟨by rw [zap hx1, List.map_append, ho]; rfl, by rw [List.length_append, List.length_singleton]; omega, by omega⟩ (by omega)
  · replace hc1 := of_decide_eq_false hc1
    refine zO rfl (zx (zt (zo (zf (zd _ _ rfl rfl rfl (zc rfl (za rfl rfl (zb rfl) (zl rfl rfl (zq [] _ [.sl ov 1 9 (o.map D.s)] rfl rfl (.cons (ArgC.own (j := 0) rfl rfl) (.cons (ArgC.cv (Cv.str (by first | decide | (unfold maxLen; omega)))) .nil)) (zag (j := 0) rfl zk) Tryz.call100 (Join_c o (⟨#[44]⟩ : ByteArray) (by omega) (by omega) (by first | decide | omega) (by first | decide | omega)) (.inr (zaC rfl))) ?_))))))))
    rintro _ _ ⟨_, ⟨rfl, rfl⟩, rfl⟩
    refine OpsD.norm [.sl ov 1 9 (o.map D.s)] rfl (za rfl rfl (za0 rfl rfl (by unfold maxLen; (try simp only [ByteArray.size_append]); (try simp only [ByteArray.size_append]); have e1 : (⟨#[61]⟩ : ByteArray).size = 1 := rfl; have e2 : (⟨#[123]⟩ : ByteArray).size = 1 := rfl; have e3 : (⟨#[125]⟩ : ByteArray).size = 1 := rfl; (try have := zb3 (sep := ⟨#[44]⟩) rfl o); omega)) (za rfl rfl (za0 rfl rfl (by unfold maxLen; (try simp only [ByteArray.size_append]); (try simp only [ByteArray.size_append]); have e1 : (⟨#[61]⟩ : ByteArray).size = 1 := rfl; have e2 : (⟨#[123]⟩ : ByteArray).size = 1 := rfl; have e3 : (⟨#[125]⟩ : ByteArray).size = 1 := rfl; (try have := zb3 (sep := ⟨#[44]⟩) rfl o); omega)) (za rfl rfl (ze rfl) (zg rfl (zf (JD.keep [2] [(2, .s (((⟨#[123]⟩ : ByteArray) ++ (zcc (⟨#[44]⟩ : ByteArray) o)) ++ (⟨#[125]⟩ : ByteArray)))] rfl (zE rfl ?_)))))))
    exact zA Tryz.results34 (.cons (zX (zC rfl) (Cv.eq (congrArg D.s (by rw [ho, List.take_of_length_le (by omega)]; rfl)))) .nil) rfl HSub.none ⟨rfl, rfl⟩
end Lp
