/- Walks, printed by a program of mine. -/
import Derived.Test.YtheccaeefigajaaGreatDoorV94
set_option linter.unusedSimpArgs false
set_option linter.unusedVariables false
set_option maxHeartbeats 4000000
set_option maxRecDepth 100000
namespace Lp
open Go Go.RowKit Go.Proofs

namespace HdYtheccaeefigajaaGreatDoorV95
theorem zeg : ∀ w, ((#[⟨"s", 306, 0, false, "", "leporello/pattern", 0⟩, ⟨"rune", 4, 3, false, "", "leporello/pattern", 32⟩, ⟨"a", 3, 4, false, "", "leporello/pattern", 40⟩, ⟨"b", 3, 5, false, "", "leporello/pattern", 48⟩] : Array Field).mapM fun f => do pure (f.offset, ← Go.sizeOf f.type) : Sem (Array (Nat × Nat))).run Tryz.prog w = .ok ([(0, 3), (3, 1), (4, 1), (5, 1)] : List (Nat × Nat)).toArray w := fun _ => by kernel_rfl
theorem fa_302_1 (b o : Nat) : ∀ w, (Instr.fieldAt 302 (.pointer (some ⟨b, o, none⟩)) 1).run Tryz.prog w = .ok (.pointer (some ⟨b, o + 1, none⟩)) w := fun _ => by kernel_rfl
theorem fa_308_2 (b o : Nat) : ∀ w, (Instr.fieldAt 308 (.pointer (some ⟨b, o, none⟩)) 2).run Tryz.prog w = .ok (.pointer (some ⟨b, o + 4, none⟩)) w := fun _ => by kernel_rfl
theorem fa_315_0 (b o : Nat) : ∀ w, (Instr.fieldAt 315 (.pointer (some ⟨b, o, none⟩)) 0).run Tryz.prog w = .ok (.pointer (some ⟨b, o + 0, none⟩)) w := fun _ => by kernel_rfl
theorem zdd (b o : Nat) : ∀ w, (Instr.fieldAt 317 (.pointer (some ⟨b, o, none⟩)) 0).run Tryz.prog w = .ok (.pointer (some ⟨b, o + 0, none⟩)) w := fun _ => by kernel_rfl
theorem fa_320_0 (b o : Nat) : ∀ w, (Instr.fieldAt 320 (.pointer (some ⟨b, o, none⟩)) 0).run Tryz.prog w = .ok (.pointer (some ⟨b, o + 0, none⟩)) w := fun _ => by kernel_rfl
theorem fa_320_1 (b o : Nat) : ∀ w, (Instr.fieldAt 320 (.pointer (some ⟨b, o, none⟩)) 1).run Tryz.prog w = .ok (.pointer (some ⟨b, o + 1, none⟩)) w := fun _ => by kernel_rfl
theorem fa_320_2 (b o : Nat) : ∀ w, (Instr.fieldAt 320 (.pointer (some ⟨b, o, none⟩)) 2).run Tryz.prog w = .ok (.pointer (some ⟨b, o + 2, none⟩)) w := fun _ => by kernel_rfl
theorem fg_312_0 : ∀ vs : List Value, vs.length = 1 → ∀ w, (Instr.field 312 (.agg vs.toArray) 0).run Tryz.prog w = .ok (vs.getD 0 undef) w := fun vs h w => by
  obtain ⟨a, rfl⟩ := List.length_eq_one_iff.1 h
  kernel_rfl
theorem infz_308 : ∃ i, Tryz.prog.info? 308 = some i ∧ i.zero = some (.agg #[(.bool false), (.bool false), (.slice none 0 0), (.bool false), (.int .i64 0), (.int .i64 0)]) ∧ i.size = 6 ∧ i.bytes = 56 := zbR (by kernel_rfl)
theorem und_300 : Tryz.prog.underlying 300 = some (.slice 308) := by kernel_rfl
end HdYtheccaeefigajaaGreatDoorV95
open HdYtheccaeefigajaaGreatDoorV95

structure StepD where
  all : Bool
  nt : Bool
  items : List RngD
  rn : Bool
  a : Int
  b : Int
def StepD.d (x : StepD) : D := .agg [dB x.all, dB x.nt, .sh 2 (x.items.map RngD.d), dB x.rn, dI x.a, dI x.b]
/-- a pattern that is put together: its box, the row of its steps -/
def MB (g : Nat) (tx : D) (v : Value) (fst : Int) (xs : List StepD) : List Hp := [.bx g 302 (.agg [tx, .ov v, dI fst]), .sl v 6 308 (xs.map StepD.d)]
def zd8 (n : Nat) : Prop := ∀ (g : Nat) (tx : D) (v : Value) (fst : Int) (xs : List StepD) (x : Pt) (th : Int), x.ok → x.sz ≤ n → xs.length + 2 * x.sz ≤ 1000000 →
  CD Tryz.prog 263 (MB g tx v fst xs) [dP g 0, Pt.d x, dI th] (fun r H' => ∃ v' xs' i, xs.length ≤ xs'.length ∧ xs'.length + 1 ≤ xs.length + 2 * x.sz ∧ r = dI i ∧ H' = MB g tx v' fst xs')
theorem okL_drop : ∀ (l : List Pt) (k : Nat), Pt.okL l → Pt.okL (l.drop k) := fun l k h => ((okL_app (l.take k) (l.drop k)).1 (by rw [List.take_append_drop]; exact h)).2
theorem sz_tail {l : List Pt} {x : Pt} (h : l[0]? = some x) : Pt.szL ((l.take l.length).drop 1) + x.sz = Pt.szL l := by
  rw [List.take_length]
  have := szL_drop l 0 h
  rw [List.drop_zero, Nat.zero_add] at this; omega
theorem ok_tail {l : List Pt} (h : Pt.okL l) : Pt.okL ((l.take l.length).drop 1) := by rw [List.take_length]; exact okL_drop l 1 h

theorem zes (g : Nat) (tx : D) (v : Value) (fst : Int) (xs : List StepD) (a1 a2 : Bool) (it : List RngD) (a3 : Bool) (a4 a5 : Int) (hl : xs.length ≤ 1000000) :
    CD Tryz.prog 262 [.bx g 302 (.agg [tx, .ov v, dI fst]), .sl v 6 308 (xs.map StepD.d)] [dP g 0, .agg [dB a1, dB a2, .sh 2 (it.map RngD.d), dB a3, dI a4, dI a5]] (fun r H' => ∃ v', r = dN xs.length ∧ H' = [.bx g 302 (.agg [tx, .ov v', dI fst]), .sl v' 6 308 ((xs ++ [StepD.mk a1 a2 it a3 a4 a5]).map StepD.d)]) := by
  refine zq Tryz.func262 rfl (N := 21) rfl rfl (fun C => ?_)
  refine jk [0, 1] rfl ?_
  refine JD.bd 1 rfl (fun bd1 => ?_)
  have hap : (xs ++ [StepD.mk a1 a2 it a3 a4 a5]).length = xs.length + 1 := by simp only [la, List.length_singleton, ln]
  refine jT rfl (oE rfl (zbf rfl (CellD.agg)) ?_)
  rintro _ _ ⟨g1, rfl, rfl⟩
  refine oR 1 rfl (oZ rfl (jS rfl (JD.subH (HSub.perm (zc (i := 2) rfl)) (jn rfl (jk [0, 1, 3, 4] rfl (jn rfl ?_))))))
  refine jd_drawo 8 [(5, .q (dP g 0)), (6, .q (dP g 0)), (7, .q (dP g 0)), (8, .q (dP g 1)), (9, .q (.ov v)), (10, .q (.agg [dB a1, dB a2, .sh 2 (it.map RngD.d), dB a3, dI a4, dI a5])), (11, .q (.sh 6 [.agg [dB a1, dB a2, .sh 2 (it.map RngD.d), dB a3, dI a4, dI a5]])), (12, .o (fun γ => [.sl (γ 7) 6 308 ((xs ++ [(StepD.mk a1 a2 it a3 a4 a5)]).map StepD.d), .bx g1 308 (.agg [dB a1, dB a2, .sh 2 (it.map RngD.d), dB a3, dI a4, dI a5]), .bx g 302 (.agg [tx, .ov v, dI fst])]))] [.bx g1 308 (.agg [dB a1, dB a2, .sh 2 (it.map RngD.d), dB a3, dI a4, dI a5]), .bx g 302 (.agg [tx, .ov v, dI fst])] (Hn := fun γ => [.sl (γ 7) 6 308 ((xs ++ [(StepD.mk a1 a2 it a3 a4 a5)]).map StepD.d), .bx g1 308 (.agg [dB a1, dB a2, .sh 2 (it.map RngD.d), dB a3, dI a4, dI a5]), .bx g 302 (.agg [tx, .ov v, dI fst])]) mixed rfl rfl (by kernel_rfl) (by kernel_rfl) (by kernel_rfl) (HSub.lst 1 rfl) (fun _ => rfl) (fun γ => ⟨so_p rfl rfl rfl (zag rfl), so_p rfl rfl rfl (zag rfl), so_p rfl rfl rfl (p_nilCheck rfl), so_p rfl rfl rfl (zd rfl fa_302_1 rfl), so_p rfl rfl rfl (ze rfl (i := 1) rfl Tryz.isAgg300 rfl), so_p rfl rfl rfl (zy (d := .agg [dB a1, dB a2, .sh 2 (it.map RngD.d), dB a3, dI a4, dI a5]) rfl (i := 0) rfl Tryz.isAgg308 Tryz.sizeOf308 rfl rfl), so_q rfl rfl rfl (zw [.tmp 10] rfl rfl (.cons CellD.agg .nil) rfl Tryz.runUnderlying300 Tryz.sizeOf308 Tryz.zeroValue308 rfl rfl rfl rfl), so_o rfl rfl rfl rfl ((zO (f := StepD.d) (l := xs) (l' := [(StepD.mk a1 a2 it a3 a4 a5)]) (i := 0) rfl rfl rfl (SrcD.sh) und_300 infz_308 rfl rfl (by unfold maxLen; (try simp only [la, lc, ln, lm, lt', ld, ls, lr]); omega) (by (try simp only [la, lc, ln, lm, lt', ld, ls, lr]); omega)).mono (by rintro _ _ ⟨v, rfl, rfl⟩; exact ⟨v, rfl, rfl⟩)) (fun _ => HSub.lst 1 rfl), trivial⟩) (fun γ => ?_)
  refine ok [0, 1, 3, 4, 5, 6, 7, 8, 9, 10, 11, 12] rfl (oR 1 rfl (oP rfl (zd rfl fa_302_1 rfl) (oE rfl (zg (i := 2) (X' := .agg [tx, .ov (γ 7), dI fst]) rfl rfl rfl (CellD.o) Tryz.sizeOf300 rfl rfl rfl) ?_)))
  rintro _ _ ⟨rfl, rfl⟩
  refine on rfl (oZ rfl (jk [0, 4] rfl (jT rfl (oR 2 rfl (oP rfl (zd rfl fa_302_1 rfl) (oP rfl (ze rfl (i := 2) rfl Tryz.isAgg300 rfl) (oP rfl (zcd (n := (xs ++ [(StepD.mk a1 a2 it a3 a4 a5)]).length) (j := 0) rfl rfl Tryz.runUnderlying300 (List.length_map _)) (oP rfl (zet (c := ((((xs ++ [(StepD.mk a1 a2 it a3 a4 a5)]).length) - 1 : Nat) : Int)) rfl rfl (zaZ (by omega) (by omega))) (oR 1 rfl (oZ rfl (zn rfl (PD.subH (HSub.perm (zc (i := 2) rfl)) (pn rfl (pn rfl ?_))))))))))))))
  exact zi Tryz.results262 (.cons (zu (zm rfl) (Cv.eq (congrArg (fun n : Int => D.v (.int .i64 n)) (by simp only [la, List.length_singleton, ln]; omega)))) .nil) rfl (HSub.fst 2 rfl) ⟨(γ 7), rfl, rfl⟩

theorem pbuild_one (g : Nat) (tx : D) (v : Value) (fst : Int) (xs : List StepD) (st : SetD) (th : Int) (hl : xs.length + 2 * 1 ≤ 1000000) :
    CD Tryz.prog 263 [.bx g 302 (.agg [tx, .ov v, dI fst]), .sl v 6 308 (xs.map StepD.d)] [dP g 0, .ifc 315 (.agg [dB st.all, dB st.nt, .sh 2 (st.items.map RngD.d)]), dI th] (fun r H' => ∃ v' xs' i, xs.length ≤ xs'.length ∧ xs'.length + 1 ≤ xs.length + 2 * 1 ∧ r = dI i ∧ H' = MB g tx v' fst xs') := by
  refine zq Tryz.func263 rfl (N := 93) rfl rfl (fun C => ?_)
  refine jk [0, 1, 2] rfl (jT rfl (oR 1 rfl (oZ rfl (jS rfl (jT rfl (oR 1 rfl (oP rfl (zbD rfl (fun _ _ => by kernel_rfl)) (oR 3 rfl (oE rfl (zx (zv := (.agg #[(.bool false), (.bool false), (.slice none 0 0)])) Tryz.zeroValue315 ⟨rfl, rfl, rfl, trivial⟩ (Cv.vagg (by decide))) ?_)))))))))
  rintro _ _ ⟨g1, rfl, rfl⟩
  refine oE rfl (zg (i := 0) (X' := .agg [dB st.all, dB st.nt, .sh 2 (st.items.map RngD.d)]) rfl rfl rfl (CellD.agg) Tryz.sizeOf315 rfl rfl rfl) ?_
  rintro _ _ ⟨rfl, rfl⟩
  refine on rfl (oR 1 rfl (oZ rfl (jT rfl (oR 1 rfl (oZ rfl (jCt rfl (jT rfl (oR 1 rfl (oP rfl (zd rfl fa_315_0 rfl) (oP rfl (zy (d := .agg [dB st.all, dB st.nt, .sh 2 (st.items.map RngD.d)]) rfl (i := 0) rfl Tryz.isAgg306 Tryz.sizeOf306 rfl rfl) (oR 1 rfl (oP rfl (zD [0, 1, 2] [.tmp 26, .const (.bool true), .tmp 27] (zv := (.agg #[(.bool false), (.bool false), (.slice none 0 0), (.bool false), (.int .i64 0), (.int .i64 0)])) rfl rfl (.cons CellD.agg (.cons (CellD.v rfl) (.cons (CellD.v rfl) .nil))) (Tryz.runUnderlying308) Tryz.zeroValue308 zeg ⟨rfl, rfl, rfl, rfl, rfl, rfl, trivial⟩ rfl) (OpsD.subH (HSub.perm (zc (i := 2) rfl)) (on rfl (OpsD.subH (HSub.perm (zc (i := 2) rfl)) (on rfl (oE rfl (zl [.bx g 302 (.agg [tx, .ov v, dI fst]), .sl v 6 308 (xs.map StepD.d)] [.bx g1 315 (.agg [dB st.all, dB st.nt, .sh 2 (st.items.map RngD.d)])] [] rfl rfl (.cons ArgC.id (.cons ArgC.id .nil)) zh Tryz.call262 (zes g (tx) v fst xs st.all st.nt st.items true th 0 (by (try simp only [la, List.length_singleton, ln]); omega)) (.inl rfl)) ?_)))))))))))))))))
  rintro _ _ ⟨_, ⟨mv2, rfl, rfl⟩, rfl⟩
  have halmv2 : (xs ++ [StepD.mk st.all st.nt st.items true th 0]).length = xs.length + 1 := by simp only [la, List.length_singleton, ln]
  refine on rfl (oR 1 rfl (oZ rfl (jk [0, 1, 2, 6] rfl (zn rfl (zj (pn rfl ?_))))))
  exact zi Tryz.results263 (.cons (zm rfl) .nil) rfl (HSub.fst 2 rfl) ⟨mv2, (xs ++ [StepD.mk st.all st.nt st.items true th 0]), ((xs.length : Nat) : Int), (by (try simp only [la, List.length_singleton, ln]); omega), (by (try simp only [la, List.length_singleton, Pt.sz]); omega), rfl, rfl⟩

theorem pbuild_row (g : Nat) (tx : D) (v : Value) (fst : Int) (xs : List StepD) (l : List Pt) (th : Int) (n : Nat) (ih : zd8 n) (hl : xs.length + 2 * (Pt.szL l + 1) ≤ 1000000) (hok : Pt.okL l) (hn : Pt.szL l ≤ n) :
    CD Tryz.prog 263 [.bx g 302 (.agg [tx, .ov v, dI fst]), .sl v 6 308 (xs.map StepD.d)] [dP g 0, .ifc 317 (.agg [.sh 1 (l.map Pt.d)]), dI th] (fun r H' => ∃ v' xs' i, xs.length ≤ xs'.length ∧ xs'.length + 1 ≤ xs.length + 2 * (Pt.szL l + 1) ∧ r = dI i ∧ H' = MB g tx v' fst xs') := by
  refine zq Tryz.func263 rfl (N := 93) rfl rfl (fun C => ?_)
  refine jk [0, 1, 2] rfl ?_
  have hll := szL_len l
  refine jT rfl (oR 1 rfl (oZ rfl (jS rfl (jT rfl (oR 1 rfl (oP rfl ((zaD (zv := (.agg #[(.bool false), (.bool false), (.slice none 0 0)])) rfl (fun _ _ => by kernel_rfl)).cv (Cv.tup (.cons (Cv.vagg (by decide)) (.cons Cv.rfl' .nil)))) (oR 3 rfl (oE rfl (zx (zv := (.agg #[(.bool false), (.bool false), (.slice none 0 0)])) Tryz.zeroValue315 ⟨rfl, rfl, rfl, trivial⟩ (Cv.vagg (by decide))) ?_))))))))
  rintro _ _ ⟨g1, rfl, rfl⟩
  refine oE rfl (zg (i := 0) (X' := .agg [dB false, dB false, dZ]) rfl rfl rfl (CellD.agg) Tryz.sizeOf315 rfl rfl rfl) ?_
  rintro _ _ ⟨rfl, rfl⟩
  refine on rfl (oR 1 rfl (oZ rfl (jT rfl (oR 1 rfl (oZ rfl (jCf rfl (zr rfl (zo (jS rfl (jT rfl (oR 1 rfl (oP rfl (zbD rfl (fun _ _ => by kernel_rfl)) (oR 3 rfl (oE rfl (zx (zv := (.agg #[(.slice none 0 0)])) Tryz.zeroValue317 ⟨rfl, trivial⟩ (Cv.vagg (by decide))) ?_))))))))))))))
  rintro _ _ ⟨g2, rfl, rfl⟩
  refine oE rfl (zg (i := 0) (X' := .agg [.sh 1 (l.map Pt.d)]) rfl rfl rfl (CellD.agg) Tryz.sizeOf317 rfl rfl rfl) ?_
  rintro _ _ ⟨rfl, rfl⟩
  refine on rfl (oR 1 rfl (oZ rfl (jk [0, 1, 2, 6, 9, 10] rfl (jT rfl (oR 1 rfl (oZ rfl (jCt rfl (jS rfl (jT rfl (oP rfl (zd rfl zdd rfl) (oP rfl (ze rfl (i := 0) rfl Tryz.isAgg310 rfl) (oP rfl (zaV (n := l.length) rfl Tryz.runUnderlying310 (by simp only [lm, lc, ln])) (oR 1 rfl (oZ rfl (jB rfl (jl4 (fun (a_ : Nat) (b_ : Int) (c_ : Value) (d_ : List StepD) => [(0, dP g 0), (1, .ifc 317 (.agg [.sh 1 (l.map Pt.d)])), (6, dI 0), (9, dP g2 0), (38, dN l.length), (39, dN a_), (2, dI b_)]) (fun a_ b_ c_ d_ => [.bx g2 317 (.agg [.sh 1 (l.map Pt.d)]), .bx g1 315 (.agg [dB false, dB false, dZ]), .bx g 302 (.agg [tx, .ov c_, dI fst]), .sl c_ 6 308 (d_.map StepD.d)]) (fun a_ b_ c_ d_ => (a_ ≤ l.length) ∧ (xs.length ≤ d_.length) ∧ (d_.length + 2 * Pt.szL (l.take (l.length - a_)) ≤ xs.length + 2 * Pt.szL l)) (fun a_ b_ c_ d_ => l.length - a_) 0 th v xs rfl (sa rfl) HSub.rfl' ⟨Nat.zero_le _, Nat.le_refl _, (by rw [Nat.sub_zero, List.take_length]; exact Nat.le_refl _)⟩ ?_))))))))))))))))
  rintro k t w ys ⟨hkl, hya, hyb⟩
  refine ja rfl (jn rfl (jT rfl (oP rfl (zaA rfl rfl rfl) (oZ rfl (jS rfl ?_)))))
  refine jD rfl (fun hc3 => ?_) (fun hc3 => ?_)
  · skip
    refine zr rfl (zo (jS rfl (jB rfl (jT rfl (oR 2 rfl (oZ rfl (zf rfl (oR 1 rfl (oP rfl (zd rfl zdd rfl) (oP rfl (ze rfl (i := 0) rfl Tryz.isAgg310 rfl) (oP rfl (zd rfl zdd rfl) (oP rfl (ze rfl (i := 0) rfl Tryz.isAgg310 rfl) (oP rfl (zaV (n := l.length) rfl Tryz.runUnderlying310 (by simp only [lm, lc, ln])) (oP rfl (zet (c := ((l.length - 1 : Nat) : Int)) rfl rfl (zaZ (by omega) (by omega))) (oR 1 rfl (oP rfl (zet (c := (((l.length - 1) - k : Nat) : Int)) rfl rfl (zaZ (by omega) (by omega))) ?_))))))))))))))))
    obtain ⟨x1, hx1⟩ := zaq l ((l.length - 1) - k) (by omega)
    have hxo := okL_get hok hx1
    have hxz := szL_mem hx1
    have hxt := szL_take l ((l.length - 1) - k) hx1
    rw [show l.length - 1 - k + 1 = l.length - k by omega] at hxt
    refine oP rfl (zK (k := (l.length - 1) - k) rfl rfl Tryz.runUnderlying310 Tryz.sizeOf20 (by first | rfl | omega) (zan hx1)) (oP rfl (zav rfl Tryz.isAgg20 rfl) (oR 1 rfl (OpsD.subH (HSub.perm (zc (i := 3) rfl)) (on rfl (OpsD.subH (HSub.perm (zc (i := 3) rfl)) (on rfl (oE rfl (zl [.bx g 302 (.agg [tx, .ov w, dI fst]), .sl w 6 308 (ys.map StepD.d)] [.bx g2 317 (.agg [.sh 1 (l.map Pt.d)]), .bx g1 315 (.agg [dB false, dB false, dZ])] [] rfl rfl (.cons ArgC.id (.cons ArgC.id (.cons ArgC.id .nil))) zh Tryz.call263 (ih g (tx) w fst ys x1 t hxo (by omega) (by (try simp only [la, List.length_singleton, ln]); omega)) (.inl rfl)) ?_)))))))
    rintro _ _ ⟨_, ⟨mv4, ys4, bi4, hba4, hbb4, rfl, rfl⟩, rfl⟩
    refine on rfl (oR 1 rfl (zp rfl (zB (zo (zf rfl (oP rfl (zb1 (c := ((k + 1 : Nat) : Int)) rfl rfl (zaZ (by omega) (by omega))) (oR 1 rfl (zp rfl (PD.subH (HSub.perm (zc (i := 1) rfl)) (pn rfl (PD.subH (HSub.perm (zc (i := 1) rfl)) (pn rfl (PD.subH (HSub.perm (zc (i := 3) rfl)) (pn rfl (PD.subH (HSub.perm (zc (i := 3) rfl)) (pn rfl (pn rfl ?_)))))))))))))))))
    exact pl4 (k + 1) bi4 mv4 ys4 (sa rfl) HSub.rfl' ⟨by show k + 1 ≤ l.length; omega, by show xs.length ≤ ys4.length; omega, by show ys4.length + 2 * Pt.szL (l.take (l.length - (k + 1))) ≤ _; rw [show l.length - (k + 1) = l.length - 1 - k by omega]; omega⟩ (by omega)
  · skip
    refine zah rfl (zH (zE (zC (zo (jT rfl (oR 2 rfl (oZ rfl (zn rfl (zj (PD.subH (HSub.perm (zc (i := 3) rfl)) (pn rfl (PD.subH (HSub.perm (zc (i := 3) rfl)) (pn rfl (pn rfl ?_))))))))))))))
    exact zi Tryz.results263 (.cons (zm rfl) .nil) rfl (HSub.fst 2 rfl) ⟨w, ys, t, (by (try simp only [la, List.length_singleton, ln]); omega), (by (try simp only [la, List.length_singleton, Pt.sz]); omega), rfl, rfl⟩

theorem pagain_s (g : Nat) (tx : D) (v : Value) (fst : Int) (xs : List StepD) (x : Pt) (rn ra : Bool) (th : Int) (n : Nat) (ih : zd8 n) (hl : xs.length + 2 * (x.sz + 1) ≤ 1000000) (hok : x.ok) (hn : x.sz ≤ n) :
    CD Tryz.prog 267 [.bx g 302 (.agg [tx, .ov v, dI fst]), .sl v 6 308 (xs.map StepD.d)] [dP g 0, .agg [Pt.d x, dB rn, dB ra], dI th] (fun r H' => ∃ v' xs' i, xs.length ≤ xs'.length ∧ xs'.length + 1 ≤ xs.length + 2 * (x.sz + 1) ∧ r = dI i ∧ H' = MB g tx v' fst xs') := by
  refine zq Tryz.func267 rfl (N := 43) rfl rfl (fun C => ?_)
  refine jk [0, 1, 2] rfl ?_
  refine JD.bd 1 rfl (fun bd1 => ?_)
  refine jT rfl (oE rfl (zbf rfl (CellD.agg)) ?_)
  rintro _ _ ⟨g1, rfl, rfl⟩
  refine oR 1 rfl (oZ rfl (jS rfl (jT rfl (oP rfl (zd rfl fa_320_2 rfl) (oP rfl (ze rfl (i := 0) rfl Tryz.isAgg4 rfl) (oP rfl (zbc rfl) (oZ rfl ?_)))))))
  refine jC rfl (fun hc2 => ?_) (fun hc2 => ?_)
  · simp only [bA, bB, bC, bD, bE, bF, bG, bH, bI, bJ] at hc2
    refine jT rfl (oR 2 rfl (oP rfl (zd rfl fa_320_0 rfl) (oP rfl (ze rfl (i := 0) rfl Tryz.isAgg20 rfl) (oR 1 rfl (OpsD.subH (HSub.perm (zc (i := 2) rfl)) (on rfl (OpsD.subH (HSub.perm (zc (i := 2) rfl)) (on rfl (oE rfl (zl [.bx g 302 (.agg [tx, .ov v, dI fst]), .sl v 6 308 (xs.map StepD.d)] [.bx g1 320 (.agg [Pt.d x, dB rn, dB ra])] [] rfl rfl (.cons ArgC.id (.cons ArgC.id (.cons ArgC.id .nil))) zh Tryz.call263 (ih g (tx) v fst xs x th hok hn (by (try simp only [la, List.length_singleton, ln]); omega)) (.inl rfl)) ?_)))))))))
    rintro _ _ ⟨_, ⟨mv3, ys3, bi3, hba3, hbb3, rfl, rfl⟩, rfl⟩
    refine on rfl (oR 1 rfl (oP rfl (zD [2, 3] [.tmp 17, .tmp 18] (zv := (.agg #[(.bool false), (.bool false), (.slice none 0 0), (.bool false), (.int .i64 0), (.int .i64 0)])) rfl rfl (.cons (CellD.v rfl) (.cons (CellD.v rfl) .nil)) (Tryz.runUnderlying308) Tryz.zeroValue308 zeg ⟨rfl, rfl, rfl, rfl, rfl, rfl, trivial⟩ rfl) (oE rfl (zl [.bx g 302 (.agg [tx, .ov mv3, dI fst]), .sl mv3 6 308 (ys3.map StepD.d)] [.bx g1 320 (.agg [Pt.d x, dB rn, dB ra])] [] rfl rfl (.cons ArgC.id (.cons (ArgC.cv (Cv.agg (.cons Cv.rfl' (.cons Cv.rfl' (.cons Cv.nil (.cons Cv.rfl' (.cons Cv.rfl' (.cons Cv.rfl' .nil)))))))) .nil)) zh Tryz.call262 (zes g (tx) mv3 fst ys3 false false [] false bi3 th (by (try simp only [la, List.length_singleton, ln]); omega)) (.inl rfl)) ?_)))
    rintro _ _ ⟨_, ⟨mv4, rfl, rfl⟩, rfl⟩
    have halmv4 : (ys3 ++ [StepD.mk false false [] false bi3 th]).length = ys3.length + 1 := by simp only [la, List.length_singleton, ln]
    refine on rfl (oR 1 rfl (oZ rfl (jk [0, 2, 4, 6] rfl (zn rfl (zj (pn rfl ?_))))))
    exact zi Tryz.results267 (.cons (zm rfl) .nil) rfl (HSub.fst 2 rfl) ⟨mv4, (ys3 ++ [StepD.mk false false [] false bi3 th]), ((ys3.length : Nat) : Int), (by (try simp only [la, List.length_singleton, ls]); omega), (by (try simp only [la, List.length_singleton, ls]); omega), rfl, rfl⟩
  · simp only [bA, bB, bC, bD, bE, bF, bG, bH, bI, bJ] at hc2
    refine zr rfl (zo (jT rfl (oR 3 rfl (oP rfl (zD [2, 3] [.tmp 22, .tmp 23] (zv := (.agg #[(.bool false), (.bool false), (.slice none 0 0), (.bool false), (.int .i64 0), (.int .i64 0)])) rfl rfl (.cons (CellD.v rfl) (.cons (CellD.v rfl) .nil)) (Tryz.runUnderlying308) Tryz.zeroValue308 zeg ⟨rfl, rfl, rfl, rfl, rfl, rfl, trivial⟩ rfl) (OpsD.subH (HSub.perm (zc (i := 2) rfl)) (on rfl (OpsD.subH (HSub.perm (zc (i := 2) rfl)) (on rfl (oE rfl (zl [.bx g 302 (.agg [tx, .ov v, dI fst]), .sl v 6 308 (xs.map StepD.d)] [.bx g1 320 (.agg [Pt.d x, dB rn, dB ra])] [] rfl rfl (.cons ArgC.id (.cons (ArgC.cv (Cv.agg (.cons Cv.rfl' (.cons Cv.rfl' (.cons Cv.nil (.cons Cv.rfl' (.cons Cv.rfl' (.cons Cv.rfl' .nil)))))))) .nil)) zh Tryz.call262 (zes g (tx) v fst xs false false [] false th th (by (try simp only [la, List.length_singleton, ln]); omega)) (.inl rfl)) ?_)))))))))
    rintro _ _ ⟨_, ⟨mv5, rfl, rfl⟩, rfl⟩
    have halmv5 : (xs ++ [StepD.mk false false [] false th th]).length = xs.length + 1 := by simp only [la, List.length_singleton, ln]
    refine on rfl (oR 1 rfl (oZ rfl (jk [0, 4, 6, 7] rfl (jT rfl (oR 1 rfl (oP rfl (zd rfl fa_320_0 rfl) (oP rfl (ze rfl (i := 2) rfl Tryz.isAgg20 rfl) (oR 1 rfl (oE rfl (zl [.bx g 302 (.agg [tx, .ov mv5, dI fst]), .sl mv5 6 308 ((xs ++ [StepD.mk false false [] false th th]).map StepD.d)] [.bx g1 320 (.agg [Pt.d x, dB rn, dB ra])] [] rfl rfl (.cons ArgC.id (.cons ArgC.id (.cons ArgC.id .nil))) zh Tryz.call263 (ih g (tx) mv5 fst (xs ++ [StepD.mk false false [] false th th]) x ((xs.length : Nat) : Int) hok hn (by (try simp only [la, List.length_singleton, ln]); omega)) (.inl rfl)) ?_)))))))))
    rintro _ _ ⟨_, ⟨mv6, ys6, bi6, hba6, hbb6, rfl, rfl⟩, rfl⟩
    refine on rfl (oR 1 rfl (oZ rfl (jS rfl ?_)))
    have htn : xs.length < ys6.length := by omega
    refine zf rfl (oR 2 rfl (oP rfl (zd rfl fa_302_1 rfl) (oP rfl (ze rfl (i := 0) rfl Tryz.isAgg300 rfl) (oR 2 rfl ?_))))
    obtain ⟨x1, hx1⟩ := zaq ys6 xs.length (by omega)
    refine oP rfl (p_indexAddr_sl (k := xs.length) (j := 1) rfl rfl rfl Tryz.runUnderlying300 Tryz.sizeOf308 (by first | rfl | omega) (zan hx1)) (oP rfl (zd rfl fa_308_2 rfl) (oE rfl (ef_store_m (f := StepD.d) (k := xs.length) (z := 6) (o := 4) (i := 1) (a' := (StepD.mk x1.all x1.nt x1.items x1.rn bi6 x1.b)) rfl rfl hx1 rfl (CellD.v rfl) Tryz.sizeOf3 rfl rfl rfl) ?_))
    rintro _ _ ⟨rfl, rfl⟩
    refine on rfl (oZ rfl (jk [4, 6, 7, 8] rfl (jS rfl (jT rfl (oP rfl (zd rfl fa_320_1 rfl) (oP rfl (ze rfl (i := 2) rfl Tryz.isAgg4 rfl) (oZ rfl ?_)))))))
    refine jC rfl (fun hc7 => ?_) (fun hc7 => ?_)
    · skip
      refine jT rfl (oR 2 rfl (oZ rfl (zn rfl (zj (pn rfl ?_)))))
      exact zi Tryz.results267 (.cons (zm rfl) .nil) rfl (HSub.fst 2 rfl) ⟨mv6, (ys6.set xs.length (StepD.mk x1.all x1.nt x1.items x1.rn bi6 x1.b)), ((xs.length : Nat) : Int), (by (try simp only [la, List.length_singleton, ls]); omega), (by (try simp only [la, List.length_singleton, ls]); omega), rfl, rfl⟩
    · skip
      refine zr rfl (zo (jT rfl (oR 2 rfl (oZ rfl (zn rfl (pn rfl ?_))))))
      exact zi Tryz.results267 (.cons (zm rfl) .nil) rfl (HSub.fst 2 rfl) ⟨mv6, (ys6.set xs.length (StepD.mk x1.all x1.nt x1.items x1.rn bi6 x1.b)), bi6, (by (try simp only [la, List.length_singleton, ls]); omega), (by (try simp only [la, List.length_singleton, ls]); omega), rfl, rfl⟩

theorem pbuild_rep (g : Nat) (tx : D) (v : Value) (fst : Int) (xs : List StepD) (x : Pt) (rn ra : Bool) (th : Int) (n : Nat) (ih : zd8 n) (hl : xs.length + 2 * (x.sz + 1) ≤ 1000000) (hok : x.ok) (hn : x.sz ≤ n) :
    CD Tryz.prog 263 [.bx g 302 (.agg [tx, .ov v, dI fst]), .sl v 6 308 (xs.map StepD.d)] [dP g 0, .ifc 320 (.agg [Pt.d x, dB rn, dB ra]), dI th] (fun r H' => ∃ v' xs' i, xs.length ≤ xs'.length ∧ xs'.length + 1 ≤ xs.length + 2 * (x.sz + 1) ∧ r = dI i ∧ H' = MB g tx v' fst xs') := by
  refine zq Tryz.func263 rfl (N := 93) rfl rfl (fun C => ?_)
  refine jk [0, 1, 2] rfl (jT rfl (oR 1 rfl (oZ rfl (jS rfl (jT rfl (oR 1 rfl (oP rfl ((zaD (zv := (.agg #[(.bool false), (.bool false), (.slice none 0 0)])) rfl (fun _ _ => by kernel_rfl)).cv (Cv.tup (.cons (Cv.vagg (by decide)) (.cons Cv.rfl' .nil)))) (oR 3 rfl (oE rfl (zx (zv := (.agg #[(.bool false), (.bool false), (.slice none 0 0)])) Tryz.zeroValue315 ⟨rfl, rfl, rfl, trivial⟩ (Cv.vagg (by decide))) ?_)))))))))
  rintro _ _ ⟨g1, rfl, rfl⟩
  refine oE rfl (zg (i := 0) (X' := .agg [dB false, dB false, dZ]) rfl rfl rfl (CellD.agg) Tryz.sizeOf315 rfl rfl rfl) ?_
  rintro _ _ ⟨rfl, rfl⟩
  refine on rfl (oR 1 rfl (oZ rfl (jT rfl (oR 1 rfl (oZ rfl (jCf rfl (zr rfl (zo (jS rfl (jT rfl (oR 1 rfl (oP rfl ((zaD (zv := (.agg #[(.slice none 0 0)])) rfl (fun _ _ => by kernel_rfl)).cv (Cv.tup (.cons (Cv.vagg (by decide)) (.cons Cv.rfl' .nil)))) (oR 3 rfl (oE rfl (zx (zv := (.agg #[(.slice none 0 0)])) Tryz.zeroValue317 ⟨rfl, trivial⟩ (Cv.vagg (by decide))) ?_))))))))))))))
  rintro _ _ ⟨g2, rfl, rfl⟩
  refine oE rfl (zg (i := 0) (X' := .agg [dZ]) rfl rfl rfl (CellD.agg) Tryz.sizeOf317 rfl rfl rfl) ?_
  rintro _ _ ⟨rfl, rfl⟩
  refine on rfl (oR 1 rfl (oZ rfl (jk [0, 1, 2, 6, 9, 10] rfl (jT rfl (oR 1 rfl (oZ rfl (jCf rfl (zr rfl (zo (jS rfl (jT rfl (oR 1 rfl (oP rfl (zbD rfl (fun _ _ => by kernel_rfl)) (oR 3 rfl (oE rfl (zx (zv := (.agg #[.nilIface, (.bool false), (.bool false)])) Tryz.zeroValue320 ⟨rfl, rfl, rfl, trivial⟩ (Cv.vagg (by decide))) ?_)))))))))))))))
  rintro _ _ ⟨g3, rfl, rfl⟩
  refine oE rfl (zg (i := 0) (X' := .agg [Pt.d x, dB rn, dB ra]) rfl rfl rfl (CellD.agg) Tryz.sizeOf320 rfl rfl rfl) ?_
  rintro _ _ ⟨rfl, rfl⟩
  refine on rfl (oR 1 rfl (oZ rfl (jT rfl (oR 1 rfl (oZ rfl (jk [0, 1, 2, 6, 12, 62] rfl (jCt rfl (jT rfl (oR 1 rfl (oP rfl (zy (d := .agg [Pt.d x, dB rn, dB ra]) rfl (i := 0) rfl Tryz.isAgg320 Tryz.sizeOf320 rfl rfl) (oR 1 rfl (OpsD.subH (HSub.perm (zc (i := 4) rfl)) (on rfl (OpsD.subH (HSub.perm (zc (i := 4) rfl)) (on rfl (oE rfl (zl [.bx g 302 (.agg [tx, .ov v, dI fst]), .sl v 6 308 (xs.map StepD.d)] [.bx g3 320 (.agg [Pt.d x, dB rn, dB ra]), .bx g2 317 (.agg [dZ]), .bx g1 315 (.agg [dB false, dB false, dZ])] [] rfl rfl (.cons ArgC.id (.cons ArgC.id (.cons ArgC.id .nil))) zh Tryz.call267 (pagain_s g (tx) v fst xs x rn ra th n ih (by omega) hok hn) (.inl rfl)) ?_))))))))))))))))
  rintro _ _ ⟨_, ⟨mv4, ys4, bi4, hba4, hbb4, rfl, rfl⟩, rfl⟩
  refine on rfl (oR 1 rfl (oZ rfl (zn rfl (zj (pn rfl ?_)))))
  exact zi Tryz.results263 (.cons (zm rfl) .nil) rfl (HSub.fst 2 rfl) ⟨mv4, ys4, bi4, (by (try simp only [la, List.length_singleton, ln]); omega), (by (try simp only [la, List.length_singleton, Pt.sz]); omega), rfl, rfl⟩

theorem pbuild_alt (g : Nat) (tx : D) (v : Value) (fst : Int) (xs : List StepD) (l : List Pt) (th : Int) (n : Nat) (ih : zd8 n) (hl : xs.length + 2 * (Pt.szL l + 1) ≤ 1000000) (hok : Pt.okL l) (hne : 0 < l.length) (hn : Pt.szL l ≤ n) :
    CD Tryz.prog 263 [.bx g 302 (.agg [tx, .ov v, dI fst]), .sl v 6 308 (xs.map StepD.d)] [dP g 0, .ifc 312 (.agg [.sh 1 (l.map Pt.d)]), dI th] (fun r H' => ∃ v' xs' i, xs.length ≤ xs'.length ∧ xs'.length + 1 ≤ xs.length + 2 * (Pt.szL l + 1) ∧ r = dI i ∧ H' = MB g tx v' fst xs') := by
  refine zq Tryz.func263 rfl (N := 93) rfl rfl (fun C => ?_)
  refine jk [0, 1, 2] rfl ?_
  have hll := szL_len l
  refine jT rfl (oR 1 rfl (oZ rfl (jS rfl (jT rfl (oR 1 rfl (oP rfl ((zaD (zv := (.agg #[(.bool false), (.bool false), (.slice none 0 0)])) rfl (fun _ _ => by kernel_rfl)).cv (Cv.tup (.cons (Cv.vagg (by decide)) (.cons Cv.rfl' .nil)))) (oR 3 rfl (oE rfl (zx (zv := (.agg #[(.bool false), (.bool false), (.slice none 0 0)])) Tryz.zeroValue315 ⟨rfl, rfl, rfl, trivial⟩ (Cv.vagg (by decide))) ?_))))))))
  rintro _ _ ⟨g1, rfl, rfl⟩
  refine oE rfl (zg (i := 0) (X' := .agg [dB false, dB false, dZ]) rfl rfl rfl (CellD.agg) Tryz.sizeOf315 rfl rfl rfl) ?_
  rintro _ _ ⟨rfl, rfl⟩
  refine on rfl (oR 1 rfl (oZ rfl (jT rfl (oR 1 rfl (oZ rfl (jCf rfl (zr rfl (zo (jS rfl (jT rfl (oR 1 rfl (oP rfl ((zaD (zv := (.agg #[(.slice none 0 0)])) rfl (fun _ _ => by kernel_rfl)).cv (Cv.tup (.cons (Cv.vagg (by decide)) (.cons Cv.rfl' .nil)))) (oR 3 rfl (oE rfl (zx (zv := (.agg #[(.slice none 0 0)])) Tryz.zeroValue317 ⟨rfl, trivial⟩ (Cv.vagg (by decide))) ?_))))))))))))))
  rintro _ _ ⟨g2, rfl, rfl⟩
  refine oE rfl (zg (i := 0) (X' := .agg [dZ]) rfl rfl rfl (CellD.agg) Tryz.sizeOf317 rfl rfl rfl) ?_
  rintro _ _ ⟨rfl, rfl⟩
  refine on rfl (oR 1 rfl (oZ rfl (jk [0, 1, 2, 6, 9, 10] rfl (jT rfl (oR 1 rfl (oZ rfl (jCf rfl (zr rfl (zo (jS rfl (jT rfl (oR 1 rfl (oP rfl ((zaD (zv := (.agg #[.nilIface, (.bool false), (.bool false)])) rfl (fun _ _ => by kernel_rfl)).cv (Cv.tup (.cons (Cv.vagg (by decide)) (.cons Cv.rfl' .nil)))) (oR 3 rfl (oE rfl (zx (zv := (.agg #[.nilIface, (.bool false), (.bool false)])) Tryz.zeroValue320 ⟨rfl, rfl, rfl, trivial⟩ (Cv.vagg (by decide))) ?_)))))))))))))))
  rintro _ _ ⟨g3, rfl, rfl⟩
  refine oE rfl (zg (i := 0) (X' := .agg [.v .nilIface, dB false, dB false]) rfl rfl rfl (CellD.agg) Tryz.sizeOf320 rfl rfl rfl) ?_
  rintro _ _ ⟨rfl, rfl⟩
  refine on rfl (oR 1 rfl (oZ rfl (jT rfl (oR 1 rfl (oZ rfl (jk [0, 1, 2, 6, 12, 62] rfl (jCf rfl (zr rfl (zo (jT rfl (oR 1 rfl (oP rfl (p_assert_1 rfl (fun _ _ => by kernel_rfl)) (oP rfl (p_field rfl rfl rfl fg_312_0 rfl) (oR 1 rfl (oZ rfl (jT rfl (oR 2 rfl ?_)))))))))))))))))
  obtain ⟨x1, hx1⟩ := zaq l 0 (by omega)
  have hxo := okL_get hok hx1
  have hxz := szL_mem hx1
  have hlt := sz_tail hx1
  have hlo := ok_tail hok
  have hlq := szL_len ((l.take l.length).drop 1)
  refine oP rfl (zK (k := 0) rfl rfl Tryz.runUnderlying310 Tryz.sizeOf20 (by first | rfl | omega) (zan hx1)) (oP rfl (zav rfl Tryz.isAgg20 rfl) (oR 1 rfl (OpsD.subH (HSub.perm (zc (i := 4) rfl)) (on rfl (OpsD.subH (HSub.perm (zc (i := 4) rfl)) (on rfl (oE rfl (zl [.bx g 302 (.agg [tx, .ov v, dI fst]), .sl v 6 308 (xs.map StepD.d)] [.bx g3 320 (.agg [.v .nilIface, dB false, dB false]), .bx g2 317 (.agg [dZ]), .bx g1 315 (.agg [dB false, dB false, dZ])] [] rfl rfl (.cons ArgC.id (.cons ArgC.id (.cons ArgC.id .nil))) zh Tryz.call263 (ih g (tx) v fst xs x1 th hxo (by omega) (by (try simp only [la, List.length_singleton, ln]); omega)) (.inl rfl)) ?_)))))))
  rintro _ _ ⟨_, ⟨mv4, ys4, bi4, hba4, hbb4, rfl, rfl⟩, rfl⟩
  refine on rfl (oR 1 rfl (oZ rfl (jk [0, 2, 6, 14, 15] rfl (jS rfl (jT rfl (oR 1 rfl (oP rfl ((zdY (a := 1) (b := l.length) rfl rfl rfl (by first | rfl | (show _ = _; (try simp only [lm]); omega) | exact List.length_map _) (by first | rfl | (show _ = _; (try simp only [lm]); omega) | exact List.length_map _) Tryz.runUnderlying310 Tryz.sizeOf20 (by omega) (by simp only [lm]; omega)).cv (Cv.eq (by rw [← List.map_take, ← List.map_drop]))) (oP rfl (zaV (n := ((l.take l.length).drop 1).length) rfl Tryz.runUnderlying310 (by simp only [lm, lc, ln])) (oR 1 rfl (oZ rfl (jB rfl (JD.subH (HSub.perm (zc (i := 1) rfl)) (jn rfl (JD.subH (HSub.perm (zc (i := 1) rfl)) (jn rfl (JD.subH (HSub.perm (zc (i := 4) rfl)) (jn rfl (JD.subH (HSub.perm (zc (i := 4) rfl)) (jn rfl (JD.subH (HSub.perm (zc (i := 4) rfl)) (jn rfl ?_)))))))))))))))))))))
  refine jl4 (fun (a_ : Nat) (b_ : Int) (c_ : Value) (d_ : List StepD) => [(0, dP g 0), (2, dI th), (6, dI 0), (77, .sh 1 (((l.take l.length).drop 1).map Pt.d)), (78, dN (((l.take l.length).drop 1).length)), (79, dN a_), (15, dI b_)]) (fun a_ b_ c_ d_ => [.bx g3 320 (.agg [.v .nilIface, dB false, dB false]), .bx g2 317 (.agg [dZ]), .bx g1 315 (.agg [dB false, dB false, dZ]), .bx g 302 (.agg [tx, .ov c_, dI fst]), .sl c_ 6 308 (d_.map StepD.d)]) (fun a_ b_ c_ d_ => (a_ ≤ ((l.take l.length).drop 1).length) ∧ (xs.length ≤ d_.length) ∧ (d_.length + 1 + 2 * Pt.szL (((l.take l.length).drop 1).drop a_) ≤ xs.length + 2 * Pt.szL l)) (fun a_ b_ c_ d_ => ((l.take l.length).drop 1).length - a_) 0 bi4 mv4 ys4 rfl (sa rfl) HSub.rfl' ⟨Nat.zero_le _, (by omega), (by rw [List.drop_zero]; omega)⟩ ?_
  rintro k t w ys ⟨hkl, hya, hyb⟩
  refine ja rfl (jn rfl (jT rfl (oP rfl (zaA rfl rfl rfl) (oZ rfl (jS rfl ?_)))))
  refine jD rfl (fun hc5 => ?_) (fun hc5 => ?_)
  · skip
    refine zr rfl (zo (jS rfl (jB rfl (jT rfl ?_))))
    obtain ⟨x2, hx2⟩ := zaq ((l.take l.length).drop 1) k (by omega)
    have hyo := okL_get hlo hx2
    have hyz := szL_mem hx2
    have hyd := szL_drop _ k hx2
    refine oP rfl (zK (k := k) rfl rfl Tryz.runUnderlying310 Tryz.sizeOf20 (by first | rfl | omega) (zan hx2)) (oP rfl (zav rfl Tryz.isAgg20 rfl) (oR 1 rfl (oZ rfl (zf rfl (oR 5 rfl (OpsD.subH (HSub.perm (zc (i := 4) rfl)) (on rfl (OpsD.subH (HSub.perm (zc (i := 4) rfl)) (on rfl (oE rfl (zl [.bx g 302 (.agg [tx, .ov w, dI fst]), .sl w 6 308 (ys.map StepD.d)] [.bx g3 320 (.agg [.v .nilIface, dB false, dB false]), .bx g2 317 (.agg [dZ]), .bx g1 315 (.agg [dB false, dB false, dZ])] [] rfl rfl (.cons ArgC.id (.cons ArgC.id (.cons ArgC.id .nil))) zh Tryz.call263 (ih g (tx) w fst ys x2 th hyo (by omega) (by (try simp only [la, List.length_singleton, ln]); omega)) (.inl rfl)) ?_))))))))))
    rintro _ _ ⟨_, ⟨mv6, ys6, bi6, hba6, hbb6, rfl, rfl⟩, rfl⟩
    refine on rfl (oP rfl (zD [2, 3] [.tmp 84, .tmp 88] (zv := (.agg #[(.bool false), (.bool false), (.slice none 0 0), (.bool false), (.int .i64 0), (.int .i64 0)])) rfl rfl (.cons (CellD.v rfl) (.cons (CellD.v rfl) .nil)) (Tryz.runUnderlying308) Tryz.zeroValue308 zeg ⟨rfl, rfl, rfl, rfl, rfl, rfl, trivial⟩ rfl) (oE rfl (zl [.bx g 302 (.agg [tx, .ov mv6, dI fst]), .sl mv6 6 308 (ys6.map StepD.d)] [.bx g3 320 (.agg [.v .nilIface, dB false, dB false]), .bx g2 317 (.agg [dZ]), .bx g1 315 (.agg [dB false, dB false, dZ])] [] rfl rfl (.cons ArgC.id (.cons (ArgC.cv (Cv.agg (.cons Cv.rfl' (.cons Cv.rfl' (.cons Cv.nil (.cons Cv.rfl' (.cons Cv.rfl' (.cons Cv.rfl' .nil)))))))) .nil)) zh Tryz.call262 (zes g (tx) mv6 fst ys6 false false [] false t bi6 (by (try simp only [la, List.length_singleton, ln]); omega)) (.inl rfl)) ?_))
    rintro _ _ ⟨_, ⟨mv7, rfl, rfl⟩, rfl⟩
    have halmv7 : (ys6 ++ [StepD.mk false false [] false t bi6]).length = ys6.length + 1 := by simp only [la, List.length_singleton, ln]
    refine on rfl (oR 1 rfl (zp rfl (zB (zo (zf rfl (oP rfl (zb1 (c := ((k + 1 : Nat) : Int)) rfl rfl (zaZ (by omega) (by omega))) (oR 1 rfl (zp rfl (PD.subH (HSub.perm (zc (i := 1) rfl)) (pn rfl (PD.subH (HSub.perm (zc (i := 1) rfl)) (pn rfl (PD.subH (HSub.perm (zc (i := 4) rfl)) (pn rfl (PD.subH (HSub.perm (zc (i := 4) rfl)) (pn rfl (PD.subH (HSub.perm (zc (i := 4) rfl)) (pn rfl (pn rfl ?_)))))))))))))))))))
    exact pl4 (k + 1) ((ys6.length : Nat) : Int) mv7 (ys6 ++ [StepD.mk false false [] false t bi6]) (sa rfl) HSub.rfl' ⟨by show k + 1 ≤ ((l.take l.length).drop 1).length; omega, by simp only [la, List.length_singleton, ln]; omega, by simp only [la, List.length_singleton, ln]; omega⟩ (by omega)
  · skip
    refine zah rfl (zH (zE (zC (zo (jT rfl (oR 2 rfl (oZ rfl (zn rfl (PD.subH (HSub.perm (zc (i := 4) rfl)) (pn rfl (PD.subH (HSub.perm (zc (i := 4) rfl)) (pn rfl (pn rfl ?_)))))))))))))
    exact zi Tryz.results263 (.cons (zm rfl) .nil) rfl (HSub.fst 2 rfl) ⟨w, ys, t, (by (try simp only [la, List.length_singleton, ln]); omega), (by (try simp only [la, List.length_singleton, Pt.sz]); omega), rfl, rfl⟩

theorem buildOk : ∀ n : Nat, zd8 n
  | 0 => fun g tx v fst xs x th hok hz => absurd hz (by have := sz_pos x; omega)
  | n + 1 => fun g tx v fst xs x th hok hz hl => by
    cases x with
    | one st => exact pbuild_one g tx v fst xs st th hl
    | row l =>
      rw [← row_d]
      exact pbuild_row g tx v fst xs l th n (buildOk n) hl hok (by simp only [Pt.sz] at hz; omega)
    | alt l =>
      rw [← alt_d]
      exact pbuild_alt g tx v fst xs l th n (buildOk n) hl hok.2 (List.length_pos_iff.2 hok.1) (by simp only [Pt.sz] at hz; omega)
    | rep x a b => exact pbuild_rep g tx v fst xs x a b th n (buildOk n) hl hok (by simp only [Pt.sz] at hz; omega)
end Lp
/- Walks, printed by a program of mine. -/
set_option linter.unusedSimpArgs false
set_option linter.unusedVariables false
set_option maxHeartbeats 4000000
set_option maxRecDepth 100000
namespace Lp
open Go Go.RowKit Go.Proofs

namespace HdYtheccaeefigajaaGreatDoorV96
theorem bd_291 : ∀ w, ((#[⟨"m", 65, 0, false, "", "leporello/store", 0⟩, ⟨"p", 289, 3, false, "", "leporello/store", 40⟩] : Array Field).mapM fun f => do pure (f.offset, ← Go.sizeOf f.type) : Sem (Array (Nat × Nat))).run Tryz.prog w = .ok ([(0, 3), (3, 1)] : List (Nat × Nat)).toArray w := fun _ => by kernel_rfl
theorem bd_298 : ∀ w, ((#[⟨"l", 130, 0, false, "", "leporello/pattern", 0⟩, ⟨"bad", 4, 1, false, "", "leporello/pattern", 24⟩] : Array Field).mapM fun f => do pure (f.offset, ← Go.sizeOf f.type) : Sem (Array (Nat × Nat))).run Tryz.prog w = .ok ([(0, 1), (1, 1)] : List (Nat × Nat)).toArray w := fun _ => by kernel_rfl
theorem bd_302 : ∀ w, ((#[⟨"text", 9, 0, false, "", "leporello/pattern", 0⟩, ⟨"steps", 300, 1, false, "", "leporello/pattern", 16⟩, ⟨"first", 3, 2, false, "", "leporello/pattern", 40⟩] : Array Field).mapM fun f => do pure (f.offset, ← Go.sizeOf f.type) : Sem (Array (Nat × Nat))).run Tryz.prog w = .ok ([(0, 1), (1, 1), (2, 1)] : List (Nat × Nat)).toArray w := fun _ => by kernel_rfl
theorem zeg : ∀ w, ((#[⟨"s", 306, 0, false, "", "leporello/pattern", 0⟩, ⟨"rune", 4, 3, false, "", "leporello/pattern", 32⟩, ⟨"a", 3, 4, false, "", "leporello/pattern", 40⟩, ⟨"b", 3, 5, false, "", "leporello/pattern", 48⟩] : Array Field).mapM fun f => do pure (f.offset, ← Go.sizeOf f.type) : Sem (Array (Nat × Nat))).run Tryz.prog w = .ok ([(0, 3), (3, 1), (4, 1), (5, 1)] : List (Nat × Nat)).toArray w := fun _ => by kernel_rfl
theorem zar (b o : Nat) : ∀ w, (Instr.fieldAt 298 (.pointer (some ⟨b, o, none⟩)) 0).run Tryz.prog w = .ok (.pointer (some ⟨b, o + 0, none⟩)) w := fun _ => by kernel_rfl
theorem zI (b o : Nat) : ∀ w, (Instr.fieldAt 298 (.pointer (some ⟨b, o, none⟩)) 1).run Tryz.prog w = .ok (.pointer (some ⟨b, o + 1, none⟩)) w := fun _ => by kernel_rfl
theorem fa_302_2 (b o : Nat) : ∀ w, (Instr.fieldAt 302 (.pointer (some ⟨b, o, none⟩)) 2).run Tryz.prog w = .ok (.pointer (some ⟨b, o + 2, none⟩)) w := fun _ => by kernel_rfl
theorem fa_65_0 (b o : Nat) : ∀ w, (Instr.fieldAt 65 (.pointer (some ⟨b, o, none⟩)) 0).run Tryz.prog w = .ok (.pointer (some ⟨b, o + 0, none⟩)) w := fun _ => by kernel_rfl
theorem zdn (b o : Nat) : ∀ w, (Instr.fieldAt 65 (.pointer (some ⟨b, o, none⟩)) 1).run Tryz.prog w = .ok (.pointer (some ⟨b, o + 1, none⟩)) w := fun _ => by kernel_rfl
theorem fa_65_2 (b o : Nat) : ∀ w, (Instr.fieldAt 65 (.pointer (some ⟨b, o, none⟩)) 2).run Tryz.prog w = .ok (.pointer (some ⟨b, o + 2, none⟩)) w := fun _ => by kernel_rfl
end HdYtheccaeefigajaaGreatDoorV96
open HdYtheccaeefigajaaGreatDoorV96

noncomputable def patE (s : ByteArray) : Int := if 40 < (zab s).length then 1 else if patR (zab s) = true then 0 else 2
theorem pat_e {s : ByteArray} {x : Pt} {s1 : PR} (e : (x, s1) = altF ((zab s).length + 1) ⟨zab s, false⟩) : patR (zab s) = (decide ((zab s).length ≤ 40) && !s1.b && decide (s1.l = [])) := by unfold patR; rw [← e]
theorem pat_long {s : ByteArray} (h : 40 < (zab s).length) : 1 = patE s := by unfold patE; rw [if_pos h]
theorem pat_bad {s : ByteArray} {x : Pt} {s1 : PR} (e : (x, s1) = altF ((zab s).length + 1) ⟨zab s, false⟩) (h : ¬ 40 < (zab s).length) (hb : s1.b = true ∨ 0 < s1.l.length) : 2 = patE s := by
  unfold patE; rw [if_neg h, if_neg]; rw [pat_e e]
  rcases hb with hb | hb
  · rw [hb]; simp
  · rw [decide_eq_false (List.ne_nil_of_length_pos hb)]; simp
theorem pat_good {s : ByteArray} {x : Pt} {s1 : PR} (e : (x, s1) = altF ((zab s).length + 1) ⟨zab s, false⟩) (h : ¬ 40 < (zab s).length) (hb : s1.b = false ∧ s1.l.length = 0) : 0 = patE s := by
  unfold patE; rw [if_neg h, if_pos]; rw [pat_e e, hb.1, decide_eq_true (List.length_eq_zero_iff.1 hb.2), decide_eq_true (by omega)]; rfl
theorem pt_facts {f : Nat} {s s' : PR} {x : Pt} (e : (x, s') = altF f s) : x.sz + 3 * s'.l.length ≤ 3 * s.l.length + 2 ∧ x.ok := by
  have h := altF_sz f s
  rw [← e] at h; exact h
theorem Cv.any {u : Value} (h : u.oneCell' = true) : Cv (.v u) .any := ⟨fun _ _ _ e => by rw [show _ = u from e]; exact h⟩
theorem Cv.oany {u : Value} : Cv (.ov u) .any := ⟨fun _ _ _ e => by rw [e.1]; exact e.2⟩
theorem runes_ok (s : ByteArray) : ROk (zab s) := by
  have key : ∀ (n p : Nat), s.size - p = n → ROk (zaP s p) := by
    intro n
    induction n using Nat.strongRecOn with
    | _ n ih =>
      intro p hn
      by_cases hp : p < s.size
      · have hw := zS s p
        rw [zaK hp]
        intro c hc
        rcases List.mem_cons.1 hc with rfl | hc
        · have := zcC s p; omega
        · exact ih (s.size - (p + decW s p)) (by omega) _ rfl c hc
      · rw [za5 (by omega)]; intro c hc; cases hc
  exact key _ 0 rfl
theorem patE_0 (s : ByteArray) : decide (patE s = 0) = patR (zab s) := by
  unfold patE
  split
  · rename_i h; unfold patR; rw [decide_eq_false (by omega : ¬ (zab s).length ≤ 40)]; simp
  · split
    · rename_i h; rw [h]; rfl
    · rename_i h; simp [h]

theorem pcompile_c (s : ByteArray) (hs : s.size ≤ 1000000) :
    CD Tryz.prog 259 [] [.s s] (fun r H' => r = .tup [.any, dI (patE s)] ∧ H' = []) := by
  refine zq Tryz.func259 rfl (N := 45) rfl rfl (fun C => ?_)
  refine jk [0] rfl ?_
  refine JD.bd 0 rfl (fun bd0 => ?_)
  have sz0 : s.size ≤ 9223372036854775807 := bd0
  have hrl := runesAt_len s _ 0 rfl
  have hrl2 : (zab s).length ≤ s.size := by have e : (zab s).length = (zaP s 0).length := rfl; omega
  refine jT rfl (oR 2 rfl (oZ rfl (jT rfl (oR 1 rfl (oE rfl (zl [] _ [] rfl rfl (.cons ArgC.id .nil) zh Tryz.call152 (Spell_c s (by omega)) (.inl rfl)) ?_)))))
  rintro _ _ ⟨_, ⟨v1, rfl, rfl⟩, rfl⟩
  refine on rfl (oR 1 rfl (oZ rfl (jS rfl (jT rfl (oR 1 rfl (oP rfl (zcd (n := (zab s).length) (j := 0) rfl rfl Tryz.runUnderlying130 (List.length_map _)) (oP rfl (zal rfl rfl rfl) (oZ rfl ?_))))))))
  refine jD rfl (fun hc2 => ?_) (fun hc2 => ?_)
  · skip
    have hlg := pat_long (s := s) (by have h := hc2; omega)
    refine jT rfl (oR 2 rfl (oZ rfl (zn rfl (zj ?_))))
    exact zi Tryz.results259 (.cons (zu (zm rfl) (Cv.any rfl)) (.cons (zu (zm rfl) (Cv.eq (congrArg dI hlg))) .nil)) rfl HSub.none ⟨rfl, rfl⟩
  · skip
    have hsh : ¬ 40 < (zab s).length := by have h := hc2; omega
    refine zr rfl (zo (jS rfl (JD.mv (Mv.freeze (K' := [(0, .s s), (2, .v (.pointer none)), (3, dI 0), (4, .sh 1 ((zab s).map dR)), (9, .s s), (10, .sh 1 ((zab s).map dR)), (11, .sh 1 ((zab s).map dR)), (12, dN ((zab s).length)), (13, dB (decide ((40 : Int) < (((zab s).length : Nat) : Int))))]) [.sl v1 1 21 ((zab s).map dR)] (H1 := []) (H1' := []) ⟨⟨_, rfl, ArgC.id⟩, ⟨_, rfl, ArgC.id⟩, ⟨_, rfl, ArgC.id⟩, ⟨_, rfl, ArgC.own (j := 0) rfl rfl⟩, ⟨_, rfl, ArgC.id⟩, ⟨_, rfl, ArgC.own (j := 0) rfl rfl⟩, ⟨_, rfl, ArgC.own (j := 0) rfl rfl⟩, ⟨_, rfl, ArgC.id⟩, ⟨_, rfl, ArgC.id⟩, trivial⟩ .nil) (zf rfl (oR 1 rfl (oP rfl (zD [0] [.tmp 14] (zv := (.agg #[(.slice none 0 0), (.bool false)])) rfl rfl (.cons CellD.sh .nil) (Tryz.runUnderlying298) Tryz.zeroValue298 bd_298 ⟨rfl, rfl, trivial⟩ rfl) (oE rfl (zbf rfl (CellD.agg)) ?_)))))))
    rintro _ _ ⟨g3, rfl, rfl⟩
    refine oR 1 rfl (oZ rfl (jk [0, 2, 3, 5] rfl (jS rfl ?_)))
    obtain ⟨z, ez⟩ : ∃ x : PR, x = ⟨zab s, false⟩ := ⟨_, rfl⟩
    have hzl : z.l = zab s := by rw [ez]
    have hzT : ROk z.l := by rw [hzl]; exact runes_ok s
    have hzn : z.l.length = (zab s).length := by rw [hzl]
    refine JD.norm [.bx g3 298 (.agg [.sh 1 (z.l.map (fun n => D.v (.int .i32 n))), dB z.b])] (by rw [ez] <;> rfl) (zf rfl (oR 1 rfl (oE rfl (zl [.bx g3 298 (.agg [.sh 1 (z.l.map (fun n => D.v (.int .i32 n))), dB z.b])] [] [] rfl rfl (.cons ArgC.id .nil) zh Tryz.call261 (altOk ((zab s).length + 1) g3 z (by omega) (by omega) hzT) (.inl rfl)) ?_)))
    rintro _ _ ⟨_, ⟨x4, s4, e4, rfl, rfl⟩, rfl⟩
    obtain ⟨hsz4, hok4⟩ := pt_facts e4
    rw [ez] at e4
    have kd4 : s4.l.length ≤ 1000000 := by omega
    refine on rfl (oR 1 rfl (oZ rfl (jS rfl (jS rfl (jk [0, 2, 3, 5, 6] rfl ?_)))))
    refine zT 30 ((s4.b || decide ((0 : Int) < ((s4.l.length : Nat) : Int)))) [.bx g3 298 (.agg [.sh 1 (s4.l.map (fun n => D.v (.int .i32 n))), dB s4.b])] (fun _ hQ5 => ?_) ?_
    · skip
      rcases Bool.eq_false_or_eq_true (s4.b) with hg6 | hg6
      · skip
        refine zf rfl (oR 2 rfl (oP rfl (zd rfl zI rfl) (oP rfl ((ze rfl (i := 0) rfl Tryz.isAgg4 rfl).cv (Cv.eq (congrArg (fun b => D.v (.bool b)) (hg6)))) (oR 8 rfl (zp rfl ?_)))))
        exact PD.sub ((30, dB (s4.b || decide ((0 : Int) < ((s4.l.length : Nat) : Int)))) :: [(0, .s s), (2, .v (.pointer none)), (3, dI 0), (5, dP g3 0), (6, Pt.d x4)]) ⟨sc rfl (Cv.eq (congrArg (fun b => D.v (.bool b)) (by first | (simp [hc2, hg6]; done) | (simp_all; done)))), sk rfl, sk rfl, sk rfl, sk rfl, sk rfl, trivial⟩ hQ5
      · skip
        refine zf rfl (oR 2 rfl (oP rfl (zd rfl zI rfl) (oP rfl ((ze rfl (i := 0) rfl Tryz.isAgg4 rfl).cv (Cv.eq (congrArg (fun b => D.v (.bool b)) (hg6)))) (oR 3 rfl (oG rfl (zd rfl zar rfl) (oG rfl (ze rfl (i := 0) rfl Tryz.isAgg130 rfl) (oG rfl (zaV (n := s4.l.length) rfl Tryz.runUnderlying130 (by simp only [lm, lc, ln])) (oG rfl (zal rfl rfl rfl) (oR 1 rfl (zp rfl ?_))))))))))
        exact PD.sub ((30, dB (s4.b || decide ((0 : Int) < ((s4.l.length : Nat) : Int)))) :: [(0, .s s), (2, .v (.pointer none)), (3, dI 0), (5, dP g3 0), (6, Pt.d x4)]) ⟨sc rfl (Cv.eq (congrArg (fun b => D.v (.bool b)) (by first | (simp [hc2, hg6]; done) | (simp_all; done)))), sk rfl, sk rfl, sk rfl, sk rfl, sk rfl, trivial⟩ hQ5
    · skip
      refine zo ?_
      refine jC rfl (fun hc7 => ?_) (fun hc7 => ?_)
      · simp only [bA, bB, bC, bD, bE, bF, bG, bH, bI, bJ] at hc7
        have hbd := pat_bad e4 hsh (by have h := hc7; rcases h with h | h; exact .inl h; exact .inr (by omega))
        refine jT rfl (oR 2 rfl (oZ rfl (zn rfl (zj ?_))))
        exact zi Tryz.results259 (.cons (zu (zm rfl) (Cv.any rfl)) (.cons (zu (zm rfl) (Cv.eq (congrArg dI hbd))) .nil)) rfl HSub.none ⟨rfl, rfl⟩
      · simp only [bA, bB, bC, bD, bE, bF, bG, bH, bI, bJ] at hc7
        have hgd := pat_good e4 hsh (by have h := hc7; exact ⟨h.1, by omega⟩)
        refine zr rfl (zo (jT rfl (oR 1 rfl (oP rfl (zD [0] [.tmp 31] (zv := (.agg #[(.string ByteArray.empty), (.slice none 0 0), (.int .i64 0)])) rfl rfl (.cons CellD.s .nil) (Tryz.runUnderlying302) Tryz.zeroValue302 bd_302 ⟨rfl, rfl, rfl, trivial⟩ rfl) (oE rfl (zbf rfl (CellD.agg)) ?_)))))
        rintro _ _ ⟨g8, rfl, rfl⟩
        refine oR 1 rfl (oZ rfl (jS rfl (JD.subH (HSub.nil 6 308) (jn rfl (JD.subH (HSub.perm (zc (i := 1) rfl)) (jn rfl (JD.subH (HSub.turn (h' := .bx g8 302 (.agg [.s s, .ov (.slice none 0 0), dI 0])) rfl (Hp.cv_bx (Cv.agg (.cons Cv.rfl' (.cons (Cv.ov rfl) (.cons Cv.rfl' .nil)))))) (zf rfl (oR 1 rfl (oP rfl (zD [2, 3] [.const (.int .i64 (-1)), .const (.int .i64 (-1))] (zv := (.agg #[(.bool false), (.bool false), (.slice none 0 0), (.bool false), (.int .i64 0), (.int .i64 0)])) rfl rfl (.cons (CellD.v rfl) (.cons (CellD.v rfl) .nil)) (Tryz.runUnderlying308) Tryz.zeroValue308 zeg ⟨rfl, rfl, rfl, rfl, rfl, rfl, trivial⟩ rfl) (oE rfl (zl [.bx g8 302 (.agg [.s s, .ov (.slice none 0 0), dI 0]), .sl (.slice none 0 0) 6 308 ([].map StepD.d)] [.bx g3 298 (.agg [.sh 1 (s4.l.map (fun n => D.v (.int .i32 n))), dB s4.b])] [] rfl rfl (.cons ArgC.id (.cons (ArgC.cv (Cv.agg (.cons Cv.rfl' (.cons Cv.rfl' (.cons Cv.nil (.cons Cv.rfl' (.cons Cv.rfl' (.cons Cv.rfl' .nil)))))))) .nil)) zh Tryz.call262 (zes g8 (.s s) (.slice none 0 0) 0 ([] : List StepD) false false [] false (-1) (-1) (by (try simp only [la, List.length_singleton, ln]); omega)) (.inl rfl)) ?_)))))))))))
        rintro _ _ ⟨_, ⟨mv9, rfl, rfl⟩, rfl⟩
        have halmv9 : (([] : List StepD) ++ [StepD.mk false false [] false (-1) (-1)]).length = ([] : List StepD).length + 1 := by simp only [la, List.length_singleton, ln]
        refine on rfl (oR 1 rfl (oZ rfl (jk [2, 3, 6, 7, 8] rfl (jT rfl (oR 4 rfl (oE rfl (zl [.bx g8 302 (.agg [.s s, .ov mv9, dI 0]), .sl mv9 6 308 ((([] : List StepD) ++ [StepD.mk false false [] false (-1) (-1)]).map StepD.d)] [.bx g3 298 (.agg [.sh 1 (s4.l.map (fun n => D.v (.int .i32 n))), dB s4.b])] [] rfl rfl (.cons ArgC.id (.cons ArgC.id (.cons ArgC.id .nil))) zh Tryz.call263 ((buildOk x4.sz) g8 (.s s) mv9 0 (([] : List StepD) ++ [StepD.mk false false [] false (-1) (-1)]) x4 ((([] : List StepD).length : Nat) : Int) hok4 (Nat.le_refl _) (by (try simp only [la, List.length_singleton, ln]); omega)) (.inl rfl)) ?_))))))
        rintro _ _ ⟨_, ⟨mv10, ys10, bi10, hba10, hbb10, rfl, rfl⟩, rfl⟩
        refine on rfl (oR 1 rfl (oP rfl (zd rfl fa_302_2 rfl) (oE rfl (zg (i := 0) (X' := .agg [.s s, .ov mv10, dI bi10]) rfl rfl rfl (CellD.v rfl) Tryz.sizeOf3 rfl rfl rfl) ?_)))
        rintro _ _ ⟨rfl, rfl⟩
        refine on rfl (oZ rfl (jk [2, 3, 7] rfl (jT rfl (oR 3 rfl (oZ rfl (zn rfl ?_))))))
        exact zi Tryz.results259 (.cons (zu (zm rfl) (Cv.any rfl)) (.cons (zu (zm rfl) (Cv.eq (congrArg dI hgd))) .nil)) rfl HSub.none ⟨rfl, rfl⟩

def tstD (m : MatD) : D := .agg [.s m.n, dI m.op, .s m.v, .any]
def noMat : MatD := ⟨ByteArray.empty, 0, ByteArray.empty⟩
theorem ready_c (m : MatD) (hn : m.n.size ≤ 1000000) (hv : m.v.size ≤ 1000000) :
    CD Tryz.prog 257 [] [MatD.d m] (fun r H' => ∃ m', r = .tup [tstD m', dB (zcw m)] ∧ (zcw m = true → m' = m) ∧ H' = []) := by
  refine zq Tryz.func257 rfl (N := 37) rfl rfl (fun C => ?_)
  refine jk [0] rfl ?_
  refine JD.bd 0 rfl (fun bd0 => ?_)
  refine jT rfl (oE rfl (zbf rfl (CellD.agg)) ?_)
  rintro _ _ ⟨g1, rfl, rfl⟩
  refine oE rfl (zx (zv := (.agg #[(.string ByteArray.empty), (.int .i64 0), (.string ByteArray.empty), (.pointer none)])) Tryz.zeroValue291 ⟨rfl, rfl, rfl, rfl, trivial⟩ (Cv.vagg (by decide))) ?_
  rintro _ _ ⟨g2, rfl, rfl⟩
  refine oR 1 rfl (oZ rfl (jS rfl (jS rfl (jk [1, 2, 3] rfl ?_))))
  refine zT 19 (((!(zb2 m.n) || decide (m.op < (1 : Int))) || decide ((4 : Int) < m.op))) [.bx g2 291 (.agg [.v (.string ByteArray.empty), dI 0, .v (.string ByteArray.empty), .v (.pointer none)]), .bx g1 65 (MatD.d m)] (fun _ hQ3 => ?_) ?_
  · skip
    rcases Bool.eq_false_or_eq_true (zb2 m.n) with hg4 | hg4
    · skip
      by_cases hg5 : m.op < (1 : Int)
      · skip
        refine zf rfl (oP rfl (zd rfl fa_65_0 rfl) (oP rfl (ze rfl (i := 1) rfl Tryz.isAgg9 rfl) (oW rfl rfl acs Tryz.call176 (Name_c m.n) (os 8 rfl (congrArg (fun b => D.v (.bool b)) hg4) (oR 2 rfl (oG rfl (zd rfl zdn rfl) (oG rfl (ze rfl (i := 1) rfl Tryz.isAgg3 rfl) (oG rfl (zaA rfl rfl (decide_eq_true hg5)) (oR 6 rfl (zp rfl ?_))))))))))
        exact PD.sub ((19, dB ((!(zb2 m.n) || decide (m.op < (1 : Int))) || decide ((4 : Int) < m.op))) :: [(1, dP g1 0), (2, dP g2 0), (3, dB false)]) ⟨sc rfl (Cv.eq (congrArg (fun b => D.v (.bool b)) (by first | (simp [hg4, hg5]; done) | (simp_all; done)))), sk rfl, sk rfl, sk rfl, trivial⟩ hQ3
      · skip
        refine zf rfl (oP rfl (zd rfl fa_65_0 rfl) (oP rfl (ze rfl (i := 1) rfl Tryz.isAgg9 rfl) (oW rfl rfl acs Tryz.call176 (Name_c m.n) (os 8 rfl (congrArg (fun b => D.v (.bool b)) hg4) (oR 2 rfl (oG rfl (zd rfl zdn rfl) (oG rfl (ze rfl (i := 1) rfl Tryz.isAgg3 rfl) (oG rfl (zaA rfl rfl (decide_eq_false hg5)) (oR 2 rfl (oG rfl (zd rfl zdn rfl) (oG rfl (ze rfl (i := 1) rfl Tryz.isAgg3 rfl) (oG rfl (zal rfl rfl rfl) (oR 1 rfl (zp rfl ?_))))))))))))))
        exact PD.sub ((19, dB ((!(zb2 m.n) || decide (m.op < (1 : Int))) || decide ((4 : Int) < m.op))) :: [(1, dP g1 0), (2, dP g2 0), (3, dB false)]) ⟨sc rfl (Cv.eq (congrArg (fun b => D.v (.bool b)) (by first | (simp [hg4, hg5]; done) | (simp_all; done)))), sk rfl, sk rfl, sk rfl, trivial⟩ hQ3
    · skip
      refine zf rfl (oP rfl (zd rfl fa_65_0 rfl) (oP rfl (ze rfl (i := 1) rfl Tryz.isAgg9 rfl) (oW rfl rfl acs Tryz.call176 (Name_c m.n) (os 8 rfl (congrArg (fun b => D.v (.bool b)) hg4) (oR 11 rfl (zp rfl ?_))))))
      exact PD.sub ((19, dB ((!(zb2 m.n) || decide (m.op < (1 : Int))) || decide ((4 : Int) < m.op))) :: [(1, dP g1 0), (2, dP g2 0), (3, dB false)]) ⟨sc rfl (Cv.eq (congrArg (fun b => D.v (.bool b)) (by first | (simp [hg4]; done) | (simp_all; done)))), sk rfl, sk rfl, sk rfl, trivial⟩ hQ3
  · skip
    refine zo ?_
    refine jC rfl (fun hc6 => ?_) (fun hc6 => ?_)
    · simp only [bA, bB, bC, bD, bE, bF, bG, bH, bI, bJ] at hc6
      have hrd : zcw m = false := by unfold zcw; have h := hc6; rcases h with (h | h) | h; (rw [h]; rfl); (rw [decide_eq_false (by omega : ¬ (1 ≤ m.op ∧ m.op ≤ 4))]; simp); (rw [decide_eq_false (by omega : ¬ (1 ≤ m.op ∧ m.op ≤ 4))]; simp)
      refine jT rfl (oP rfl (zD [] [] (zv := (.agg #[(.string ByteArray.empty), (.int .i64 0), (.string ByteArray.empty), (.pointer none)])) rfl rfl (.nil) (Tryz.runUnderlying291) Tryz.zeroValue291 bd_291 ⟨rfl, rfl, rfl, rfl, trivial⟩ rfl) (oE rfl (zg (i := 0) (X' := .agg [.v (.string ByteArray.empty), dI 0, .v (.string ByteArray.empty), .v (.pointer none)]) rfl rfl rfl (CellD.agg) Tryz.sizeOf291 rfl rfl rfl) ?_))
      rintro _ _ ⟨rfl, rfl⟩
      refine on rfl (oR 1 rfl (oZ rfl (zn rfl (zj ?_))))
      exact zi Tryz.results257 (.cons (zu (zN (X := .agg [.v (.string ByteArray.empty), dI 0, .v (.string ByteArray.empty), .v (.pointer none)]) (d := .agg [.v (.string ByteArray.empty), dI 0, .v (.string ByteArray.empty), .v (.pointer none)]) (i := 0) rfl rfl Tryz.isAgg291 Tryz.sizeOf291 rfl rfl) (Cv.agg (.cons (Cv.str (by decide)) (.cons Cv.rfl' (.cons (Cv.str (by decide)) (.cons (Cv.any rfl) .nil)))))) (.cons (zu (zm rfl) (Cv.eq (congrArg dB hrd.symm))) .nil)) rfl HSub.none ⟨noMat, rfl, (fun h => by rw [hrd] at h; cases h), rfl⟩
    · simp only [bA, bB, bC, bD, bE, bF, bG, bH, bI, bJ] at hc6
      have hgd : zb2 m.n = true ∧ (1 ≤ m.op ∧ m.op ≤ 4) := by have h := hc6; exact ⟨h.1.1, by omega⟩
      refine zr rfl (zo (jS rfl (jT rfl (oP rfl (zd rfl zdn rfl) (oP rfl (ze rfl (i := 1) rfl Tryz.isAgg3 rfl) (oP rfl (zaA rfl rfl rfl) (oZ rfl ?_)))))))
      refine jD rfl (fun hc7 => ?_) (fun hc7 => ?_)
      · skip
        have hrd : zcw m = true := by unfold zcw; rw [hgd.1, decide_eq_true hgd.2, decide_eq_true (by have h := hc7; omega : m.op < 3)]; rfl
        refine jT rfl (oP rfl (zy (d := MatD.d m) rfl (i := 1) rfl Tryz.isAgg65 Tryz.sizeOf65 rfl rfl) (oP rfl (zD [0] [.tmp 24] (zv := (.agg #[(.string ByteArray.empty), (.int .i64 0), (.string ByteArray.empty), (.pointer none)])) rfl rfl (.cons CellD.agg .nil) (Tryz.runUnderlying291) Tryz.zeroValue291 bd_291 ⟨rfl, rfl, rfl, rfl, trivial⟩ rfl) (oE rfl (zg (i := 0) (X' := .agg [.s m.n, dI m.op, .s m.v, .v (.pointer none)]) rfl rfl rfl (CellD.agg) Tryz.sizeOf291 rfl rfl rfl) ?_)))
        rintro _ _ ⟨rfl, rfl⟩
        refine on rfl (oR 1 rfl (oZ rfl (zn rfl (zj ?_))))
        exact zi Tryz.results257 (.cons (zu (zN (X := .agg [.s m.n, dI m.op, .s m.v, .v (.pointer none)]) (d := .agg [.s m.n, dI m.op, .s m.v, .v (.pointer none)]) (i := 0) rfl rfl Tryz.isAgg291 Tryz.sizeOf291 rfl rfl) (Cv.agg (.cons Cv.rfl' (.cons Cv.rfl' (.cons Cv.rfl' (.cons (Cv.any rfl) .nil)))))) (.cons (zu (zm rfl) (Cv.eq (congrArg dB (hrd.symm)))) .nil)) rfl HSub.none ⟨m, rfl, (fun _ => rfl), rfl⟩
      · skip
        have hrd : zcw m = patR (zab m.v) := by unfold zcw; rw [hgd.1, decide_eq_true hgd.2, decide_eq_false (by have h := hc7; omega : ¬ m.op < 3)]; simp
        refine zr rfl (zo (jT rfl (oP rfl (zd rfl fa_65_2 rfl) (oP rfl (ze rfl (i := 1) rfl Tryz.isAgg9 rfl) (oW rfl rfl acs Tryz.call259 (pcompile_c m.v (by omega)) (oR 5 rfl (oZ rfl (jk [1, 2, 3, 4, 5] rfl (jT rfl (oP rfl (zy (d := MatD.d m) rfl (i := 1) rfl Tryz.isAgg65 Tryz.sizeOf65 rfl rfl) (oR 1 rfl (oP rfl (zD [0, 1] [.tmp 32, .tmp 33] (zv := (.agg #[(.string ByteArray.empty), (.int .i64 0), (.string ByteArray.empty), (.pointer none)])) rfl rfl (.cons CellD.agg (.cons CellD.any .nil)) (Tryz.runUnderlying291) Tryz.zeroValue291 bd_291 ⟨rfl, rfl, rfl, rfl, trivial⟩ rfl) (oR 1 rfl (oP rfl (zA rfl rfl rfl) (oE rfl (zg (i := 0) (X' := .agg [.s m.n, dI m.op, .s m.v, .any]) rfl rfl rfl (CellD.agg) Tryz.sizeOf291 rfl rfl rfl) ?_)))))))))))))))
        rintro _ _ ⟨rfl, rfl⟩
        refine on rfl (oR 1 rfl (oZ rfl (zn rfl ?_)))
        exact zi Tryz.results257 (.cons (zu (zN (X := .agg [.s m.n, dI m.op, .s m.v, .any]) (d := .agg [.s m.n, dI m.op, .s m.v, .any]) (i := 0) rfl rfl Tryz.isAgg291 Tryz.sizeOf291 rfl rfl) (Cv.agg (.cons Cv.rfl' (.cons Cv.rfl' (.cons Cv.rfl' (.cons Cv.rfl' .nil)))))) (.cons (zu (zm rfl) (Cv.eq (congrArg dB ((patE_0 m.v).trans hrd.symm)))) .nil)) rfl HSub.none ⟨m, rfl, (fun _ => rfl), rfl⟩
end Lp
