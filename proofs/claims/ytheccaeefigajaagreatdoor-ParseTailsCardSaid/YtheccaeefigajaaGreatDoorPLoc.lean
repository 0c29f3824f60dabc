/- Walks, printed by a program of mine. -/
import Derived.Test.YtheccaeefigajaaGreatDoorPSame8
set_option linter.unusedSimpArgs false
set_option linter.unusedVariables false
set_option maxHeartbeats 4000000
set_option maxRecDepth 100000
namespace Lp
open Go Go.RowKit Go.Proofs

namespace HdYtheccaeefigajaaGreatDoorV107
theorem zdD (b o : Nat) : ∀ w, (Instr.fieldAt 119 (.pointer (some ⟨b, o, none⟩)) 0).run Tryz.prog w = .ok (.pointer (some ⟨b, o + 0, none⟩)) w := fun _ => by kernel_rfl
theorem zaB (b o : Nat) : ∀ w, (Instr.fieldAt 27 (.pointer (some ⟨b, o, none⟩)) 0).run Tryz.prog w = .ok (.pointer (some ⟨b, o + 0, none⟩)) w := fun _ => by kernel_rfl
theorem zaF (b o : Nat) : ∀ w, (Instr.fieldAt 27 (.pointer (some ⟨b, o, none⟩)) 1).run Tryz.prog w = .ok (.pointer (some ⟨b, o + 1, none⟩)) w := fun _ => by kernel_rfl
theorem zaU (b o : Nat) : ∀ w, (Instr.fieldAt 27 (.pointer (some ⟨b, o, none⟩)) 2).run Tryz.prog w = .ok (.pointer (some ⟨b, o + 2, none⟩)) w := fun _ => by kernel_rfl
theorem zbI (b o : Nat) : ∀ w, (Instr.fieldAt 27 (.pointer (some ⟨b, o, none⟩)) 3).run Tryz.prog w = .ok (.pointer (some ⟨b, o + 3, none⟩)) w := fun _ => by kernel_rfl
theorem zci (b o : Nat) : ∀ w, (Instr.fieldAt 27 (.pointer (some ⟨b, o, none⟩)) 4).run Tryz.prog w = .ok (.pointer (some ⟨b, o + 4, none⟩)) w := fun _ => by kernel_rfl
theorem zcV (b o : Nat) : ∀ w, (Instr.fieldAt 27 (.pointer (some ⟨b, o, none⟩)) 5).run Tryz.prog w = .ok (.pointer (some ⟨b, o + 5, none⟩)) w := fun _ => by kernel_rfl
theorem zbH (b o : Nat) : ∀ w, (Instr.fieldAt 27 (.pointer (some ⟨b, o, none⟩)) 6).run Tryz.prog w = .ok (.pointer (some ⟨b, o + 6, none⟩)) w := fun _ => by kernel_rfl
theorem zbG (b o : Nat) : ∀ w, (Instr.fieldAt 29 (.pointer (some ⟨b, o, none⟩)) 0).run Tryz.prog w = .ok (.pointer (some ⟨b, o + 0, none⟩)) w := fun _ => by kernel_rfl
theorem za3 (b o : Nat) : ∀ w, (Instr.fieldAt 29 (.pointer (some ⟨b, o, none⟩)) 1).run Tryz.prog w = .ok (.pointer (some ⟨b, o + 7, none⟩)) w := fun _ => by kernel_rfl
theorem zbz (b o : Nat) : ∀ w, (Instr.fieldAt 29 (.pointer (some ⟨b, o, none⟩)) 2).run Tryz.prog w = .ok (.pointer (some ⟨b, o + 8, none⟩)) w := fun _ => by kernel_rfl
theorem zbS (b o : Nat) : ∀ w, (Instr.fieldAt 29 (.pointer (some ⟨b, o, none⟩)) 3).run Tryz.prog w = .ok (.pointer (some ⟨b, o + 9, none⟩)) w := fun _ => by kernel_rfl
end HdYtheccaeefigajaaGreatDoorV107
open HdYtheccaeefigajaaGreatDoorV107

theorem p_eqmat_neq {ty t' : TypeId} {K : Kd} {H : List Hp} {x y : Operand} {dx dy : D} {a b : MatD} {q : Bool} (hx : opD K x = some dx) (cx : Cv dx (MatD.d a)) (hy : opD K y = some dy) (cy : Cv dy (MatD.d b)) (hq : decide (a ≠ b) = q) : Pu Tryz.prog (.binOp .neq 65 x y t') ty K H (dB q) :=
  ⟨fun ρ w F hk _ _ => by
    obtain ⟨vs, e, u1, r1, rfl, _, ⟨rfl, _⟩, u2, r2, rfl, _, rfl, u3, r3, rfl, _, ⟨rfl, _⟩, rfl⟩ := cx.out _ _ _ (hk.op hx)
    obtain ⟨vs', e', u4, r4, rfl, _, ⟨rfl, _⟩, u5, r5, rfl, _, rfl, u6, r6, rfl, _, ⟨rfl, _⟩, rfl⟩ := cy.out _ _ _ (hk.op hy)
    refine zcu (r := .bool q) (zz ρ [x, y]) (zbq ρ e) (zbp ρ e') (fun w => ?_) ⟨rfl, rfl⟩
    subst hq
    obtain ⟨a1, a2, a3⟩ := a
    obtain ⟨b1, b2, b3⟩ := b
    simp [go_sem, toList_beq]
    by_cases h1 : a1 = b1 <;> by_cases h2 : a2 = b2 <;> by_cases h3 : a3 = b3 <;> simp [h1, h2, h3]⟩

theorem read8_1 (ev es : Value) (hev : EvOk ev) (hes : EvOk es) : CD Tryz.prog 14 [HPow, HErr ev, HSyn es] [.v (.string a8S1)] (fun r H' => r = .tup [.agg [.s (⟨#[98, 105, 110]⟩ : ByteArray), .s (⟨#[43]⟩ : ByteArray), dI 0, dI 0, .sh 1 (([] : List ByteArray).map D.s), .sh 3 (([] : List MatD).map MatD.d), .sh 7 (Nd.ds a8K1), dI 0, dI (-1), dI (-1)], dI 0] ∧ H' = [HPow, HErr ev, HSyn es]) := by
  have h := zez a8S1 ev es hev hes
  rw [al8_r1.1, al8_r1.2] at h
  refine CD.to ⟨fun w F vs hvs hF hH => h.out w F vs (by obtain ⟨u, us, e, hu, hus⟩ := hvs; exact ⟨u, us, e, ⟨hu, by decide⟩, hus⟩) hF hH⟩ ?_
  rintro r H' ⟨op, text, n, mode, names, ms, kids, o, a, b, e, rfl, rfl⟩
  injection e with e1 e2 e3 e4
  subst e2; subst e3; subst e4
  injection e1 with a1 a2 a3 a4 a5 a6 a7
  subst a1; subst a2; subst a3; subst a4; subst a5; subst a6; subst a7
  exact ⟨rfl, rfl⟩

theorem read8_2 (ev es : Value) (hev : EvOk ev) (hes : EvOk es) : CD Tryz.prog 14 [HPow, HErr ev, HSyn es] [.v (.string a8S2)] (fun r H' => r = .tup [.agg [.s (⟨#[97, 103, 103]⟩ : ByteArray), .s (⟨#[115, 117, 109]⟩ : ByteArray), dI 0, dI 1, .sh 1 ([(⟨#[104, 111, 115, 116]⟩ : ByteArray)].map D.s), .sh 3 (([] : List MatD).map MatD.d), .sh 7 (Nd.ds a8K2), dI 2, dI 3, dI (-1)], dI 0] ∧ H' = [HPow, HErr ev, HSyn es]) := by
  have h := zez a8S2 ev es hev hes
  rw [al8_r2.1, al8_r2.2] at h
  refine CD.to ⟨fun w F vs hvs hF hH => h.out w F vs (by obtain ⟨u, us, e, hu, hus⟩ := hvs; exact ⟨u, us, e, ⟨hu, by decide⟩, hus⟩) hF hH⟩ ?_
  rintro r H' ⟨op, text, n, mode, names, ms, kids, o, a, b, e, rfl, rfl⟩
  injection e with e1 e2 e3 e4
  subst e2; subst e3; subst e4
  injection e1 with a1 a2 a3 a4 a5 a6 a7
  subst a1; subst a2; subst a3; subst a4; subst a5; subst a6; subst a7
  exact ⟨rfl, rfl⟩

theorem bintext0_c (text : ByteArray) (n : Nat) (names : List ByteArray) (ms : List MatD) (xa xb : ByteArray) (xc xd : Int) (xe : List ByteArray) (xf : List MatD) (xg : List Nd) (ya yb : ByteArray) (yc yd : Int) (ye : List ByteArray) (yf : List MatD) (yg : List Nd) (ta tb : ByteArray) (h0 : text.size ≤ 1000) (hxt : ta.size ≤ 1000000) (hx : CD Tryz.prog 99 [HPow] [.agg [.s xa, .s xb, dI xc, dI xd, .sh 1 (xe.map D.s), .sh 3 (xf.map MatD.d), .sh 7 (Nd.ds xg)]] (PrT ta)) (hyt : tb.size ≤ 1000000) (hy : CD Tryz.prog 99 [HPow] [.agg [.s ya, .s yb, dI yc, dI yd, .sh 1 (ye.map D.s), .sh 3 (yf.map MatD.d), .sh 7 (Nd.ds yg)]] (PrT tb)) :
    CD Tryz.prog 100 [HPow] [.agg [.s (⟨#[98, 105, 110]⟩ : ByteArray), .s text, dN n, dI 0, .sh 1 (names.map D.s), .sh 3 (ms.map MatD.d), .sh 7 [.agg [.s xa, .s xb, dI xc, dI xd, .sh 1 (xe.map D.s), .sh 3 (xf.map MatD.d), .sh 7 (Nd.ds xg)], .agg [.s ya, .s yb, dI yc, dI yd, .sh 1 (ye.map D.s), .sh 3 (yf.map MatD.d), .sh 7 (Nd.ds yg)]]]] (PrT (binP text 0 names ta tb)) := by
  refine zq Tryz.func100 rfl (N := 40) rfl rfl (fun C => ?_)
  refine jk [0] rfl ?_
  refine JD.bd 0 rfl (fun bd0 => ?_)
  refine jT rfl (oE rfl (zbf rfl (CellD.agg)) ?_)
  rintro _ _ ⟨g1, rfl, rfl⟩
  refine oR 1 rfl (oZ rfl (jS rfl (JD.subH (HSub.perm (zc (i := 1) rfl)) (jn rfl (jk [0, 1, 2] rfl (jn rfl ?_))))))
  refine zch 10 [(4, dP g1 0, none), (5, dP g1 6, none), (6, .sh 7 [.agg [.s xa, .s xb, dI xc, dI xd, .sh 1 (xe.map D.s), .sh 3 (xf.map MatD.d), .sh 7 (Nd.ds xg)], .agg [.s ya, .s yb, dI yc, dI yd, .sh 1 (ye.map D.s), .sh 3 (yf.map MatD.d), .sh 7 (Nd.ds yg)]], none), (7, .el (.agg [.s xa, .s xb, dI xc, dI xd, .sh 1 (xe.map D.s), .sh 3 (xf.map MatD.d), .sh 7 (Nd.ds xg)]) 0, none), (8, .agg [.s xa, .s xb, dI xc, dI xd, .sh 1 (xe.map D.s), .sh 3 (xf.map MatD.d), .sh 7 (Nd.ds xg)], none), (9, .s ta, some [HPow, .bx g1 119 (.agg [.s (⟨#[98, 105, 110]⟩ : ByteArray), .s text, dN n, dI 0, .sh 1 (names.map D.s), .sh 3 (ms.map MatD.d), .sh 7 [.agg [.s xa, .s xb, dI xc, dI xd, .sh 1 (xe.map D.s), .sh 3 (xf.map MatD.d), .sh 7 (Nd.ds xg)], .agg [.s ya, .s yb, dI yc, dI yd, .sh 1 (ye.map D.s), .sh 3 (yf.map MatD.d), .sh 7 (Nd.ds yg)]]])]), (10, .s (ta ++ (⟨#[32]⟩ : ByteArray)), none), (11, dP g1 0, none), (12, dP g1 1, none), (13, .s text, none)] [.bx g1 119 (.agg [.s (⟨#[98, 105, 110]⟩ : ByteArray), .s text, dN n, dI 0, .sh 1 (names.map D.s), .sh 3 (ms.map MatD.d), .sh 7 [.agg [.s xa, .s xb, dI xc, dI xd, .sh 1 (xe.map D.s), .sh 3 (xf.map MatD.d), .sh 7 (Nd.ds xg)], .agg [.s ya, .s yb, dI yc, dI yd, .sh 1 (ye.map D.s), .sh 3 (yf.map MatD.d), .sh 7 (Nd.ds yg)]]])] (Hn := [HPow, .bx g1 119 (.agg [.s (⟨#[98, 105, 110]⟩ : ByteArray), .s text, dN n, dI 0, .sh 1 (names.map D.s), .sh 3 (ms.map MatD.d), .sh 7 [.agg [.s xa, .s xb, dI xc, dI xd, .sh 1 (xe.map D.s), .sh 3 (xf.map MatD.d), .sh 7 (Nd.ds xg)], .agg [.s ya, .s yb, dI yc, dI yd, .sh 1 (ye.map D.s), .sh 3 (yf.map MatD.d), .sh 7 (Nd.ds yg)]]])]) mixed rfl rfl rfl rfl (HSub.lst 1 rfl) rfl ⟨sa_p rfl rfl rfl (zd rfl zdD rfl), sa_p rfl rfl rfl (zd rfl zbH rfl), sa_p rfl rfl rfl (ze rfl (i := 0) rfl Tryz.isAgg25 rfl), sa_p rfl rfl rfl (zK (k := 0) rfl rfl Tryz.runUnderlying25 Tryz.sizeOf27 (by first | rfl | omega) rfl), sa_p rfl rfl rfl (zbv (d := .agg [.s xa, .s xb, dI xc, dI xd, .sh 1 (xe.map D.s), .sh 3 (xf.map MatD.d), .sh 7 (Nd.ds xg)]) rfl Tryz.isAgg27 Tryz.sizeOf27 rfl rfl), sa_e rfl rfl rfl rfl (((zl [HPow] [.bx g1 119 (.agg [.s (⟨#[98, 105, 110]⟩ : ByteArray), .s text, dN n, dI 0, .sh 1 (names.map D.s), .sh 3 (ms.map MatD.d), .sh 7 [.agg [.s xa, .s xb, dI xc, dI xd, .sh 1 (xe.map D.s), .sh 3 (xf.map MatD.d), .sh 7 (Nd.ds xg)], .agg [.s ya, .s yb, dI yc, dI yd, .sh 1 (ye.map D.s), .sh 3 (yf.map MatD.d), .sh 7 (Nd.ds yg)]]])] [] rfl rfl (.cons ArgC.id .nil) zh Tryz.call99 (hx) (.inl rfl))).mono (by rintro _ _ ⟨_, ⟨rfl, rfl⟩, rfl⟩; exact ⟨rfl, rfl⟩)) (HSub.lst 1 rfl), sa_p rfl rfl rfl (zco rfl rfl (by unfold maxLen; (try simp only [ByteArray.size_append]); (try simp only [ByteArray.size_append]); have k0 : (⟨#[32]⟩ : ByteArray).size = 1 := rfl; have k1 : (⟨#[40]⟩ : ByteArray).size = 1 := rfl; have k2 : (⟨#[41]⟩ : ByteArray).size = 1 := rfl; have k3 : (⟨#[44]⟩ : ByteArray).size = 1 := rfl; have k4 : (⟨#[123]⟩ : ByteArray).size = 1 := rfl; have k5 : (⟨#[125]⟩ : ByteArray).size = 1 := rfl; have k6 : (⟨#[91]⟩ : ByteArray).size = 1 := rfl; have k7 : (⟨#[115, 93]⟩ : ByteArray).size = 2 := rfl; have k8 : (⟨#[45]⟩ : ByteArray).size = 1 := rfl; omega)), sa_p rfl rfl rfl (zd rfl zdD rfl), sa_p rfl rfl rfl (zd rfl zaF rfl), sa_p rfl rfl rfl (ze rfl (i := 0) rfl Tryz.isAgg9 rfl), trivial⟩ ?_
  refine ok [0, 1, 2, 4, 5, 6, 7, 8, 9, 10, 11, 12, 13] rfl (oP rfl (zco rfl rfl (by unfold maxLen; (try simp only [ByteArray.size_append]); (try simp only [ByteArray.size_append]); have k0 : (⟨#[32]⟩ : ByteArray).size = 1 := rfl; have k1 : (⟨#[40]⟩ : ByteArray).size = 1 := rfl; have k2 : (⟨#[41]⟩ : ByteArray).size = 1 := rfl; have k3 : (⟨#[44]⟩ : ByteArray).size = 1 := rfl; have k4 : (⟨#[123]⟩ : ByteArray).size = 1 := rfl; have k5 : (⟨#[125]⟩ : ByteArray).size = 1 := rfl; have k6 : (⟨#[91]⟩ : ByteArray).size = 1 := rfl; have k7 : (⟨#[115, 93]⟩ : ByteArray).size = 2 := rfl; have k8 : (⟨#[45]⟩ : ByteArray).size = 1 := rfl; omega)) (oP rfl (zco rfl rfl (by unfold maxLen; (try simp only [ByteArray.size_append]); (try simp only [ByteArray.size_append]); have k0 : (⟨#[32]⟩ : ByteArray).size = 1 := rfl; have k1 : (⟨#[40]⟩ : ByteArray).size = 1 := rfl; have k2 : (⟨#[41]⟩ : ByteArray).size = 1 := rfl; have k3 : (⟨#[44]⟩ : ByteArray).size = 1 := rfl; have k4 : (⟨#[123]⟩ : ByteArray).size = 1 := rfl; have k5 : (⟨#[125]⟩ : ByteArray).size = 1 := rfl; have k6 : (⟨#[91]⟩ : ByteArray).size = 1 := rfl; have k7 : (⟨#[115, 93]⟩ : ByteArray).size = 2 := rfl; have k8 : (⟨#[45]⟩ : ByteArray).size = 1 := rfl; omega)) (oR 1 rfl (oZ rfl (jk [1, 2, 3] rfl (jS rfl (jT rfl (oP rfl (zd rfl zdD rfl) (oP rfl (zd rfl zbI rfl) (oP rfl (ze rfl (i := 1) rfl Tryz.isAgg3 rfl) ?_))))))))))
  refine oP rfl (zbC rfl rfl (decide_eq_false (by decide))) (oZ rfl (jCf rfl (zr rfl (zo (jT rfl (oR 1 rfl (oP rfl (zd rfl zdD rfl) (oP rfl (zd rfl zbH rfl) (oP rfl (ze rfl (i := 1) rfl Tryz.isAgg25 rfl) (oP rfl (zK (k := 1) rfl rfl Tryz.runUnderlying25 Tryz.sizeOf27 (by first | rfl | omega) rfl) (oP rfl (zbv (d := .agg [.s ya, .s yb, dI yc, dI yd, .sh 1 (ye.map D.s), .sh 3 (yf.map MatD.d), .sh 7 (Nd.ds yg)]) rfl Tryz.isAgg27 Tryz.sizeOf27 rfl rfl) (oE rfl (zl [HPow] [.bx g1 119 (.agg [.s (⟨#[98, 105, 110]⟩ : ByteArray), .s text, dN n, dI 0, .sh 1 (names.map D.s), .sh 3 (ms.map MatD.d), .sh 7 [.agg [.s xa, .s xb, dI xc, dI xd, .sh 1 (xe.map D.s), .sh 3 (xf.map MatD.d), .sh 7 (Nd.ds xg)], .agg [.s ya, .s yb, dI yc, dI yd, .sh 1 (ye.map D.s), .sh 3 (yf.map MatD.d), .sh 7 (Nd.ds yg)]]])] [] rfl rfl (.cons ArgC.id .nil) zh Tryz.call99 (hy) (.inl rfl)) ?_))))))))))))
  rintro _ _ ⟨_, ⟨rfl, rfl⟩, rfl⟩
  refine on rfl (oP rfl (zco rfl rfl (by unfold maxLen; (try simp only [ByteArray.size_append]); (try simp only [ByteArray.size_append]); have k0 : (⟨#[32]⟩ : ByteArray).size = 1 := rfl; have k1 : (⟨#[40]⟩ : ByteArray).size = 1 := rfl; have k2 : (⟨#[41]⟩ : ByteArray).size = 1 := rfl; have k3 : (⟨#[44]⟩ : ByteArray).size = 1 := rfl; have k4 : (⟨#[123]⟩ : ByteArray).size = 1 := rfl; have k5 : (⟨#[125]⟩ : ByteArray).size = 1 := rfl; have k6 : (⟨#[91]⟩ : ByteArray).size = 1 := rfl; have k7 : (⟨#[115, 93]⟩ : ByteArray).size = 2 := rfl; have k8 : (⟨#[45]⟩ : ByteArray).size = 1 := rfl; omega)) (oR 1 rfl (oZ rfl (jk [2] rfl (zn rfl (pn rfl ?_))))))
  exact zi Tryz.results100 (.cons (zu (zm rfl) (Cv.eq (congrArg D.s (show ((((ta ++ (⟨#[32]⟩ : ByteArray)) ++ text) ++ (⟨#[32]⟩ : ByteArray)) ++ tb) = binP text 0 names ta tb from (by unfold binP; rw [if_pos rfl]))))) .nil) rfl (HSub.fst 1 rfl) ⟨rfl, rfl⟩

theorem node_bin0 (text : ByteArray) (n : Nat) (names : List ByteArray) (ms : List MatD) (xa xb : ByteArray) (xc xd : Int) (xe : List ByteArray) (xf : List MatD) (xg : List Nd) (ya yb : ByteArray) (yc yd : Int) (ye : List ByteArray) (yf : List MatD) (yg : List Nd) (ta tb : ByteArray) (h0 : text.size ≤ 1000) (hxt : ta.size ≤ 1000000) (hx : CD Tryz.prog 99 [HPow] [.agg [.s xa, .s xb, dI xc, dI xd, .sh 1 (xe.map D.s), .sh 3 (xf.map MatD.d), .sh 7 (Nd.ds xg)]] (PrT ta)) (hyt : tb.size ≤ 1000000) (hy : CD Tryz.prog 99 [HPow] [.agg [.s ya, .s yb, dI yc, dI yd, .sh 1 (ye.map D.s), .sh 3 (yf.map MatD.d), .sh 7 (Nd.ds yg)]] (PrT tb)) :
    CD Tryz.prog 34 [HPow] [.agg [.s (⟨#[98, 105, 110]⟩ : ByteArray), .s text, dN n, dI 0, .sh 1 (names.map D.s), .sh 3 (ms.map MatD.d), .sh 7 [.agg [.s xa, .s xb, dI xc, dI xd, .sh 1 (xe.map D.s), .sh 3 (xf.map MatD.d), .sh 7 (Nd.ds xg)], .agg [.s ya, .s yb, dI yc, dI yd, .sh 1 (ye.map D.s), .sh 3 (yf.map MatD.d), .sh 7 (Nd.ds yg)]]]] (PrT (binP text 0 names ta tb)) := by
  refine zq Tryz.func34 rfl (N := 79) rfl rfl (fun C => ?_)
  refine jk [0] rfl ?_
  refine JD.bd 0 rfl (fun bd0 => ?_)
  refine jT rfl (oE rfl (zbf rfl (CellD.agg)) ?_)
  rintro _ _ ⟨g1, rfl, rfl⟩
  refine oR 1 rfl (oZ rfl (jT rfl (oP rfl (zy (d := .agg [.s (⟨#[98, 105, 110]⟩ : ByteArray), .s text, dN n, dI 0, .sh 1 (names.map D.s), .sh 3 (ms.map MatD.d), .sh 7 [.agg [.s xa, .s xb, dI xc, dI xd, .sh 1 (xe.map D.s), .sh 3 (xf.map MatD.d), .sh 7 (Nd.ds xg)], .agg [.s ya, .s yb, dI yc, dI yd, .sh 1 (ye.map D.s), .sh 3 (yf.map MatD.d), .sh 7 (Nd.ds yg)]]]) rfl (i := 0) rfl Tryz.isAgg27 Tryz.sizeOf27 rfl rfl) (oE rfl (zl [] [.bx g1 27 (.agg [.s (⟨#[98, 105, 110]⟩ : ByteArray), .s text, dN n, dI 0, .sh 1 (names.map D.s), .sh 3 (ms.map MatD.d), .sh 7 [.agg [.s xa, .s xb, dI xc, dI xd, .sh 1 (xe.map D.s), .sh 3 (xf.map MatD.d), .sh 7 (Nd.ds xg)], .agg [.s ya, .s yb, dI yc, dI yd, .sh 1 (ye.map D.s), .sh 3 (yf.map MatD.d), .sh 7 (Nd.ds yg)]]]), HPow] [] rfl rfl (.cons ArgC.id .nil) zh Tryz.call98 (lift_bin text n 0 names ms xa xb xc xd xe xf xg ya yb yc yd ye yf yg) (.inl rfl)) ?_))))
  rintro _ _ ⟨_, ⟨rfl, rfl⟩, rfl⟩
  refine on rfl (oR 1 rfl (oZ rfl (jS rfl (jT rfl (oR 1 rfl (oP rfl ((zaD (zv := (.agg #[(.int .i64 0)])) rfl (fun _ _ => by kernel_rfl)).cv (Cv.tup (.cons (Cv.vagg (by decide)) (.cons Cv.rfl' .nil)))) (oR 3 rfl (oE rfl (zx (zv := (.agg #[(.int .i64 0)])) Tryz.zeroValue113 ⟨rfl, trivial⟩ (Cv.vagg (by decide))) ?_))))))))
  rintro _ _ ⟨g2, rfl, rfl⟩
  refine oE rfl (zg (i := 0) (X' := .agg [dI 0]) rfl rfl rfl (CellD.agg) Tryz.sizeOf113 rfl rfl rfl) ?_
  rintro _ _ ⟨rfl, rfl⟩
  refine on rfl (oR 1 rfl (oZ rfl (jk [2, 3, 4, 5] rfl (jT rfl (oR 1 rfl (oZ rfl (jCf rfl (zr rfl (zo (jS rfl (jT rfl (oR 1 rfl (oP rfl ((zaD (zv := (.agg #[(.string ByteArray.empty), (.string ByteArray.empty), (.int .i64 0), (.int .i64 0), (.slice none 0 0), (.slice none 0 0), (.slice none 0 0)])) rfl (fun _ _ => by kernel_rfl)).cv (Cv.tup (.cons (Cv.vagg (by decide)) (.cons Cv.rfl' .nil)))) (oR 3 rfl (oE rfl (zx (zv := (.agg #[(.string ByteArray.empty), (.string ByteArray.empty), (.int .i64 0), (.int .i64 0), (.slice none 0 0), (.slice none 0 0), (.slice none 0 0)])) Tryz.zeroValue116 ⟨rfl, rfl, rfl, rfl, rfl, rfl, rfl, trivial⟩ (Cv.vagg (by decide))) ?_)))))))))))))))
  rintro _ _ ⟨g3, rfl, rfl⟩
  refine oE rfl (zg (i := 0) (X' := .agg [.v (.string ByteArray.empty), .v (.string ByteArray.empty), dI 0, dI 0, dZ, dZ, dZ]) rfl rfl rfl (CellD.agg) Tryz.sizeOf116 rfl rfl rfl) ?_
  rintro _ _ ⟨rfl, rfl⟩
  refine on rfl (oR 1 rfl (oZ rfl (jT rfl (oR 1 rfl (oZ rfl (jk [2, 3, 6, 32] rfl (jCf rfl (zr rfl (zo (jS rfl (jT rfl (oR 1 rfl (oP rfl (zbD rfl (fun _ _ => by kernel_rfl)) (oR 3 rfl (oE rfl (zx (zv := (.agg #[(.string ByteArray.empty), (.string ByteArray.empty), (.int .i64 0), (.int .i64 0), (.slice none 0 0), (.slice none 0 0), (.slice none 0 0)])) Tryz.zeroValue119 ⟨rfl, rfl, rfl, rfl, rfl, rfl, rfl, trivial⟩ (Cv.vagg (by decide))) ?_)))))))))))))))
  rintro _ _ ⟨g4, rfl, rfl⟩
  refine oE rfl (zg (i := 0) (X' := .agg [.s (⟨#[98, 105, 110]⟩ : ByteArray), .s text, dN n, dI 0, .sh 1 (names.map D.s), .sh 3 (ms.map MatD.d), .sh 7 [.agg [.s xa, .s xb, dI xc, dI xd, .sh 1 (xe.map D.s), .sh 3 (xf.map MatD.d), .sh 7 (Nd.ds xg)], .agg [.s ya, .s yb, dI yc, dI yd, .sh 1 (ye.map D.s), .sh 3 (yf.map MatD.d), .sh 7 (Nd.ds yg)]]]) rfl rfl rfl (CellD.agg) Tryz.sizeOf119 rfl rfl rfl) ?_
  rintro _ _ ⟨rfl, rfl⟩
  refine on rfl (oR 1 rfl (oZ rfl (jT rfl (oR 1 rfl (oZ rfl (jCt rfl (jT rfl (oP rfl (zy (d := .agg [.s (⟨#[98, 105, 110]⟩ : ByteArray), .s text, dN n, dI 0, .sh 1 (names.map D.s), .sh 3 (ms.map MatD.d), .sh 7 [.agg [.s xa, .s xb, dI xc, dI xd, .sh 1 (xe.map D.s), .sh 3 (xf.map MatD.d), .sh 7 (Nd.ds xg)], .agg [.s ya, .s yb, dI yc, dI yd, .sh 1 (ye.map D.s), .sh 3 (yf.map MatD.d), .sh 7 (Nd.ds yg)]]]) rfl (i := 0) rfl Tryz.isAgg119 Tryz.sizeOf119 rfl rfl) (OpsD.subH (HSub.perm (zc (i := 4) rfl)) (on rfl ?_))))))))))
  refine oE rfl (zl [HPow] [.bx g4 119 (.agg [.s (⟨#[98, 105, 110]⟩ : ByteArray), .s text, dN n, dI 0, .sh 1 (names.map D.s), .sh 3 (ms.map MatD.d), .sh 7 [.agg [.s xa, .s xb, dI xc, dI xd, .sh 1 (xe.map D.s), .sh 3 (xf.map MatD.d), .sh 7 (Nd.ds xg)], .agg [.s ya, .s yb, dI yc, dI yd, .sh 1 (ye.map D.s), .sh 3 (yf.map MatD.d), .sh 7 (Nd.ds yg)]]]), .bx g3 116 (.agg [.v (.string ByteArray.empty), .v (.string ByteArray.empty), dI 0, dI 0, dZ, dZ, dZ]), .bx g2 113 (.agg [dI 0]), .bx g1 27 (.agg [.s (⟨#[98, 105, 110]⟩ : ByteArray), .s text, dN n, dI 0, .sh 1 (names.map D.s), .sh 3 (ms.map MatD.d), .sh 7 [.agg [.s xa, .s xb, dI xc, dI xd, .sh 1 (xe.map D.s), .sh 3 (xf.map MatD.d), .sh 7 (Nd.ds xg)], .agg [.s ya, .s yb, dI yc, dI yd, .sh 1 (ye.map D.s), .sh 3 (yf.map MatD.d), .sh 7 (Nd.ds yg)]]])] [] rfl rfl (.cons ArgC.id .nil) zh Tryz.call100 (bintext0_c text n names ms xa xb xc xd xe xf xg ya yb yc yd ye yf yg ta tb h0 hxt hx hyt hy) (.inl rfl)) ?_
  rintro _ _ ⟨_, ⟨rfl, rfl⟩, rfl⟩
  refine on rfl (oR 1 rfl (oZ rfl (jk [2, 3] rfl (zn rfl (zj (pn rfl ?_))))))
  exact zi Tryz.results34 (.cons (zu (zm rfl) (Cv.eq (congrArg D.s (show (binP text 0 names ta tb) = binP text 0 names ta tb from (by rfl))))) .nil) rfl (HSub.fst 1 rfl) ⟨rfl, rfl⟩

theorem print0_s (xa xb : ByteArray) (xc xd : Int) (xe : List ByteArray) (xf : List MatD) (xg : List Nd) (t : ByteArray) (ht : t.size ≤ 1000000) (hx : CD Tryz.prog 34 [HPow] [.agg [.s xa, .s xb, dI xc, dI xd, .sh 1 (xe.map D.s), .sh 3 (xf.map MatD.d), .sh 7 (Nd.ds xg)]] (PrT t)) :
    CD Tryz.prog 32 [HPow] [.agg [.s xa, .s xb, dI xc, dI xd, .sh 1 (xe.map D.s), .sh 3 (xf.map MatD.d), .sh 7 (Nd.ds xg), dI 0, dI (-1), dI (-1)]] (PrT t) := by
  refine zq Tryz.func32 rfl (N := 36) rfl rfl (fun C => ?_)
  refine jk [0] rfl ?_
  refine JD.bd 0 rfl (fun bd0 => ?_)
  refine jT rfl (oE rfl (zbf rfl (CellD.agg)) ?_)
  rintro _ _ ⟨g1, rfl, rfl⟩
  refine oR 1 rfl (oZ rfl (jT rfl (oP rfl (zd rfl zbG rfl) (oP rfl (zy (d := .agg [.s xa, .s xb, dI xc, dI xd, .sh 1 (xe.map D.s), .sh 3 (xf.map MatD.d), .sh 7 (Nd.ds xg)]) rfl (i := 0) rfl Tryz.isAgg27 Tryz.sizeOf27 rfl rfl) (OpsD.subH (HSub.perm (zc (i := 1) rfl)) (on rfl (oE rfl (zl [HPow] [.bx g1 29 (.agg [.s xa, .s xb, dI xc, dI xd, .sh 1 (xe.map D.s), .sh 3 (xf.map MatD.d), .sh 7 (Nd.ds xg), dI 0, dI (-1), dI (-1)])] [] rfl rfl (.cons ArgC.id .nil) zh Tryz.call34 (hx) (.inl rfl)) ?_)))))))
  rintro _ _ ⟨_, ⟨rfl, rfl⟩, rfl⟩
  refine on rfl (oR 1 rfl (oZ rfl (jS rfl (jT rfl (oP rfl (zd rfl za3 rfl) (oP rfl (ze rfl (i := 1) rfl Tryz.isAgg3 rfl) (oZ rfl (jB rfl (jT rfl (oP rfl (zA rfl rfl (decide_eq_false (by decide))) (oR 1 rfl (oZ rfl (jCf rfl (jT rfl (oP rfl (zA rfl rfl (decide_eq_false (by decide))) (oR 1 rfl (oZ rfl (jk [1, 2, 3, 13] rfl (jCf rfl (zr rfl (zB (zo (jS rfl (jT rfl (oP rfl (zd rfl zbz rfl) (oP rfl (ze rfl (i := 1) rfl Tryz.isAgg3 rfl) (oP rfl (zai rfl rfl (decide_eq_false (by decide))) (oZ rfl (jCf rfl (zr rfl (zo (jS rfl (jT rfl (oP rfl (zd rfl zbS rfl) (oP rfl (ze rfl (i := 1) rfl Tryz.isAgg3 rfl) (oP rfl (zai rfl rfl (decide_eq_false (by decide))) (oZ rfl (jCf rfl (zr rfl (zo (jT rfl (oR 2 rfl (oZ rfl (jk [2] rfl (zn rfl (pn rfl ?_))))))))))))))))))))))))))))))))))))))))))))))
  exact zi Tryz.results32 (.cons (zm rfl) .nil) rfl (HSub.fst 1 rfl) ⟨rfl, rfl⟩

theorem p8_n1 : CD Tryz.prog 34 [HPow] [Nd.d (.mk tNum ByteArray.empty (1 : Nat) 0 [] [] [])] (PrT (⟨#[49]⟩ : ByteArray)) := by
  have h := node_num ByteArray.empty 1 0 [] [] (by decide)
  rw [show digB 1 = (⟨#[49]⟩ : ByteArray) from by kernel_rfl] at h; exact h
theorem p8_i1 : CD Tryz.prog 99 [HPow] [Nd.d (.mk tNum ByteArray.empty (1 : Nat) 0 [] [] [])] (PrT (⟨#[49]⟩ : ByteArray)) := inner_num ByteArray.empty 1 0 [] [] (⟨#[49]⟩ : ByteArray) (by decide) p8_n1
theorem p8_n2 : CD Tryz.prog 34 [HPow] [Nd.d (.mk tNum ByteArray.empty (2 : Nat) 0 [] [] [])] (PrT (⟨#[50]⟩ : ByteArray)) := by
  have h := node_num ByteArray.empty 2 0 [] [] (by decide)
  rw [show digB 2 = (⟨#[50]⟩ : ByteArray) from by kernel_rfl] at h; exact h
theorem p8_i2 : CD Tryz.prog 99 [HPow] [Nd.d (.mk tNum ByteArray.empty (2 : Nat) 0 [] [] [])] (PrT (⟨#[50]⟩ : ByteArray)) := inner_num ByteArray.empty 2 0 [] [] (⟨#[50]⟩ : ByteArray) (by decide) p8_n2
theorem p8_n3 : CD Tryz.prog 34 [HPow] [Nd.d (.mk tNum ByteArray.empty (3 : Nat) 0 [] [] [])] (PrT (⟨#[51]⟩ : ByteArray)) := by
  have h := node_num ByteArray.empty 3 0 [] [] (by decide)
  rw [show digB 3 = (⟨#[51]⟩ : ByteArray) from by kernel_rfl] at h; exact h
theorem p8_i3 : CD Tryz.prog 99 [HPow] [Nd.d (.mk tNum ByteArray.empty (3 : Nat) 0 [] [] [])] (PrT (⟨#[51]⟩ : ByteArray)) := inner_num ByteArray.empty 3 0 [] [] (⟨#[51]⟩ : ByteArray) (by decide) p8_n3
theorem p8_n4 : CD Tryz.prog 34 [HPow] [Nd.d (.mk tNeg ByteArray.empty 0 0 [] [] [a8n 3])] (PrT (⟨#[45, 51]⟩ : ByteArray)) := by
  have h := node_neg ByteArray.empty 0 0 [] [] tNum ByteArray.empty (3 : Nat) 0 [] [] [] (⟨#[51]⟩ : ByteArray) (by decide) p8_i3
  rw [show zca ++ (⟨#[51]⟩ : ByteArray) = (⟨#[45, 51]⟩ : ByteArray) from by kernel_rfl] at h; exact h
theorem p8_i4 : CD Tryz.prog 99 [HPow] [Nd.d (.mk tNeg ByteArray.empty 0 0 [] [] [a8n 3])] (PrT (⟨#[40, 45, 51, 41]⟩ : ByteArray)) := by
  have h := inner_neg ByteArray.empty 0 0 [] [] tNum ByteArray.empty (3 : Nat) 0 [] [] [] (⟨#[45, 51]⟩ : ByteArray) (by decide) p8_n4
  rw [show zao ++ (⟨#[45, 51]⟩ : ByteArray) ++ zam = (⟨#[40, 45, 51, 41]⟩ : ByteArray) from by kernel_rfl] at h; exact h
theorem p8_n5 : CD Tryz.prog 34 [HPow] [Nd.d (.mk tBin zdt 0 0 [] [] [a8n 2, .mk tNeg ByteArray.empty 0 0 [] [] [a8n 3]])] (PrT (⟨#[50, 32, 42, 32, 40, 45, 51, 41]⟩ : ByteArray)) := by
  have h := node_bin0 zdt 0 [] [] tNum ByteArray.empty (2 : Nat) 0 [] [] [] tNeg ByteArray.empty 0 0 [] [] [a8n 3] (⟨#[50]⟩ : ByteArray) (⟨#[40, 45, 51, 41]⟩ : ByteArray) (by decide) (by decide) p8_i2 (by decide) p8_i4
  rw [show binP zdt 0 [] (⟨#[50]⟩ : ByteArray) (⟨#[40, 45, 51, 41]⟩ : ByteArray) = (⟨#[50, 32, 42, 32, 40, 45, 51, 41]⟩ : ByteArray) from by kernel_rfl] at h; exact h
theorem p8_i5 : CD Tryz.prog 99 [HPow] [Nd.d (.mk tBin zdt 0 0 [] [] [a8n 2, .mk tNeg ByteArray.empty 0 0 [] [] [a8n 3]])] (PrT (⟨#[40, 50, 32, 42, 32, 40, 45, 51, 41, 41]⟩ : ByteArray)) := by
  have h := inner_bin zdt 0 0 [] [] tNum ByteArray.empty (2 : Nat) 0 [] [] [] tNeg ByteArray.empty 0 0 [] [] [a8n 3] (⟨#[50, 32, 42, 32, 40, 45, 51, 41]⟩ : ByteArray) (by decide) p8_n5
  rw [show zao ++ (⟨#[50, 32, 42, 32, 40, 45, 51, 41]⟩ : ByteArray) ++ zam = (⟨#[40, 50, 32, 42, 32, 40, 45, 51, 41, 41]⟩ : ByteArray) from by kernel_rfl] at h; exact h
theorem p8_n6 : CD Tryz.prog 34 [HPow] [Nd.d (.mk tBin zeB 0 0 [] [] a8K1)] (PrT (⟨#[49, 32, 43, 32, 40, 50, 32, 42, 32, 40, 45, 51, 41, 41]⟩ : ByteArray)) := by
  have h := node_bin0 zeB 0 [] [] tNum ByteArray.empty (1 : Nat) 0 [] [] [] tBin zdt 0 0 [] [] [a8n 2, .mk tNeg ByteArray.empty 0 0 [] [] [a8n 3]] (⟨#[49]⟩ : ByteArray) (⟨#[40, 50, 32, 42, 32, 40, 45, 51, 41, 41]⟩ : ByteArray) (by decide) (by decide) p8_i1 (by decide) p8_i5
  rw [show binP zeB 0 [] (⟨#[49]⟩ : ByteArray) (⟨#[40, 50, 32, 42, 32, 40, 45, 51, 41, 41]⟩ : ByteArray) = (⟨#[49, 32, 43, 32, 40, 50, 32, 42, 32, 40, 45, 51, 41, 41]⟩ : ByteArray) from by kernel_rfl] at h; exact h
theorem print8 : CD Tryz.prog 32 [HPow] [.agg [.s (⟨#[98, 105, 110]⟩ : ByteArray), .s (⟨#[43]⟩ : ByteArray), dI 0, dI 0, .sh 1 (([] : List ByteArray).map D.s), .sh 3 (([] : List MatD).map MatD.d), .sh 7 (Nd.ds a8K1), dI 0, dI (-1), dI (-1)]] (PrT a8P) := print0_s tBin zeB 0 0 [] [] a8K1 a8P (by decide) p8_n6

theorem alive8_c (ev es : Value) (hev : EvOk ev) (hes : EvOk es) :
    CD Tryz.prog 25 [HPow, HErr ev, HSyn es] [] (fun r H' => r = dB true ∧ H' = [HPow, HErr ev, HSyn es]) := by
  refine zq Tryz.func25 rfl (N := 48) rfl rfl (fun C => ?_)
  refine jk [] rfl (jT rfl (oR 1 rfl (oZ rfl (jT rfl (oE rfl (zl [HPow, HErr ev, HSyn es] [] [] rfl rfl (.cons ArgC.id .nil) zh Tryz.call14 (read8_1 ev es hev hes) (.inl rfl)) ?_)))))
  rintro _ _ ⟨_, ⟨rfl, rfl⟩, rfl⟩
  refine on rfl (oR 3 rfl (oE rfl (zx (zv := (.agg #[(.string ByteArray.empty), (.string ByteArray.empty), (.int .i64 0), (.int .i64 0), (.slice none 0 0), (.slice none 0 0), (.slice none 0 0), (.int .i64 0), (.int .i64 0), (.int .i64 0)])) Tryz.zeroValue29 ⟨rfl, rfl, rfl, rfl, rfl, rfl, rfl, rfl, rfl, rfl, trivial⟩ (Cv.vagg (by decide))) ?_))
  rintro _ _ ⟨g1, rfl, rfl⟩
  refine oE rfl (zg (i := 0) (X' := .agg [.s (⟨#[98, 105, 110]⟩ : ByteArray), .s (⟨#[43]⟩ : ByteArray), dI 0, dI 0, .sh 1 (([] : List ByteArray).map D.s), .sh 3 (([] : List MatD).map MatD.d), .sh 7 (Nd.ds a8K1), dI 0, dI (-1), dI (-1)]) rfl rfl rfl (CellD.agg) Tryz.sizeOf29 rfl rfl rfl) ?_
  rintro _ _ ⟨rfl, rfl⟩
  refine on rfl (oR 1 rfl (oZ rfl (jT rfl (OpsD.subH (HSub.perm (zc (i := 3) rfl)) (on rfl (OpsD.subH (HSub.perm (zc (i := 3) rfl)) (on rfl (OpsD.subH (HSub.perm (zc (i := 3) rfl)) (on rfl (oE rfl (zl [HPow, HErr ev, HSyn es] [.bx g1 29 (.agg [.s (⟨#[98, 105, 110]⟩ : ByteArray), .s (⟨#[43]⟩ : ByteArray), dI 0, dI 0, .sh 1 (([] : List ByteArray).map D.s), .sh 3 (([] : List MatD).map MatD.d), .sh 7 (Nd.ds a8K1), dI 0, dI (-1), dI (-1)])] [] rfl rfl (.cons ArgC.id .nil) zh Tryz.call14 (read8_2 ev es hev hes) (.inl rfl)) ?_))))))))))
  rintro _ _ ⟨_, ⟨rfl, rfl⟩, rfl⟩
  refine on rfl (oR 3 rfl (oE rfl (zx (zv := (.agg #[(.string ByteArray.empty), (.string ByteArray.empty), (.int .i64 0), (.int .i64 0), (.slice none 0 0), (.slice none 0 0), (.slice none 0 0), (.int .i64 0), (.int .i64 0), (.int .i64 0)])) Tryz.zeroValue29 ⟨rfl, rfl, rfl, rfl, rfl, rfl, rfl, rfl, rfl, rfl, trivial⟩ (Cv.vagg (by decide))) ?_))
  rintro _ _ ⟨g2, rfl, rfl⟩
  refine oE rfl (zg (i := 0) (X' := .agg [.s (⟨#[97, 103, 103]⟩ : ByteArray), .s (⟨#[115, 117, 109]⟩ : ByteArray), dI 0, dI 1, .sh 1 ([(⟨#[104, 111, 115, 116]⟩ : ByteArray)].map D.s), .sh 3 (([] : List MatD).map MatD.d), .sh 7 (Nd.ds a8K2), dI 2, dI 3, dI (-1)]) rfl rfl rfl (CellD.agg) Tryz.sizeOf29 rfl rfl rfl) ?_
  rintro _ _ ⟨rfl, rfl⟩
  refine on rfl (oR 1 rfl (oZ rfl (jS rfl (JD.subH (HSub.perm (zc (i := 1) rfl)) (jn rfl (jn rfl (jk [1, 2, 3, 4] rfl ?_)))))))
  refine zT 0 (hasN aggN (⟨#[116, 111, 112, 107]⟩ : ByteArray)) [HPow, .bx g2 29 (.agg [.s (⟨#[97, 103, 103]⟩ : ByteArray), .s (⟨#[115, 117, 109]⟩ : ByteArray), dI 0, dI 1, .sh 1 ([(⟨#[104, 111, 115, 116]⟩ : ByteArray)].map D.s), .sh 3 (([] : List MatD).map MatD.d), .sh 7 (Nd.ds a8K2), dI 2, dI 3, dI (-1)]), HErr ev, HSyn es, .bx g1 29 (.agg [.s (⟨#[98, 105, 110]⟩ : ByteArray), .s (⟨#[43]⟩ : ByteArray), dI 0, dI 0, .sh 1 (([] : List ByteArray).map D.s), .sh 3 (([] : List MatD).map MatD.d), .sh 7 (Nd.ds a8K1), dI 0, dI (-1), dI (-1)])] (fun _ hQ3 => ?_) ?_
  · skip
    refine zf rfl (oR 1 rfl (oP rfl (zA rfl rfl (decide_eq_true (by decide))) (oR 1 rfl (oG rfl (zy (d := .agg [.s (⟨#[98, 105, 110]⟩ : ByteArray), .s (⟨#[43]⟩ : ByteArray), dI 0, dI 0, .sh 1 (([] : List ByteArray).map D.s), .sh 3 (([] : List MatD).map MatD.d), .sh 7 (Nd.ds a8K1), dI 0, dI (-1), dI (-1)]) rfl (i := 4) rfl Tryz.isAgg29 Tryz.sizeOf29 rfl rfl) (oF rfl (zl [HPow] [.bx g2 29 (.agg [.s (⟨#[97, 103, 103]⟩ : ByteArray), .s (⟨#[115, 117, 109]⟩ : ByteArray), dI 0, dI 1, .sh 1 ([(⟨#[104, 111, 115, 116]⟩ : ByteArray)].map D.s), .sh 3 (([] : List MatD).map MatD.d), .sh 7 (Nd.ds a8K2), dI 2, dI 3, dI (-1)]), HErr ev, HSyn es, .bx g1 29 (.agg [.s (⟨#[98, 105, 110]⟩ : ByteArray), .s (⟨#[43]⟩ : ByteArray), dI 0, dI 0, .sh 1 (([] : List ByteArray).map D.s), .sh 3 (([] : List MatD).map MatD.d), .sh 7 (Nd.ds a8K1), dI 0, dI (-1), dI (-1)])] [] rfl rfl (.cons ArgC.id .nil) zh Tryz.call32 (print8) (.inl rfl)) ?_)))))
    rintro _ _ ⟨_, ⟨rfl, rfl⟩, rfl⟩
    refine on rfl (oG rfl (zat rfl rfl (decide_eq_true (by decide))) (oR 3 rfl (oG rfl (zA rfl rfl (decide_eq_true (by decide))) (oR 2 rfl (oG rfl (zd rfl za3 rfl) (oG rfl (ze rfl (i := 1) rfl Tryz.isAgg3 rfl) (oG rfl (zA rfl rfl (decide_eq_true (by decide))) (oR 2 rfl (oG rfl (zd rfl zbz rfl) (oG rfl (ze rfl (i := 1) rfl Tryz.isAgg3 rfl) (oG rfl (zA rfl rfl (decide_eq_true (by decide))) (oR 2 rfl (oG rfl (zd rfl zbS rfl) (oG rfl (ze rfl (i := 1) rfl Tryz.isAgg3 rfl) (oG rfl (zA rfl rfl (decide_eq_true (by decide))) (oR 2 rfl (oG rfl (zd rfl zbG rfl) (oG rfl (zd rfl zaF rfl) (oG rfl (ze rfl (i := 1) rfl Tryz.isAgg9 rfl) (oG rfl (zat rfl rfl (decide_eq_true (by decide))) (oR 2 rfl (oV rfl rfl (.cons (ArgC.cv (Cv.str (by first | decide | (unfold maxLen; omega)))) .nil) Tryz.call29 (zeK (⟨#[116, 111, 112, 107]⟩ : ByteArray)) (oR 2 rfl (zp rfl ?_))))))))))))))))))))))))
    exact PD.sub ((0, dB (hasN aggN (⟨#[116, 111, 112, 107]⟩ : ByteArray))) :: [(1, dP g1 0), (2, dI 0), (3, dP g2 0), (4, dI 0)]) ⟨sc rfl (Cv.eq (congrArg (fun b => D.v (.bool b)) (by first | (simp []; done) | (simp_all; done)))), sk rfl, sk rfl, sk rfl, sk rfl, trivial⟩ hQ3
  · skip
    refine zo (zn rfl (PD.subH (HSub.perm (zc (i := 3) rfl)) (pn rfl (PD.subH (HSub.perm (zc (i := 3) rfl)) (pn rfl (PD.subH (HSub.perm (zc (i := 2) rfl)) (pn rfl (pn rfl ?_))))))))
    exact zi Tryz.results25 (.cons (zu (zm rfl) (Cv.eq (congrArg (fun b => D.v (.bool b)) (by decide)))) .nil) rfl (HSub.fst 3 rfl) ⟨rfl, rfl⟩
end Lp
/-
  The parser looks no further than it has to: what stands behind, and where words stand, is nothing to it.
-/
set_option linter.unusedVariables false
namespace Lp
open Go
/-! ### what is bad stays bad -/
section
variable {s : Rd} {k : Int} {ts : List ByteArray} {x : ByteArray}
theorem zdQ : (s.take k ts).2.2.b = s.b := by unfold Rd.take; split <;> rfl
theorem zbd (h : s.b = true) : (s.must x).b = true := by unfold Rd.must; simp only [zdQ, h, Bool.true_or]
theorem zeC (h : s.b = true) : (s.any k).2.b = true := by unfold Rd.any; rw [if_pos (.inl h)]
theorem zdm (h : s.b = true) : s.node.b = true := by unfold Rd.node; simp only [h, Bool.true_or]
theorem zc0 (h : s.b = true) : s.take k ts = (ByteArray.empty, false, s) := take_no (.inl h)
theorem namesF_b {F : Nat} {o : List ByteArray} (h : s.b = true) : (namesF F o s).2.b = true := by
  cases F with
  | zero => exact h
  | succ F => unfold namesF; rw [if_pos h]; exact h
theorem mode_b {y : ByteArray} (h : s.b = true) : (s.mode x y).2.2.b = true := by
  unfold Rd.mode; rw [zc0 h]; simpa using h
theorem levelF_b {part : Rd → Nd × Rd} {F : Nat} {o : Nd} (h : s.b = true) : (zbe part ts F o s).2.b = true := by
  cases F with
  | zero => exact h
  | succ F => unfold zbe; rw [zc0 h]; simpa using h
theorem bracesF_b {F : Nat} {o : List MatD} (h : s.b = true) : (bracesF F o s).2.b = true := by
  cases F with
  | zero => exact h
  | succ F => unfold bracesF; rw [if_pos h]; exact h
end
def Bad (p : Rd → Nd × Rd) : Prop := ∀ s, s.b = true → (p s).2.b = true
theorem Bad.no {p : Rd → Nd × Rd} (h : Bad p) {s : Rd} (e : (p s).2.b = false) : s.b = false := by
  cases hs : s.b with
  | false => rfl
  | true => rw [h s hs] at e; cases e
theorem zau {a b : Bool} (h : a = true → b = true) (e : b = false) : a = false := by
  cases a with
  | false => rfl
  | true => rw [h rfl] at e; cases e
theorem level_b {part : Rd → Nd × Rd} (h : Bad part) (ts : List ByteArray) : Bad (fun s => s.level part ts) := fun s hs => levelF_b (h s hs)
section
variable (rm : List MatD → Bool)
theorem prim_b (ex : Rd → Nd × Rd) : Bad (fun s => s.prim rm ex) := fun s h => by simp only [Rd.prim]; rw [if_pos h]; exact h
theorem unaryF_b (ex : Rd → Nd × Rd) : ∀ F, Bad (zaW rm ex F)
  | 0, s, h => h
  | F + 1, s, h => by unfold zaW; rw [zc0 h]; simpa using prim_b rm ex s h
theorem prod_b (ex : Rd → Nd × Rd) : Bad (zel rm ex) := level_b (fun s h => unaryF_b rm ex _ s h) _
theorem sum_b (ex : Rd → Nd × Rd) : Bad (sumP rm ex) := level_b (prod_b rm ex) _
theorem expr_b : ∀ F, Bad (zbK rm F)
  | 0, s, h => h
  | F + 1, s, h => level_b (sum_b rm (zbK rm F)) _ s h
theorem braces_b {s : Rd} (h : s.b = true) : (s.braces rm).2.b = true := by
  unfold Rd.braces; split
  · exact zbd (zbd h)
  · show (((bracesF _ [] (s.must zba)).2.must zbk).b || _) = true
    rw [zbd (bracesF_b (zbd h))]; rfl
theorem selMs_b {s : Rd} {x : ByteArray} (h : s.b = true) : (s.selMs rm x).2.b = true := by
  unfold Rd.selMs; split
  · exact braces_b rm h
  · show (s.b || _) = true; rw [h]; rfl
end
theorem selWin_b {s : Rd} (h : s.b = true) : s.selWin.2.b = true := by unfold Rd.selWin; rw [zc0 h]; simpa using h
/-! ### alike, with r behind -/
def er (t : TokD) : TokD := ⟨t.k, 0, t.t⟩
theorem er_kt {x y : TokD} (h : er x = er y) : x.k = y.k ∧ x.t = y.t := by
  have a : (er x).k = (er y).k := congrArg TokD.k h
  have b : (er x).t = (er y).t := congrArg TokD.t h
  exact ⟨a, b⟩
structure R (r : List TokD) (s t : Rd) : Prop where
  l : t.l.map er = (s.l ++ r).map er
  n : t.n = s.n
  b : t.b = s.b
/-- what may stand behind -/
def Hq (r : List TokD) : Prop := ∀ h, r.head? = some h → h.k = 5 ∧ h.t = zam ∨ h.k = 1 ∧ (h.t = zay ∨ h.t = zap ∨ h.t = zV)
section
variable {r : List TokD} {s t : Rd} {k : Int} {ts : List ByteArray} {x : ByteArray}
theorem pk_er {s : Rd} : er s.pk = (s.l.map er).headD zbs := by
  unfold Rd.pk; cases s.l with
  | nil => rfl
  | cons y l => rfl
theorem R.pk (h : R r s t) (hl : s.l ≠ []) : t.pk.k = s.pk.k ∧ t.pk.t = s.pk.t := by
  have e1 := pk_er (s := t); have e2 := pk_er (s := s)
  rw [h.l] at e1
  obtain ⟨y, l, hy⟩ := List.exists_cons_of_ne_nil hl
  rw [hy] at e1 e2
  have e3 : er t.pk = er s.pk := by rw [e1, e2]; rfl
  exact er_kt e3
theorem R.is (h : R r s t) (hl : s.l ≠ []) : t.is k ts = s.is k ts := by
  have e := h.pk hl; unfold Rd.is; rw [e.1, e.2]
theorem zdC (hl : s.l = []) (hk : k ≠ 0) : s.is k ts = false := by
  unfold Rd.is; rw [pk_0 (by rw [hl]; rfl), decide_eq_false (show ¬ zbs.k = k from fun e => hk e.symm)]; rfl
/-- a word that may stand behind is none of these -/
structure Qt (k : Int) (ts : List ByteArray) : Prop where
  kn : k ≠ 0
  a : k = 5 → hasN ts zam = false
  b : k = 1 → hasN ts zay = false ∧ hasN ts zap = false ∧ hasN ts zV = false
theorem R.isq (h : R r s t) (hr : Hq r) (q : Qt k ts) : t.is k ts = s.is k ts := by
  by_cases hl : s.l = []
  · rw [zdC hl q.kn]
    have e1 := pk_er (s := t); rw [h.l, hl, List.nil_append] at e1
    cases r with
    | nil => exact zdC (List.map_eq_nil_iff.1 (by rw [h.l, hl]; rfl)) q.kn
    | cons y r =>
      have e3 : er t.pk = er y := e1
      obtain ⟨e4, e5⟩ := er_kt e3
      unfold Rd.is; rw [e4, e5]
      rcases hr y rfl with ⟨a, b⟩ | ⟨a, b⟩
      · rw [a, b]
        by_cases hk : k = 5
        · rw [q.a hk, Bool.and_false]
        · rw [decide_eq_false (fun e => hk e.symm)]; rfl
      · rw [a]
        by_cases hk : k = 1
        · obtain ⟨q1, q2, q3⟩ := q.b hk
          rcases b with b | b | b <;> rw [b]
          · rw [q1, Bool.and_false]
          · rw [q2, Bool.and_false]
          · rw [q3, Bool.and_false]
        · rw [decide_eq_false (fun e => hk e.symm)]; rfl
  · exact h.is hl
theorem R.tail (h : R r s t) (hl : s.l ≠ []) : R r ⟨s.l.tail, s.n, s.b⟩ ⟨t.l.tail, t.n, t.b⟩ := by
  obtain ⟨y, l, hy⟩ := List.exists_cons_of_ne_nil hl
  refine ⟨?_, h.n, h.b⟩
  have e := h.l; rw [hy] at e ⊢
  show t.l.tail.map er = (l ++ r).map er
  rw [List.map_tail, e]; rfl
theorem is_ne' (hk : k ≠ 0) (h : s.is k ts = true) : s.l ≠ [] := fun e => by rw [zdC e hk] at h; cases h
theorem R.take (h : R r s t) (hk : k ≠ 0) (hi : t.is k ts = s.is k ts) : (t.take k ts).1 = (s.take k ts).1 ∧ (t.take k ts).2.1 = (s.take k ts).2.1 ∧ R r (s.take k ts).2.2 (t.take k ts).2.2 := by
  unfold Rd.take
  rw [h.b, hi]
  split
  · exact ⟨rfl, rfl, h⟩
  · rename_i hc
    have hc2 : s.is k ts = true := by
      cases e : s.is k ts with
      | true => rfl
      | false => exact absurd (.inr e) hc
    have hl := is_ne' hk hc2
    refine ⟨(h.pk hl).2, rfl, ?_⟩
    have := h.tail hl; rw [h.b] at this; exact this
theorem R.takeq (h : R r s t) (hr : Hq r) (q : Qt k ts) : (t.take k ts).1 = (s.take k ts).1 ∧ (t.take k ts).2.1 = (s.take k ts).2.1 ∧ R r (s.take k ts).2.2 (t.take k ts).2.2 := h.take (k := k) (ts := ts) q.kn (h.isq hr q)
theorem R.any (h : R r s t) (hk : k ≠ 0) (e : (s.any k).2.b = false) : (t.any k).1 = (s.any k).1 ∧ R r (s.any k).2 (t.any k).2 := by
  have hb : s.b = false := zau zeC e
  have hp : s.pk.k = k := by
    refine Decidable.byContradiction fun hn => ?_
    rw [any_no (.inr hn)] at e; cases e
  have hl := zeG hk hp
  have hp' := h.pk hl
  have e1 : s.any k = (s.pk.t, ⟨s.l.tail, s.n, s.b⟩) := by unfold Rd.any; rw [if_neg (by rw [hb]; rintro (a | a); cases a; exact a hp)]
  have e2 : t.any k = (t.pk.t, ⟨t.l.tail, t.n, t.b⟩) := by unfold Rd.any; rw [if_neg (by rw [h.b, hb, hp'.1]; rintro (a | a); cases a; exact a hp)]
  rw [e1, e2]
  exact ⟨hp'.2, h.tail hl⟩
theorem R.must (h : R r s t) (e : (s.must x).b = false) : R r (s.must x) (t.must x) := by
  have hq : (s.take 5 [x]).2.1 = true := by
    unfold Rd.must at e; simp only [Bool.or_eq_false_iff, Bool.not_eq_false'] at e; exact e.2
  have hg := zaN (by decide) hq
  have hl : s.l ≠ [] := is_ne' (k := 5) (ts := [x]) (by decide) hg.2.2.2.2
  have ht := h.take (k := 5) (ts := [x]) (by decide) (h.is hl)
  unfold Rd.must
  exact ⟨ht.2.2.l, ht.2.2.n, by show (_ || _) = (_ || _); rw [ht.2.2.b, ht.2.1]⟩
theorem R.number (h : R r s t) (hk : k ≠ 0) (e : (s.number k).2.b = false) : (t.number k).1 = (s.number k).1 ∧ R r (s.number k).2 (t.number k).2 := by
  have := h.any hk e
  exact ⟨congrArg numV this.1, this.2⟩
theorem R.node (h : R r s t) : R r s.node t.node := ⟨h.l, by show _ + 1 = _ + 1; rw [h.n], by show (_ || _) = (_ || _); rw [h.n, h.b]⟩
theorem R.len (h : R r s t) : t.l.length = s.l.length + r.length := by
  have := congrArg List.length h.l; simpa using this
/-! ### names, modes -/
theorem any_ne (hk : k ≠ 0) (e : (s.any k).2.b = false) : s.l ≠ [] := by
  have hb : s.b = false := zau zeC e
  refine zeG hk (Decidable.byContradiction fun hn => ?_)
  rw [any_no (.inr hn)] at e; cases e
theorem qt_5 {ts : List ByteArray} (h : hasN ts zam = false) : Qt 5 ts := ⟨by decide, fun _ => h, fun e => by cases e⟩
theorem qt_1 {ts : List ByteArray} (h : hasN ts zay = false ∧ hasN ts zap = false ∧ hasN ts zV = false) : Qt 1 ts := ⟨by decide, fun e => (by cases e), fun _ => h⟩
theorem R.namesF (hr : Hq r) : ∀ (F F' : Nat) (o : List ByteArray) (s t : Rd), s.l.length < F → F ≤ F' → R r s t → (namesF F o s).2.b = false → (Lp.namesF F' o t).1 = (Lp.namesF F o s).1 ∧ R r (Lp.namesF F o s).2 (Lp.namesF F' o t).2
  | 0, _, _, s, _, h, _, _, _ => absurd h (Nat.not_lt_zero _)
  | F + 1, 0, _, _, _, _, h, _, _ => absurd h (Nat.not_succ_le_zero _)
  | F + 1, F' + 1, o, s, t, hF, hF', h, e => by
    have hb : s.b = false := zau (fun q => namesF_b q) e
    unfold Lp.namesF at e ⊢
    rw [if_neg (show ¬ s.b = true by rw [hb]; decide)] at e ⊢
    rw [if_neg (show ¬ t.b = true by rw [h.b, hb]; decide)]
    have ha : (s.any 1).2.b = false := by
      split at e
      · rename_i hq
        exact (zaN (by decide) hq).2.2.1
      · rw [zdQ] at e; exact e
    obtain ⟨a1, a2⟩ := h.any (by decide) ha
    obtain ⟨b1, b2, b3⟩ := a2.takeq hr (qt_5 (ts := [zaX]) (by decide))
    rw [b2, a1]
    split
    · rename_i hq
      rw [if_pos hq] at e
      have hg := zaN (by decide) hq
      have hl := (zcj s 1).len
      exact R.namesF hr F F' _ _ _ (by omega) (by omega) b3 e
    · exact ⟨rfl, b3⟩
theorem R.names (h : R r s t) (hr : Hq r) (e : s.names.2.b = false) : t.names.1 = s.names.1 ∧ R r s.names.2 t.names.2 := by
  have h1 : (s.must zao).b = false := by
    unfold Rd.names at e; split at e
    · exact zau zbd e
    · exact zau (fun q => namesF_b q) (zau zbd e)
  have r1 := h.must h1
  by_cases hl : (s.must zao).l = []
  · exfalso
    unfold Rd.names at e
    rw [if_neg (by rw [zdC hl (by decide)]; decide)] at e
    have e := zau zbd e
    unfold Lp.namesF at e
    rw [if_neg (by rw [h1]; decide)] at e
    have ha : ((s.must zao).any 1).2.b = false := by
      split at e
      · rename_i hq; exact (zaN (by decide) hq).2.2.1
      · rw [zdQ] at e; exact e
    exact any_ne (by decide) ha hl
  · have hi := r1.is (k := 5) (ts := [zam]) hl
    unfold Rd.names at e ⊢
    rw [hi]
    split
    · rename_i hc
      rw [if_pos hc] at e
      exact ⟨rfl, r1.must e⟩
    · rename_i hc
      rw [if_neg hc] at e
      have hlen := r1.len
      obtain ⟨a1, a2⟩ := R.namesF hr _ ((t.must zao).l.length + 1) [] _ _ (Nat.lt_succ_self _) (by omega) r1 (zau zbd e)
      exact ⟨a1, a2.must e⟩
theorem R.mode (h : R r s t) (hr : Hq r) {x y : ByteArray} (q : Qt 1 [x, y]) (e : (s.mode x y).2.2.b = false) : (t.mode x y).1 = (s.mode x y).1 ∧ (t.mode x y).2.1 = (s.mode x y).2.1 ∧ R r (s.mode x y).2.2 (t.mode x y).2.2 := by
  obtain ⟨b1, b2, b3⟩ := h.takeq hr q
  unfold Rd.mode at e ⊢
  rw [b2, b1]
  split
  · exact ⟨rfl, rfl, b3⟩
  · rename_i hc
    rw [if_neg hc] at e
    split
    · rename_i hd
      rw [if_pos hd] at e
      have := b3.names hr e
      exact ⟨rfl, this.1, this.2⟩
    · rename_i hd
      rw [if_neg hd] at e
      have := b3.names hr e
      exact ⟨rfl, this.1, this.2⟩
/-! ### levels -/
/-- a part of the parser that looks no further, of at most m words -/
def Loc (r : List TokD) (m m' : Nat) (p p' : Rd → Nd × Rd) : Prop := ∀ s t : Rd, s.l.length ≤ m → t.l.length ≤ m' → R r s t → (p s).2.b = false → (p' t).1 = (p s).1 ∧ R r (p s).2 (p' t).2
theorem qt_on : Qt 1 [tOn, za9] := qt_1 (by decide)
theorem qt_by : Qt 1 [tBy, zbP] := qt_1 (by decide)
theorem loc_levelF (hr : Hq r) {part part' : Rd → Nd × Rd} {ts : List ByteArray} (q : Qt 5 ts) {m m' : Nat} (hb : Bad part) (hp : Loc r m m' part part') (hs : ∀ s, Stp 1 s (part s).2) (hs' : ∀ s, Stp 1 s (part' s).2) : ∀ (F F' : Nat) (o : Nd) (s t : Rd), s.l.length < F → F ≤ F' → s.l.length ≤ m → t.l.length ≤ m' → R r s t → (zbe part ts F o s).2.b = false → (zbe part' ts F' o t).1 = (zbe part ts F o s).1 ∧ R r (zbe part ts F o s).2 (zbe part' ts F' o t).2
  | 0, _, _, s, _, h, _, _, _, _, _ => absurd h (Nat.not_lt_zero _)
  | F + 1, 0, _, _, _, _, h, _, _, _, _ => absurd h (Nat.not_succ_le_zero _)
  | F + 1, F' + 1, o, s, t, hF, hF', hm, hm', h, e => by
    obtain ⟨b1, b2, b3⟩ := h.takeq hr q
    unfold zbe at e ⊢
    rw [b2, b1]
    split
    · exact ⟨rfl, b3⟩
    · rename_i hc
      rw [if_neg hc] at e
      have hq : (s.take 5 ts).2.1 = true := by simpa using hc
      have hg := zaN (by decide) hq
      have hg' := zaN (s := t) (k := 5) (ts := ts) (by decide) (by rw [b2]; exact hq)
      simp only at e ⊢
      have k1 := (zc6 (s.take 5 ts).2.2 tOn za9).len
      have k2 := (zc6 (t.take 5 ts).2.2 tOn za9).len
      have ep : (part ((s.take 5 ts).2.2.mode tOn za9).2.2).2.b = false := zau zdm (zau (fun q => levelF_b q) e)
      obtain ⟨c1, c2, c3⟩ := b3.mode hr qt_on (hb.no ep)
      obtain ⟨d1, d2⟩ := hp _ _ (by omega) (by omega) c3 ep
      rw [c1, c2, d1]
      have k3 := (hs ((s.take 5 ts).2.2.mode tOn za9).2.2).len
      have k4 := (hs' ((t.take 5 ts).2.2.mode tOn za9).2.2).len
      exact loc_levelF hr q hb hp hs hs' F F' _ _ _ (by show (part _).2.l.length < F; omega) (by omega) (by show (part _).2.l.length ≤ m; omega) (by show (part' _).2.l.length ≤ m'; omega) d2.node e
theorem zc7 (hr : Hq r) {part part' : Rd → Nd × Rd} {ts : List ByteArray} (q : Qt 5 ts) {m m' : Nat} (hb : Bad part) (hp : Loc r m m' part part') (hs : ∀ s, Stp 1 s (part s).2) (hs' : ∀ s, Stp 1 s (part' s).2) : Loc r m m' (fun s => s.level part ts) (fun s => s.level part' ts) := fun s t hm hm' h e => by
  have ep : (part s).2.b = false := zau (fun q => levelF_b q) e
  obtain ⟨d1, d2⟩ := hp _ _ hm hm' h ep
  have k3 := (hs s).len
  have k4 := (hs' t).len
  have k5 := d2.len
  simp only [Rd.level] at e ⊢
  rw [d1]
  exact loc_levelF hr q hb hp hs hs' _ _ _ _ _ (Nat.lt_succ_self _) (by omega) (by omega) (by omega) d2 e
end
end Lp
