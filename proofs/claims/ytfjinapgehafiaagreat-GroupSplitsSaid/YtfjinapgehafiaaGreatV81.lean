/- Walks, printed by a program of mine. -/
import Derived.Test.YtfjinapgehafiaaGreatV34
set_option linter.unusedSimpArgs false
set_option linter.unusedVariables false
set_option maxHeartbeats 4000000
set_option maxRecDepth 100000
namespace Lp
open Go Go.RowKit Go.Proofs

namespace HdYtfjinapgehafiaaGreatV81
theorem zce : ∀ w, ((#[⟨"Labels", 50, 0, false, "", "", 0⟩, ⟨"V", 3, 1, false, "", "", 24⟩] : Array Field).mapM fun f => do pure (f.offset, ← Go.sizeOf f.type) : Sem (Array (Nat × Nat))).run Tryz.prog w = .ok ([(0, 1), (1, 1)] : List (Nat × Nat)).toArray w := fun _ => by kernel_rfl
theorem zZ (b o : Nat) : ∀ w, (Instr.fieldAt 53 (.pointer (some ⟨b, o, none⟩)) 0).run Tryz.prog w = .ok (.pointer (some ⟨b, o + 0, none⟩)) w := fun _ => by kernel_rfl
end HdYtfjinapgehafiaaGreatV81
open HdYtfjinapgehafiaaGreatV81

theorem lz_by {l : List RowD} (h : LZ l) {r : RowD} (hr : r ∈ l) (mode : Int) (ns : List ByteArray) : (byL mode ns r.ls).length ≤ 1000 ∧ ∀ x ∈ byL mode ns r.ls, x.n.size ≤ 100000 ∧ x.v.size ≤ 100000 := by
  unfold byL; split
  · exact h.key hr mode ns
  · exact ⟨Nat.zero_le _, fun _ h => by cases h⟩
theorem has_no {ks : List ByteArray} {k : ByteArray} (h : ¬ k ∈ ks) : hasN ks k = false := by
  cases e : hasN ks k with
  | false => rfl
  | true => exact absurd (hasN_mem.1 e) h

theorem text11_c (r : RowD) (hl : r.ls.length ≤ 1000) (hz : ∀ x ∈ r.ls, x.n.size ≤ 100000 ∧ x.v.size ≤ 100000) :
    CD Tryz.prog 32 [] [RowD.d r] (isR (D.s (za8 r.ls))) := by
  refine zr Tryz.func32 rfl (N := 6) rfl rfl (fun C => ?_)
  refine jk [0] rfl ?_
  refine JD.bd 0 rfl (fun bd0 => ?_)
  refine jT rfl (oE rfl (zbN rfl (CellD.agg)) ?_)
  rintro _ _ ⟨g1, rfl, rfl⟩
  refine oR 1 rfl (oZ rfl (jT rfl (oP rfl (zt rfl zZ rfl) (oP rfl (zH rfl (i := 0) rfl Tryz.isAgg50 rfl) (oW rfl rfl acs Tryz.call103 (refText_c r.ls (by omega) hz) (oR 1 rfl (oZ rfl (zm rfl ?_))))))))
  exact zj Tryz.results32 (.cons (zh rfl) .nil) rfl HSub.none ⟨rfl, rfl⟩

theorem splits11_c (mode : Int) (names : List ByteArray) (l : List RowD)  :
    CD Tryz.prog 6 [] [dI mode, .sh 1 (names.map D.s), .sh 2 (l.map RowD.d)] (isR (dB true)) := by
  refine zr Tryz.func6 rfl (N := 94) rfl rfl (fun C => ?_)
  refine jk [0, 1, 2] rfl ?_
  refine JD.bd 1 rfl (fun bd1 => ?_)
  have nl1 := zO bd1
  refine JD.bd 2 rfl (fun bd2 => ?_)
  have nl2 := zO bd2
  refine jT rfl (oR 1 rfl (oZ rfl (jS rfl (jS rfl (jk [0, 1, 2, 6] rfl ?_)))))
  refine zag 26 ((!(zbk l) || decide ((10 : Int) < ((names.length : Nat) : Int)))) [] (fun _ hQ1 => ?_) ?_
  · skip
    rcases Bool.eq_false_or_eq_true (zbk l) with hg2 | hg2
    · skip
      by_cases hg3 : (10 : Int) < ((names.length : Nat) : Int)
      · skip
        refine za rfl (oR 1 rfl (oW rfl rfl acs Tryz.call10 (Light10_c l) (os 16 rfl (congrArg (fun b => D.v (.bool b)) hg2) (oR 3 rfl (oG rfl (z1 (n := names.length) rfl Tryz.runUnderlying23 (by simp only [lm, lc, ln])) (oG rfl (zao rfl rfl (decide_eq_true hg3)) (oR 5 rfl (zg rfl ?_))))))))
        exact PD.sub ((26, dB (!(zbk l) || decide ((10 : Int) < ((names.length : Nat) : Int)))) :: [(0, dI mode), (1, .sh 1 (names.map D.s)), (2, .sh 2 (l.map RowD.d)), (6, dB false)]) ⟨sc rfl (Cv.eq (congrArg (fun b => D.v (.bool b)) (by first | (simp [hg2, hg3]; done) | (simp_all; done)))), sk rfl, sk rfl, sk rfl, sk rfl, trivial⟩ hQ1
      · skip
        refine za rfl (oR 1 rfl (oW rfl rfl acs Tryz.call10 (Light10_c l) (os 16 rfl (congrArg (fun b => D.v (.bool b)) hg2) (oR 3 rfl (oG rfl (z1 (n := names.length) rfl Tryz.runUnderlying23 (by simp only [lm, lc, ln])) (oG rfl (zao rfl rfl (decide_eq_false hg3)) (oR 2 rfl (oV rfl rfl acs Tryz.call30 (alive11_c) (oR 2 rfl (zg rfl ?_))))))))))
        exact PD.sub ((26, dB (!(zbk l) || decide ((10 : Int) < ((names.length : Nat) : Int)))) :: [(0, dI mode), (1, .sh 1 (names.map D.s)), (2, .sh 2 (l.map RowD.d)), (6, dB false)]) ⟨sc rfl (Cv.eq (congrArg (fun b => D.v (.bool b)) (by first | (simp [hg2, hg3]; done) | (simp_all; done)))), sk rfl, sk rfl, sk rfl, sk rfl, trivial⟩ hQ1
    · skip
      refine za rfl (oR 1 rfl (oW rfl rfl acs Tryz.call10 (Light10_c l) (os 16 rfl (congrArg (fun b => D.v (.bool b)) hg2) (oR 10 rfl (zg rfl ?_)))))
      exact PD.sub ((26, dB (!(zbk l) || decide ((10 : Int) < ((names.length : Nat) : Int)))) :: [(0, dI mode), (1, .sh 1 (names.map D.s)), (2, .sh 2 (l.map RowD.d)), (6, dB false)]) ⟨sc rfl (Cv.eq (congrArg (fun b => D.v (.bool b)) (by first | (simp [hg2]; done) | (simp_all; done)))), sk rfl, sk rfl, sk rfl, sk rfl, trivial⟩ hQ1
  · skip
    refine zc ?_
    refine jC rfl (fun hc4 => ?_) (fun hc4 => ?_)
    · simp only [bA, bB, bC, bD, bE, bF, bG, bH, bI, bJ] at hc4
      refine jT rfl (oW rfl rfl acs Tryz.call30 (alive11_c) (oR 1 rfl (oZ rfl (zm rfl (zd ?_)))))
      exact zj Tryz.results6 (.cons (zh rfl) .nil) rfl HSub.none ⟨rfl, rfl⟩
    · simp only [bA, bB, bC, bD, bE, bF, bG, bH, bI, bJ] at hc4
      have hlr : zbk l = true := by have h := hc4; first | exact h | exact h.1 | exact h.1.1 | exact h.1.1.1
      have hll := lightR_len hlr
      have hli : ∀ r ∈ l, zam r.ls = true := fun r hr => lightR_row hlr hr
      have htv := vr_tidy hlr
      have hts := tidyRs_trs hli
      have htl := hts.len
      have hlz := light_LZ hts.li
      have hgl := gs_len (mode := mode) (names := names) htv
      refine zk rfl (zc (jT rfl (oR 1 rfl (oW rfl rfl acs Tryz.call12 (tidy10_c l (by omega) hli) (oR 1 rfl (oZ rfl (jT rfl (oR 3 rfl (oW rfl rfl acs Tryz.call33 (splitF_c mode names (zW l) (by first | omega | decide)) (oR 1 rfl (oZ rfl (jT rfl (oR 1 rfl (oZ rfl (jT rfl (oE rfl ef_makeMap ?_))))))))))))))))
      rintro _ _ ⟨g5, rfl, rfl⟩
      refine on rfl (oR 1 rfl (oZ rfl (jk [0, 1, 6, 7, 8, 9, 10] rfl (jS rfl (jT rfl (oR 1 rfl (oZ rfl (jB rfl (jl2 (fun (a_ : Nat) (b_ : List ByteArray) => [(0, dI mode), (1, .sh 1 (names.map D.s)), (7, .sh 2 ((zW l).map RowD.d)), (8, .sh 1 ((zD mode names (zW l)).map (D.ls 2 RowD.d))), (10, .v (.map (some g5))), (11, dN a_), (9, dI (cntG ((zD mode names (zW l)).take a_)))]) (fun a_ b_ => [.mp g5 b_ (b_.map fun _ => dB true)]) (fun a_ b_ => (a_ ≤ (zD mode names (zW l)).length) ∧ (b_ = zdA mode names ((zD mode names (zW l)).take a_))) (fun a_ b_ => (zD mode names (zW l)).length - a_) 0 [] rfl ⟨sk rfl, sk rfl, sk rfl, sk rfl, sk rfl, sk rfl, sc rfl (Cv.eq rfl), trivial⟩ HSub.rfl' ⟨Nat.zero_le _, rfl⟩ ?_)))))))))
      rintro i ks ⟨hil, hks⟩
      refine ja rfl (jn rfl (jS rfl (jT rfl (oR 2 rfl (oP rfl (z1 (n := (zD mode names (zW l)).length) rfl Tryz.runUnderlying36 (by simp only [lm, lc, ln])) (oP rfl (zP rfl rfl rfl) (oZ rfl ?_)))))))
      refine jD rfl (fun hc6 => ?_) (fun hc6 => ?_)
      · skip
        obtain ⟨x1, hx1⟩ := zx (zD mode names (zW l)) i (by omega)
        obtain ⟨hne, hin, hle⟩ := grp htv (zaf hx1)
        have hx0 := List.length_pos_iff.2 hne
        have hcb := cntG_bd (gs := (zD mode names (zW l))) (fun g hg => Nat.le_trans (grp htv hg).2.2 (show (zW l).length ≤ 60 by omega)) i
        have hx60 : x1.length ≤ 60 := by omega
        refine zk rfl (zc (jS rfl (jB rfl (jS rfl (jT rfl (oR 2 rfl (oP rfl (zq (k := i) rfl rfl Tryz.runUnderlying36 Tryz.sizeOf22 (by first | rfl | omega) (zf (f := (D.ls 2 RowD.d)) hx1)) (oP rfl (zz rfl Tryz.isAgg22 rfl) (oP rfl (z1 (n := x1.length) rfl Tryz.runUnderlying22 (by simp only [lm, lc, ln])) (oP rfl (zM rfl rfl rfl) (oZ rfl ?_)))))))))))
        refine jD rfl (fun hc7 => ?_) (fun hc7 => ?_)
        · skip
          exfalso; omega
        · skip
          refine zk rfl (zc (jT rfl (oR 4 rfl (oP rfl (zq (k := i) rfl rfl Tryz.runUnderlying36 Tryz.sizeOf22 (by first | rfl | omega) (zf (f := (D.ls 2 RowD.d)) hx1)) (oP rfl (zz rfl Tryz.isAgg22 rfl) ?_)))))
          obtain ⟨x2, hx2⟩ := zx x1 0 (by omega)
          have hmx2 := hin x2 (zaf hx2)
          have hkx2 := zcv (zcg htv x2 hmx2)
          have hbx2 := lz_by hlz hmx2 mode names
          refine oP rfl (zq (k := 0) rfl rfl Tryz.runUnderlying22 Tryz.sizeOf53 (by first | rfl | omega) (zf hx2)) (oP rfl (zA rfl zZ rfl) (oP rfl (zz rfl Tryz.isAgg50 rfl) (oE rfl (zK [] _ [] rfl rfl (.cons ArgC.id (.cons ArgC.id (.cons ArgC.id .nil))) zw Tryz.call34 (by_c mode names x2.ls (by have h := hkx2; omega)) (.inl rfl)) ?_)))
          rintro _ _ ⟨_, ⟨v8, rfl, rfl⟩, rfl⟩
          refine on rfl (oR 1 rfl (oZ rfl (jS rfl ?_)))
          refine JD.mv (Mv.freeze (K' := [(0, dI mode), (1, .sh 1 (names.map D.s)), (7, .sh 2 ((zW l).map RowD.d)), (8, .sh 1 ((zD mode names (zW l)).map (D.ls 2 RowD.d))), (9, dI (cntG ((zD mode names (zW l)).take i))), (10, .v (.map (some g5))), (11, dN i), (12, .sh 2 ((byL mode names x2.ls).map Lbl.d)), (35, dN i), (36, .sh 1 ((zD mode names (zW l)).map (D.ls 2 RowD.d))), (37, dN ((zD mode names (zW l)).length)), (38, dB (decide (((i : Nat) : Int) < (((zD mode names (zW l)).length : Nat) : Int)))), (41, .sh 1 ((zD mode names (zW l)).map (D.ls 2 RowD.d))), (42, dN i), (43, .el (.sh 2 (x1.map RowD.d)) 0), (44, .sh 2 (x1.map RowD.d)), (45, dN x1.length), (46, dB (decide (((x1.length : Nat) : Int) = (0 : Int)))), (47, dI mode), (48, .sh 1 (names.map D.s)), (49, .sh 1 ((zD mode names (zW l)).map (D.ls 2 RowD.d))), (50, dN i), (51, .el (.sh 2 (x1.map RowD.d)) 0), (52, .sh 2 (x1.map RowD.d)), (53, .el (RowD.d x2) 0), (54, .el (RowD.d x2) 0), (55, .sh 2 (x2.ls.map Lbl.d)), (56, .sh 2 ((byL mode names x2.ls).map Lbl.d))]) [.sl v8 2 62 ((byL mode names x2.ls).map Lbl.d)] (H1 := [.mp g5 ks (ks.map fun _ => dB true)]) (H1' := [.mp g5 ks (ks.map fun _ => dB true)]) ⟨⟨_, rfl, ArgC.id⟩, ⟨_, rfl, ArgC.id⟩, ⟨_, rfl, ArgC.id⟩, ⟨_, rfl, ArgC.id⟩, ⟨_, rfl, ArgC.id⟩, ⟨_, rfl, ArgC.id⟩, ⟨_, rfl, ArgC.id⟩, ⟨_, rfl, ArgC.own (j := 0) rfl rfl⟩, ⟨_, rfl, ArgC.id⟩, ⟨_, rfl, ArgC.id⟩, ⟨_, rfl, ArgC.id⟩, ⟨_, rfl, ArgC.id⟩, ⟨_, rfl, ArgC.id⟩, ⟨_, rfl, ArgC.id⟩, ⟨_, rfl, ArgC.id⟩, ⟨_, rfl, ArgC.id⟩, ⟨_, rfl, ArgC.id⟩, ⟨_, rfl, ArgC.id⟩, ⟨_, rfl, ArgC.id⟩, ⟨_, rfl, ArgC.id⟩, ⟨_, rfl, ArgC.id⟩, ⟨_, rfl, ArgC.id⟩, ⟨_, rfl, ArgC.id⟩, ⟨_, rfl, ArgC.id⟩, ⟨_, rfl, ArgC.id⟩, ⟨_, rfl, ArgC.id⟩, ⟨_, rfl, ArgC.id⟩, ⟨_, rfl, ArgC.own (j := 0) rfl rfl⟩, trivial⟩ (.same .nil)) ?_
          refine za rfl (oR 1 rfl (oP rfl (zaN [0] [.tmp 57] (zv := (.agg #[(.slice none 0 0), (.int .i64 0)])) rfl rfl (.cons CellD.sh .nil) (Tryz.runUnderlying53) Tryz.zeroValue53 zce ⟨rfl, rfl, trivial⟩ rfl) (oW rfl rfl acs Tryz.call32 (text11_c (RowD.mk (byL mode names x2.ls) 0) hbx2.1 hbx2.2) (oR 1 rfl (oZ rfl (jS rfl (jS rfl ?_)))))))
          have hnk : ¬ za8 (byL mode names x2.ls) ∈ ks := by rw [hks]; exact txts_new htv hx1 hx2
          have hnb : hasN ks (za8 (RowD.mk (byL mode names x2.ls) 0).ls) = false := has_no hnk
          refine za rfl (oR 2 rfl (oP rfl ((p_seen (i := 0) rfl rfl rfl Tryz.underlying57 Tryz.underlying9 Tryz.zeroValue4).cv (Cv.eq (congrArg (fun b => D.v (.bool b)) hnb))) (oZ rfl (jCf rfl (zk rfl (zc (jT rfl (oR 2 rfl (oE rfl (ef_put (i := 0) (d := dB true) rfl rfl rfl rfl Tryz.underlying57 Tryz.underlying9 hnk) ?_)))))))))
          rintro _ _ ⟨rfl, rfl⟩
          refine OpsD.norm [.mp g5 (ks ++ [za8 (RowD.mk (byL mode names x2.ls) 0).ls]) ((ks ++ [za8 (RowD.mk (byL mode names x2.ls) 0).ls]).map fun _ => dB true)] (by simp only [List.map_append, List.map_cons, List.map_nil]; rfl) (oZ rfl (jT rfl (oR 1 rfl (oZ rfl (jB rfl ?_)))))
          refine jl1 (fun (a_ : Nat) => [(0, dI mode), (1, .sh 1 (names.map D.s)), (7, .sh 2 ((zW l).map RowD.d)), (8, .sh 1 ((zD mode names (zW l)).map (D.ls 2 RowD.d))), (10, .v (.map (some g5))), (11, dN i), (12, .sh 2 ((byL mode names x2.ls).map Lbl.d)), (13, .s (za8 (RowD.mk (byL mode names x2.ls) 0).ls)), (35, dN i), (36, .sh 1 ((zD mode names (zW l)).map (D.ls 2 RowD.d))), (37, dN ((zD mode names (zW l)).length)), (38, dB (decide (((i : Nat) : Int) < (((zD mode names (zW l)).length : Nat) : Int)))), (41, .sh 1 ((zD mode names (zW l)).map (D.ls 2 RowD.d))), (42, dN i), (43, .el (.sh 2 (x1.map RowD.d)) 0), (44, .sh 2 (x1.map RowD.d)), (45, dN x1.length), (46, dB (decide (((x1.length : Nat) : Int) = (0 : Int)))), (47, dI mode), (48, .sh 1 (names.map D.s)), (49, .sh 1 ((zD mode names (zW l)).map (D.ls 2 RowD.d))), (50, dN i), (51, .el (.sh 2 (x1.map RowD.d)) 0), (52, .sh 2 (x1.map RowD.d)), (53, .el (RowD.d x2) 0), (54, .el (RowD.d x2) 0), (55, .sh 2 (x2.ls.map Lbl.d)), (56, .sh 2 ((byL mode names x2.ls).map Lbl.d)), (57, .sh 2 ((byL mode names x2.ls).map Lbl.d)), (58, .agg [.sh 2 ((byL mode names x2.ls).map Lbl.d), dI 0]), (59, .s (za8 (RowD.mk (byL mode names x2.ls) 0).ls)), (60, .v (.map (some g5))), (61, .s (za8 (RowD.mk (byL mode names x2.ls) 0).ls)), (62, dB false), (63, .v (.map (some g5))), (64, .s (za8 (RowD.mk (byL mode names x2.ls) 0).ls)), (14, dN a_), (9, dI (cntG ((zD mode names (zW l)).take i) + ((a_ : Nat) : Int)))]) (fun a_ => [.mp g5 (ks ++ [za8 (RowD.mk (byL mode names x2.ls) 0).ls]) ((ks ++ [za8 (RowD.mk (byL mode names x2.ls) 0).ls]).map fun _ => dB true)]) (fun a_ => (a_ ≤ x1.length)) (fun a_ => x1.length - a_) 0 rfl ⟨sk rfl, sk rfl, sk rfl, sk rfl, sk rfl, sk rfl, sk rfl, sk rfl, sk rfl, sk rfl, sk rfl, sk rfl, sk rfl, sk rfl, sk rfl, sk rfl, sk rfl, sk rfl, sk rfl, sk rfl, sk rfl, sk rfl, sk rfl, sk rfl, sk rfl, sk rfl, sk rfl, sk rfl, sk rfl, sk rfl, sk rfl, sk rfl, sk rfl, sk rfl, sk rfl, sk rfl, sk rfl, sc rfl (Cv.eq (congrArg dI (by simp))), trivial⟩ HSub.rfl' (Nat.zero_le _) ?_
          rintro j hjl
          refine ja rfl (jn rfl (jS rfl (jT rfl (oR 3 rfl (oP rfl (zq (k := i) rfl rfl Tryz.runUnderlying36 Tryz.sizeOf22 (by first | rfl | omega) (zf (f := (D.ls 2 RowD.d)) hx1)) (oP rfl (zz rfl Tryz.isAgg22 rfl) (oP rfl (z1 (n := x1.length) rfl Tryz.runUnderlying22 (by simp only [lm, lc, ln])) (oP rfl (zP rfl rfl rfl) (oZ rfl ?_)))))))))
          refine jD rfl (fun hc9 => ?_) (fun hc9 => ?_)
          · skip
            refine zk rfl (zc (jS rfl (jB rfl (jT rfl (oR 1 rfl (oP rfl (zN (c := ((cntG ((zD mode names (zW l)).take i) + ((j : Nat) : Int)) + 1)) rfl rfl (zC (by omega) (by omega))) (oR 1 rfl (oZ rfl (jS rfl ?_)))))))))
            obtain ⟨x3, hx3⟩ := zx x1 j (by omega)
            have hmx3 := hin x3 (zaf hx3)
            have hkx3 := zcv (zcg htv x3 hmx3)
            have hbx3 := lz_by hlz hmx3 mode names
            have hsk : decide (byL mode names x3.ls = byL mode names x2.ls) = true := decide_eq_true (grp_key htv (zaf hx1) (zaf hx3) hx2)
            refine za rfl (oR 4 rfl (oP rfl (zq (k := i) rfl rfl Tryz.runUnderlying36 Tryz.sizeOf22 (by first | rfl | omega) (zf (f := (D.ls 2 RowD.d)) hx1)) (oP rfl (zz rfl Tryz.isAgg22 rfl) (oR 1 rfl (oP rfl (zq (k := j) rfl rfl Tryz.runUnderlying22 Tryz.sizeOf53 (by first | rfl | omega) (zf hx3)) (oP rfl (zA rfl zZ rfl) (oP rfl (zz rfl Tryz.isAgg50 rfl) (oE rfl (zK [] _ [] rfl rfl (.cons ArgC.id (.cons ArgC.id (.cons ArgC.id .nil))) zw Tryz.call34 (by_c mode names x3.ls (by have h := hkx3; omega)) (.inl rfl)) ?_))))))))
            rintro _ _ ⟨_, ⟨v10, rfl, rfl⟩, rfl⟩
            refine on rfl (oR 1 rfl (oE rfl (zK [] _ [.sl v10 2 62 ((byL mode names x3.ls).map Lbl.d)] rfl rfl (.cons (ArgC.own (j := 0) rfl rfl) (.cons ArgC.id .nil)) (zaE (j := 0) rfl zw) Tryz.call23 (SameLabels_c (byL mode names x3.ls) (byL mode names x2.ls)) (.inr (zbm rfl))) ?_))
            rintro _ _ ⟨_, ⟨rfl, rfl⟩, rfl⟩
            refine on rfl (os 88 rfl (congrArg (fun b => D.v (.bool b)) hsk) (oR 1 rfl (oZ rfl (jCf rfl (zk rfl (zp (zc (za rfl (oR 1 rfl (oP rfl (zN (c := ((j + 1 : Nat) : Int)) rfl rfl (zC (by omega) (by omega))) (oR 1 rfl (zg rfl (PD.subH (HSub.perm (zaG (i := 1) rfl)) (pn rfl (PD.subH (HSub.fst 1 rfl) (pn rfl ?_))))))))))))))))
            exact pl1 (j + 1) ⟨sk rfl, sk rfl, sk rfl, sk rfl, sk rfl, sk rfl, sk rfl, sk rfl, sk rfl, sk rfl, sk rfl, sk rfl, sk rfl, sk rfl, sk rfl, sk rfl, sk rfl, sk rfl, sk rfl, sk rfl, sk rfl, sk rfl, sk rfl, sk rfl, sk rfl, sk rfl, sk rfl, sk rfl, sk rfl, sk rfl, sk rfl, sk rfl, sk rfl, sk rfl, sk rfl, sk rfl, sk rfl, sc rfl (Cv.eq (congrArg dI (by omega))), trivial⟩ HSub.rfl' (by show j + 1 ≤ x1.length; omega) (by omega)
          · skip
            refine zJ rfl (zo (zn (zl (zp (zc (za rfl (oR 1 rfl (oP rfl (zN (c := ((i + 1 : Nat) : Int)) rfl rfl (zC (by omega) (by omega))) (oR 1 rfl (zg rfl (pn rfl ?_)))))))))))
            exact pl2 (i + 1) (ks ++ [za8 (RowD.mk (byL mode names x2.ls) 0).ls]) ⟨sk rfl, sk rfl, sk rfl, sk rfl, sk rfl, sk rfl, sc rfl (Cv.eq (congrArg dI (by rw [cntG_snoc hx1]; have h : j = x1.length := (by omega); rw [h]))), trivial⟩ HSub.rfl' ⟨by show i + 1 ≤ (zD mode names (zW l)).length; omega, by rw [hks, txts_snoc hx1 hx2]⟩ (by omega)
      · skip
        have hcnt : cntG ((zD mode names (zW l)).take i) = ((zW l).length : Int) := by rw [List.take_of_length_le (by omega), zbD htv]; exact cntG_split _
        refine zJ rfl (zo (zn (zl (zc (jk [7, 9] rfl (jT rfl (oR 2 rfl (oP rfl (z1 (n := (zW l).length) rfl Tryz.runUnderlying22 (by simp only [lm, lc, ln])) (oP rfl (zM rfl rfl rfl) (oR 1 rfl (oZ rfl (zm rfl ?_))))))))))))
        exact zj Tryz.results6 (.cons (zs (zh rfl) (Cv.eq (congrArg (fun b => D.v (.bool b)) (by simp [hcnt])))) .nil) rfl HSub.none ⟨rfl, rfl⟩
end Lp
