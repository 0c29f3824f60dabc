/- Walks, printed by a program of mine. -/
import Derived.Test.YtoanlikkhjohpaaGreatV6
set_option linter.unusedSimpArgs false
set_option linter.unusedVariables false
namespace Lp
open Go Go.RowKit Go.Proofs

namespace HdYtoanlikkhjohpaaGreatV7
theorem zbW (x y : Operand) (a b : Bool) (w : World) : (do eqGuard .eql 4 x y (.bool a) (.bool b); binOp .eql 4 (.bool a) (.bool b) : Sem Value).run Tryz.prog w = .ok (.bool (a == b)) w := by cases a <;> cases b <;> kernel_rfl
theorem zaa (b o : Nat) : ∀ w, (Instr.fieldAt 106 (.pointer (some ⟨b, o, none⟩)) 0).run Tryz.prog w = .ok (.pointer (some ⟨b, o + 0, none⟩)) w := fun _ => by kernel_rfl
theorem zaj (b o : Nat) : ∀ w, (Instr.fieldAt 106 (.pointer (some ⟨b, o, none⟩)) 1).run Tryz.prog w = .ok (.pointer (some ⟨b, o + 1, none⟩)) w := fun _ => by kernel_rfl
theorem zay : ∃ i, Tryz.prog.info? 106 = some i ∧ i.zero = some (.agg #[(.string ByteArray.empty), (.string ByteArray.empty)]) ∧ i.size = 2 ∧ i.bytes = 32 := zbc (by kernel_rfl)
theorem zaZ : Tryz.prog.underlying 52 = some (.slice 106) := by kernel_rfl
end HdYtoanlikkhjohpaaGreatV7
open HdYtoanlikkhjohpaaGreatV7

set_option maxHeartbeats 4000000 in
set_option maxRecDepth 100000 in
theorem sameLs_c (a : List Lbl) (b : List Lbl)  :
    CD Tryz.prog 31 [] [.sh 2 (a.map Lbl.d), .sh 2 (b.map Lbl.d)] (isR (dB (decide (zZ a b = 0)))) := by
  refine zB Tryz.func31 rfl (N := 9) rfl rfl (fun C => ?_)
  refine JD.keep [0, 1] [(0, .sh 2 (a.map Lbl.d)), (1, .sh 2 (b.map Lbl.d))] rfl ?_
  refine JD.bd 0 rfl (fun bd0 => ?_)
  have nl0 := zaf bd0
  refine JD.bd 1 rfl (fun bd1 => ?_)
  have nl1 := zaf bd1
  refine zd _ _ rfl rfl rfl (zc rfl (za rfl rfl (ze rfl) (zg rfl (zf (zd _ _ rfl rfl rfl (zc rfl (za rfl rfl (zb rfl) (za rfl rfl (zb rfl) (zl rfl rfl (zq [] _ [] rfl rfl (.cons ArgC.id (.cons ArgC.id .nil)) zk Tryz.call30 (Compare2_c a b) (.inl rfl)) ?_)))))))))
  rintro _ _ ⟨_, ⟨rfl, rfl⟩, rfl⟩
  refine OpsD.norm [] rfl (za rfl rfl (z5 rfl rfl rfl) (za rfl rfl (ze rfl) (zg rfl (zf (zE rfl ?_)))))
  exact zA Tryz.results31 (.cons (zX (zC rfl) (Cv.eq (congrArg (fun b => D.v (.bool b)) (by rfl)))) .nil) rfl HSub.none ⟨rfl, rfl⟩

set_option maxHeartbeats 4000000 in
set_option maxRecDepth 100000 in
theorem index_c (ns : List ByteArray) (n : ByteArray)  :
    CD Tryz.prog 156 [] [.sh 1 (ns.map D.s), .s n] (isR (dI (idxN n 0 ns))) := by
  refine zB Tryz.func156 rfl (N := 19) rfl rfl (fun C => ?_)
  refine JD.keep [0, 1] [(0, .sh 1 (ns.map D.s)), (1, .s n)] rfl ?_
  refine JD.bd 0 rfl (fun bd0 => ?_)
  have nl0 := zaf bd0
  refine JD.bd 1 rfl (fun bd1 => ?_)
  have sz1 : n.size ≤ 9223372036854775807 := bd1
  refine zd _ _ rfl rfl rfl (zc rfl (za rfl rfl (ze rfl) (zg rfl (zf (zd _ _ rfl rfl rfl (zd _ _ rfl rfl rfl (zc rfl (za rfl rfl (zb rfl) (za rfl rfl (zas (n := ns.length) rfl Tryz.runUnderlying53 (by simp only [lm, lc, ln])) (za rfl rfl (zb rfl) (zg rfl (zf (zu _ rfl rfl (zP (fun (g : Nat) => [(0, .sh 1 (ns.map D.s)), (1, .s n), (7, dN ns.length), (8, dN g)]) (fun (g : Nat) => []) (fun (g : Nat) => (idxN n 0 ns = idxN n g (ns.drop g))) (fun (g : Nat) => ns.length - g) _ 0 rfl rfl ⟨sk rfl, sk rfl, sk rfl, sk rfl, trivial⟩ HSub.rfl' rfl ?_))))))))))))))
  rintro k hf
  refine JD.keep [0, 1, 7, 8] [(0, .sh 1 (ns.map D.s)), (1, .s n), (7, dN ns.length), (8, dN k)] rfl (JD.norm [] rfl (zd _ _ rfl rfl rfl (zc rfl (za rfl rfl (zV rfl rfl rfl) (zg rfl (zf (zd _ _ rfl rfl rfl ?_)))))))
  refine zw _ _ rfl rfl rfl rfl (fun hc1 => ?_) (fun hc1 => ?_)
  · replace hc1 := of_decide_eq_true hc1
    refine zI rfl (zf (zd _ _ rfl rfl rfl (zu _ rfl rfl (zd _ _ rfl rfl rfl (zc rfl (za rfl rfl (zb rfl) (za rfl rfl (ze rfl) (zg rfl (zf (zd _ _ rfl rfl rfl (zc rfl (za rfl rfl (zb rfl) (za rfl rfl (zb rfl) (za rfl rfl (zb rfl) ?_))))))))))))))
    obtain ⟨x1, hx1⟩ := zW ns k (by omega)
    refine za rfl rfl (zN (k := k) rfl rfl Tryz.runUnderlying53 Tryz.sizeOf9 (by first | rfl | omega) (zJ hx1)) (za rfl rfl (zS rfl Tryz.isAgg9 rfl) (za rfl rfl (zbd rfl rfl rfl) (zg rfl (zf ?_))))
    refine zw _ _ rfl rfl rfl rfl (fun hc2 => ?_) (fun hc2 => ?_)
    · replace hc2 := of_decide_eq_true hc2
      refine zd _ _ rfl rfl rfl (zc rfl (za rfl rfl (zb rfl) (za rfl rfl (ze rfl) (zg rfl (zf (zE rfl (zz (zD (z6 (zz (zD ?_)))))))))))
      exact zA Tryz.results156 (.cons (zX (zC rfl) (Cv.eq (congrArg (fun n => D.v (.int .i64 n)) (by exact idxN_at hx1 hf hc2)))) .nil) rfl HSub.none ⟨rfl, rfl⟩
    · replace hc2 := of_decide_eq_false hc2
      refine zI rfl (zL (zf (zc rfl (za rfl rfl (zae (c := ((k + 1 : Nat) : Int)) rfl rfl (z3 (by omega) (by omega))) (za rfl rfl (zb rfl) (zg rfl ?_))))))
      exact zU (k + 1) ⟨sk rfl, sk rfl, sk rfl, sk rfl, trivial⟩ HSub.rfl' (idxN_next hx1 hf hc2) (by omega)
  · replace hc1 := of_decide_eq_false hc1
    refine zO rfl (zx (zt (zo (zf (zd _ _ rfl rfl rfl (zc rfl (za rfl rfl (ze rfl) (zg rfl (zf (zE rfl ?_))))))))))
    exact zA Tryz.results156 (.cons (zX (zC rfl) (Cv.eq (congrArg (fun n => D.v (.int .i64 n)) (by exact idxN_end (by omega) hf)))) .nil) rfl HSub.none ⟨rfl, rfl⟩

set_option maxHeartbeats 4000000 in
set_option maxRecDepth 100000 in
theorem contains_c (ns : List ByteArray) (n : ByteArray)  :
    CD Tryz.prog 132 [] [.sh 1 (ns.map D.s), .s n] (isR (dB (hasN ns n))) := by
  refine zB Tryz.func132 rfl (N := 9) rfl rfl (fun C => ?_)
  refine JD.keep [0, 1] [(0, .sh 1 (ns.map D.s)), (1, .s n)] rfl ?_
  refine JD.bd 0 rfl (fun bd0 => ?_)
  have nl0 := zaf bd0
  refine JD.bd 1 rfl (fun bd1 => ?_)
  have sz1 : n.size ≤ 9223372036854775807 := bd1
  refine zd _ _ rfl rfl rfl (zc rfl (za rfl rfl (ze rfl) (zg rfl (zf (zd _ _ rfl rfl rfl (zc rfl (za rfl rfl (zb rfl) (za rfl rfl (zb rfl) (zl rfl rfl (zq [] _ [] rfl rfl (.cons ArgC.id (.cons ArgC.id .nil)) zk Tryz.call156 (index_c ns n) (.inl rfl)) ?_)))))))))
  rintro _ _ ⟨_, ⟨rfl, rfl⟩, rfl⟩
  refine OpsD.norm [] rfl (za rfl rfl (zab rfl rfl rfl) (za rfl rfl (ze rfl) (zg rfl (zf (zE rfl ?_)))))
  exact zA Tryz.results132 (.cons (zX (zC rfl) (Cv.eq (congrArg (fun b => D.v (.bool b)) (by exact idxN_has n ns 0)))) .nil) rfl HSub.none ⟨rfl, rfl⟩

set_option maxHeartbeats 4000000 in
set_option maxRecDepth 100000 in
theorem part_c (l : List Lbl) (names : List ByteArray) (wanted : Bool) (hl : l.length ≤ 1000000) :
    CD Tryz.prog 96 [] [.sh 2 (l.map Lbl.d), .sh 1 (names.map D.s), dB wanted] (zcT 2 106 ((zs l names wanted).map Lbl.d)) := by
  refine zB Tryz.func96 rfl (N := 28) rfl rfl (fun C => ?_)
  refine JD.keep [0, 1, 2] [(0, .sh 2 (l.map Lbl.d)), (1, .sh 1 (names.map D.s)), (2, dB wanted)] rfl ?_
  refine JD.bd 0 rfl (fun bd0 => ?_)
  have nl0 := zaf bd0
  refine JD.bd 1 rfl (fun bd1 => ?_)
  have nl1 := zaf bd1
  refine zd _ _ rfl rfl rfl (zc rfl (za rfl rfl (ze rfl) (zg rfl (zf (zd _ _ rfl rfl rfl (zc rfl (za rfl rfl (ze rfl) (zg rfl (zf (zd _ _ rfl rfl rfl (zd _ _ rfl rfl rfl (zc rfl (za rfl rfl (zb rfl) (za rfl rfl (zas (n := l.length) rfl Tryz.runUnderlying52 (by simp only [lm, lc, ln])) (za rfl rfl (zb rfl) (zg rfl (zf (zu _ rfl rfl (zP (fun (g : Nat × Value × List Lbl) => [(1, .sh 1 (names.map D.s)), (2, dB wanted), (6, dZ), (10, .sh 2 (l.map Lbl.d)), (11, dN l.length), (12, dN g.1), (7, .ov g.2.1)]) (fun (g : Nat × Value × List Lbl) => [.sl g.2.1 2 106 (g.2.2.map Lbl.d)]) (fun (g : Nat × Value × List Lbl) => (zs (l.take g.1) names wanted = g.2.2) ∧ (g.2.2.length ≤ g.1)) (fun (g : Nat × Value × List Lbl) => l.length - g.1) _ (0, .slice none 0 0, []) rfl rfl ⟨sk rfl, sk rfl, sk rfl, sk rfl, sk rfl, sk rfl, sc rfl (Cv.ov rfl), trivial⟩ (HSub.nil 2 106) ⟨by simp [zs], Nat.le_refl _⟩ ?_)))))))))))))))))))
  rintro ⟨k, ov, o⟩ ⟨hf, ho⟩
  replace hf : zs (l.take k) names wanted = o := hf
  replace ho : o.length ≤ k := ho
  refine JD.keep [1, 2, 6, 10, 11, 12, 7] [(1, .sh 1 (names.map D.s)), (2, dB wanted), (6, dZ), (10, .sh 2 (l.map Lbl.d)), (11, dN l.length), (12, dN k), (7, .ov ov)] rfl (JD.norm [.sl ov 2 106 (o.map Lbl.d)] rfl (zd _ _ rfl rfl rfl (zc rfl (za rfl rfl (zV rfl rfl rfl) (zg rfl (zf (zd _ _ rfl rfl rfl ?_)))))))
  refine zw _ _ rfl rfl rfl rfl (fun hc1 => ?_) (fun hc1 => ?_)
  · replace hc1 := of_decide_eq_true hc1
    refine zI rfl (zf (zd _ _ rfl rfl rfl (zu _ rfl rfl (zd _ _ rfl rfl rfl (zc rfl ?_)))))
    obtain ⟨x1, hx1⟩ := zW l k (by omega)
    refine za rfl rfl (zN (k := k) rfl rfl Tryz.runUnderlying52 Tryz.sizeOf106 (by first | rfl | omega) (zJ hx1)) (za rfl rfl (za7 (d := Lbl.d x1) rfl Tryz.isAgg106 Tryz.sizeOf106 rfl rfl) (zl rfl rfl (zbL (zv := (.agg #[(.string ByteArray.empty), (.string ByteArray.empty)])) Tryz.zeroValue106 ⟨rfl, rfl, trivial⟩ (Cv.vagg (by decide))) ?_))
    rintro _ _ ⟨g2, rfl, rfl⟩
    refine zl rfl rfl (zaz (i := 0) (X' := Lbl.d x1) rfl rfl rfl (CellD.agg) Tryz.sizeOf106 rfl rfl rfl) ?_
    rintro _ _ ⟨rfl, rfl⟩
    refine OpsD.norm [.bx g2 106 (Lbl.d x1), .sl ov 2 106 (o.map Lbl.d)] rfl (zg rfl (zf (zd _ _ rfl rfl rfl (zc rfl (za rfl rfl (zb rfl) (za rfl rfl (zn rfl zaa rfl) (za rfl rfl (zy rfl (i := 0) rfl Tryz.isAgg9 rfl) (zl rfl rfl (zq [] _ [] rfl rfl (.cons ArgC.id (.cons ArgC.id .nil)) zk Tryz.call132 (contains_c names x1.n) (.inl rfl)) ?_))))))))
    rintro _ _ ⟨_, ⟨rfl, rfl⟩, rfl⟩
    refine OpsD.norm [.bx g2 106 (Lbl.d x1), .sl ov 2 106 (o.map Lbl.d)] rfl (za rfl rfl (zb rfl) (za rfl rfl (zb1 (r := .bool (hasN names x1.n == wanted)) rfl rfl (zbW _ _ _ _)) (zg rfl (zf ?_))))
    refine zw _ _ rfl rfl rfl rfl (fun hc3 => ?_) (fun hc3 => ?_)
    · skip
      refine zc rfl (za rfl rfl (zb rfl) (za rfl rfl (p_load_bx (d := Lbl.d x1) rfl (i := 0) rfl Tryz.isAgg106 Tryz.sizeOf106 rfl rfl) (zl rfl rfl (z0 [.tmp 23] rfl rfl (.cons CellD.agg .nil) rfl Tryz.runUnderlying52 Tryz.sizeOf106 Tryz.zeroValue106 rfl rfl rfl rfl) ?_)))
      rintro _ _ ⟨g4, rfl, rfl⟩
      refine zl rfl rfl (z4 (f := Lbl.d) (l := o) (l' := [x1]) (i := 2) rfl rfl rfl (SrcD.own (j := 0) rfl rfl) zaZ zay rfl rfl (by unfold maxLen; (try simp only [la, lc, ln, lm, lt', ld, ls, lr]); omega) (by (try simp only [la, lc, ln, lm, lt', ld, ls, lr]); omega)) ?_
      rintro _ _ ⟨v5, rfl, rfl⟩
      refine OpsD.norm [.sl (vS g4 1 1) 2 106 ([Lbl.d x1]), .bx g2 106 (Lbl.d x1), .sl v5 2 106 ((o ++ [x1]).map Lbl.d)] rfl (za rfl rfl (ze rfl) (zg rfl (zL (zf (zc rfl (za rfl rfl (zae (c := ((k + 1 : Nat) : Int)) rfl rfl (z3 (by omega) (by omega))) (za rfl rfl (zb rfl) (zg rfl ?_))))))))
      exact zU (k + 1, v5, (o ++ [x1])) ⟨sk rfl, sk rfl, sk rfl, sk rfl, sk rfl, sk rfl, sk rfl, trivial⟩ (HSub.lst 2 rfl) ⟨by rw [pickL_snoc hx1 (by simpa using hc3), hf], by have := zbT (l.take k) names wanted; (try simp only [la, List.length_singleton]); (try simp only [lt'] at this); omega⟩ (by omega)
    · skip
      refine zI rfl (zL (zf (zc rfl (za rfl rfl (zae (c := ((k + 1 : Nat) : Int)) rfl rfl (z3 (by omega) (by omega))) (za rfl rfl (zb rfl) (zg rfl ?_))))))
      exact zU (k + 1, ov, o) ⟨sk rfl, sk rfl, sk rfl, sk rfl, sk rfl, sk rfl, sk rfl, trivial⟩ (HSub.lst 1 rfl) ⟨by rw [pickL_skip hx1 (by simpa using hc3), hf], by have := zbT (l.take k) names wanted; (try simp only [la, List.length_singleton]); (try simp only [lt'] at this); omega⟩ (by omega)
  · replace hc1 := of_decide_eq_false hc1
    refine zO rfl (zx (zt (zo (zf (zd _ _ rfl rfl rfl (zc rfl (za rfl rfl (zb rfl) (za rfl rfl (ze rfl) (zg rfl (zf (zE rfl (PD.subH (HSub.less (zbR (i := 0) rfl)) (PD.subH (HSub.turn (h' := .sl ov 2 106 ((zs l names wanted).map Lbl.d)) rfl (Hp.eq_sl (show List.map Lbl.d o = List.map Lbl.d (zs l names wanted) from congrArg _ (by rw [← hf, List.take_of_length_le (by omega)])))) ?_)))))))))))))
    exact zcd Tryz.results96 (.cons (zC rfl) .nil) rfl ⟨_, rfl, rfl⟩

set_option maxHeartbeats 4000000 in
set_option maxRecDepth 100000 in
theorem only_c (l : List Lbl) (names : List ByteArray) (hl : l.length ≤ 1000000) :
    CD Tryz.prog 22 [] [.sh 2 (l.map Lbl.d), .sh 1 (names.map D.s)] (zcT 2 106 ((zs l names true).map Lbl.d)) := by
  refine zB Tryz.func22 rfl (N := 8) rfl rfl (fun C => ?_)
  refine JD.keep [0, 1] [(0, .sh 2 (l.map Lbl.d)), (1, .sh 1 (names.map D.s))] rfl ?_
  refine JD.bd 0 rfl (fun bd0 => ?_)
  have nl0 := zaf bd0
  refine JD.bd 1 rfl (fun bd1 => ?_)
  have nl1 := zaf bd1
  refine zd _ _ rfl rfl rfl (zc rfl (za rfl rfl (ze rfl) (zg rfl (zf (zd _ _ rfl rfl rfl (zc rfl (za rfl rfl (zb rfl) (za rfl rfl (zb rfl) (zl rfl rfl (zq [] _ [] rfl rfl (.cons ArgC.id (.cons ArgC.id (.cons ArgC.id .nil))) zk Tryz.call96 (part_c l names true (by omega)) (.inl rfl)) ?_)))))))))
  rintro _ _ ⟨_, ⟨v1, rfl, rfl⟩, rfl⟩
  refine OpsD.norm [.sl v1 2 106 ((zs l names true).map Lbl.d)] rfl (za rfl rfl (ze rfl) (zg rfl (zf (zE rfl (PD.subH (HSub.less (zbR (i := 0) rfl)) ?_)))))
  exact zcd Tryz.results22 (.cons (zC rfl) .nil) rfl ⟨_, rfl, rfl⟩

set_option maxHeartbeats 4000000 in
set_option maxRecDepth 100000 in
theorem without_c (l : List Lbl) (names : List ByteArray) (hl : l.length ≤ 1000000) :
    CD Tryz.prog 23 [] [.sh 2 (l.map Lbl.d), .sh 1 (names.map D.s)] (zcT 2 106 ((zs l names false).map Lbl.d)) := by
  refine zB Tryz.func23 rfl (N := 8) rfl rfl (fun C => ?_)
  refine JD.keep [0, 1] [(0, .sh 2 (l.map Lbl.d)), (1, .sh 1 (names.map D.s))] rfl ?_
  refine JD.bd 0 rfl (fun bd0 => ?_)
  have nl0 := zaf bd0
  refine JD.bd 1 rfl (fun bd1 => ?_)
  have nl1 := zaf bd1
  refine zd _ _ rfl rfl rfl (zc rfl (za rfl rfl (ze rfl) (zg rfl (zf (zd _ _ rfl rfl rfl (zc rfl (za rfl rfl (zb rfl) (za rfl rfl (zb rfl) (zl rfl rfl (zq [] _ [] rfl rfl (.cons ArgC.id (.cons ArgC.id (.cons ArgC.id .nil))) zk Tryz.call96 (part_c l names false (by omega)) (.inl rfl)) ?_)))))))))
  rintro _ _ ⟨_, ⟨v1, rfl, rfl⟩, rfl⟩
  refine OpsD.norm [.sl v1 2 106 ((zs l names false).map Lbl.d)] rfl (za rfl rfl (ze rfl) (zg rfl (zf (zE rfl (PD.subH (HSub.less (zbR (i := 0) rfl)) ?_)))))
  exact zcd Tryz.results23 (.cons (zC rfl) .nil) rfl ⟨_, rfl, rfl⟩

set_option maxHeartbeats 4000000 in
set_option maxRecDepth 100000 in
theorem getL_c (l : List Lbl) (name : ByteArray)  :
    CD Tryz.prog 27 [] [.sh 2 (l.map Lbl.d), .s name] (isR (D.s (getL l name))) := by
  refine zB Tryz.func27 rfl (N := 20) rfl rfl (fun C => ?_)
  refine JD.keep [0, 1] [(0, .sh 2 (l.map Lbl.d)), (1, .s name)] rfl ?_
  refine JD.bd 0 rfl (fun bd0 => ?_)
  have nl0 := zaf bd0
  refine JD.bd 1 rfl (fun bd1 => ?_)
  have sz1 : name.size ≤ 9223372036854775807 := bd1
  refine zd _ _ rfl rfl rfl (zc rfl (za rfl rfl (ze rfl) (zg rfl (zf (zd _ _ rfl rfl rfl (zd _ _ rfl rfl rfl (zc rfl (za rfl rfl (zb rfl) (za rfl rfl (zas (n := l.length) rfl Tryz.runUnderlying52 (by simp only [lm, lc, ln])) (za rfl rfl (zb rfl) (zg rfl (zf (zu _ rfl rfl (zP (fun (g : Nat) => [(1, .s name), (7, .sh 2 (l.map Lbl.d)), (8, dN l.length), (9, dN g)]) (fun (g : Nat) => []) (fun (g : Nat) => (getL l name = getL (l.drop g) name)) (fun (g : Nat) => l.length - g) _ 0 rfl rfl ⟨sk rfl, sk rfl, sk rfl, sk rfl, trivial⟩ HSub.rfl' rfl ?_))))))))))))))
  rintro k hf
  refine JD.keep [1, 7, 8, 9] [(1, .s name), (7, .sh 2 (l.map Lbl.d)), (8, dN l.length), (9, dN k)] rfl (JD.norm [] rfl (zd _ _ rfl rfl rfl (zc rfl (za rfl rfl (zV rfl rfl rfl) (zg rfl (zf (zd _ _ rfl rfl rfl ?_)))))))
  refine zw _ _ rfl rfl rfl rfl (fun hc1 => ?_) (fun hc1 => ?_)
  · replace hc1 := of_decide_eq_true hc1
    refine zI rfl (zf (zd _ _ rfl rfl rfl (zu _ rfl rfl (zd _ _ rfl rfl rfl (zc rfl ?_)))))
    obtain ⟨x1, hx1⟩ := zW l k (by omega)
    refine za rfl rfl (zN (k := k) rfl rfl Tryz.runUnderlying52 Tryz.sizeOf106 (by first | rfl | omega) (zJ hx1)) (za rfl rfl (za7 (d := Lbl.d x1) rfl Tryz.isAgg106 Tryz.sizeOf106 rfl rfl) (zl rfl rfl (zbL (zv := (.agg #[(.string ByteArray.empty), (.string ByteArray.empty)])) Tryz.zeroValue106 ⟨rfl, rfl, trivial⟩ (Cv.vagg (by decide))) ?_))
    rintro _ _ ⟨g2, rfl, rfl⟩
    refine zl rfl rfl (zaz (i := 0) (X' := Lbl.d x1) rfl rfl rfl (CellD.agg) Tryz.sizeOf106 rfl rfl rfl) ?_
    rintro _ _ ⟨rfl, rfl⟩
    refine OpsD.norm [.bx g2 106 (Lbl.d x1)] rfl (zg rfl (zf (zd _ _ rfl rfl rfl (zc rfl (za rfl rfl (zn rfl zaa rfl) (za rfl rfl (zy rfl (i := 0) rfl Tryz.isAgg9 rfl) (za rfl rfl (zb rfl) (za rfl rfl (zbd rfl rfl rfl) (zg rfl (zf ?_))))))))))
    refine zw _ _ rfl rfl rfl rfl (fun hc3 => ?_) (fun hc3 => ?_)
    · replace hc3 := of_decide_eq_true hc3
      refine zd _ _ rfl rfl rfl (zc rfl (za rfl rfl (zn rfl zaj rfl) (za rfl rfl (zy rfl (i := 0) rfl Tryz.isAgg9 rfl) (za rfl rfl (ze rfl) (zg rfl (zf (zE rfl (zz (zD (z6 (zz (zD ?_))))))))))))
      exact zA Tryz.results27 (.cons (zX (zC rfl) (Cv.eq (congrArg D.s (by exact getL_at hx1 hf hc3)))) .nil) rfl HSub.none ⟨rfl, rfl⟩
    · replace hc3 := of_decide_eq_false hc3
      refine zI rfl (zL (zf (zc rfl (za rfl rfl (zae (c := ((k + 1 : Nat) : Int)) rfl rfl (z3 (by omega) (by omega))) (za rfl rfl (zb rfl) (zg rfl ?_))))))
      exact zU (k + 1) ⟨sk rfl, sk rfl, sk rfl, sk rfl, trivial⟩ HSub.none (getL_next hx1 hf hc3) (by omega)
  · replace hc1 := of_decide_eq_false hc1
    refine zO rfl (zx (zt (zo (zf (zd _ _ rfl rfl rfl (zc rfl (za rfl rfl (ze rfl) (zg rfl (zf (zE rfl ?_))))))))))
    exact zA Tryz.results27 (.cons (zX (zC rfl) (((Cv.str (by first | decide | (unfold maxLen; omega)))).trans (Cv.eq (congrArg D.s (by exact getL_end (by omega) hf))))) .nil) rfl HSub.none ⟨rfl, rfl⟩

set_option maxHeartbeats 4000000 in
set_option maxRecDepth 100000 in
theorem right_c (l : List Lbl)  :
    CD Tryz.prog 32 [] [.sh 2 (l.map Lbl.d)] (isR (dB (decide (zM l = 0) && decide (zZ (zj l) l = 0)))) := by
  refine zB Tryz.func32 rfl (N := 17) rfl rfl (fun C => ?_)
  refine JD.keep [0] [(0, .sh 2 (l.map Lbl.d))] rfl ?_
  refine JD.bd 0 rfl (fun bd0 => ?_)
  have nl0 := zaf bd0
  refine zd _ _ rfl rfl rfl (zc rfl (za rfl rfl (ze rfl) (zg rfl (zf (zd _ _ rfl rfl rfl (zc rfl (za rfl rfl (zb rfl) (zl rfl rfl (zq [] _ [] rfl rfl (.cons ArgC.id .nil) zk Tryz.call21 (tidy_c l) (.inl rfl)) ?_))))))))
  rintro _ _ ⟨_, ⟨v1, rfl, rfl⟩, rfl⟩
  refine OpsD.norm [.sl v1 2 106 ((zj l).map Lbl.d)] rfl (za rfl rfl (zb rfl) (za rfl rfl (z9 rfl rfl) (za rfl rfl (z9 rfl rfl) (za rfl rfl (ze rfl) (za rfl rfl (ze rfl) (zg rfl (zf (zd _ _ rfl rfl rfl (JD.keep [0, 3, 4] [(0, .sh 2 (l.map Lbl.d)), (3, .ov v1), (4, dI (zM l))] rfl ?_)))))))))
  refine zau 2 ((decide (zM l = (0 : Int)) && decide (zZ (zj l) l = 0))) [.sl v1 2 106 ((zj l).map Lbl.d)] (fun _ hQ2 => ?_) ?_
  · skip
    by_cases hg3 : zM l = (0 : Int)
    · skip
      refine zc rfl (za rfl rfl (zb rfl) (za rfl rfl (z5 rfl rfl (decide_eq_true hg3)) (za rfl rfl (zb rfl) (zh rfl rfl rfl rfl rfl (zb rfl) (zh rfl rfl rfl rfl rfl (zb rfl) (z2 rfl rfl rfl rfl rfl (zq [] _ [.sl v1 2 106 ((zj l).map Lbl.d)] rfl rfl (.cons (ArgC.own (j := 0) rfl rfl) (.cons ArgC.id .nil)) (zag (j := 0) rfl zk) Tryz.call31 (sameLs_c (zj l) l) (.inr (zaC rfl))) ?_))))))
      rintro _ _ ⟨_, ⟨rfl, rfl⟩, rfl⟩
      refine OpsD.norm [.sl v1 2 106 ((zj l).map Lbl.d)] rfl (za rfl rfl (zm rfl rfl) (za rfl rfl (ze rfl) (zg rfl ?_)))
      exact PD.sub ((2, dB (decide (zM l = (0 : Int)) && decide (zZ (zj l) l = 0))) :: [(0, .sh 2 (l.map Lbl.d)), (3, .ov v1), (4, dI (zM l))]) ⟨sc rfl (Cv.eq (congrArg (fun b => D.v (.bool b)) (by first | (simp [hg3]; done) | (simp_all; done)))), sk rfl, sk rfl, sk rfl, trivial⟩ hQ2
    · skip
      refine zc rfl (za rfl rfl (zb rfl) (za rfl rfl (z5 rfl rfl (decide_eq_false hg3)) (za rfl rfl (zb rfl) (zi rfl rfl rfl rfl rfl (by decide) (zi rfl rfl rfl rfl rfl (by decide) (zi rfl rfl rfl rfl rfl (by decide) (za rfl rfl (zp rfl rfl) (za rfl rfl (ze rfl) (zg rfl ?_)))))))))
      exact PD.sub ((2, dB (decide (zM l = (0 : Int)) && decide (zZ (zj l) l = 0))) :: [(0, .sh 2 (l.map Lbl.d)), (3, .ov v1), (4, dI (zM l))]) ⟨sc rfl (Cv.eq (congrArg (fun b => D.v (.bool b)) (by first | (simp [hg3]; done) | (simp_all; done)))), sk rfl, sk rfl, sk rfl, trivial⟩ hQ2
  · skip
    refine zf (zE rfl ?_)
    exact zA Tryz.results32 (.cons (zX (zC rfl) (Cv.eq (congrArg (fun b => D.v (.bool b)) (by simp [*])))) .nil) rfl HSub.none ⟨rfl, rfl⟩
end Lp
/- Walks, printed by a program of mine. -/
set_option linter.unusedSimpArgs false
set_option linter.unusedVariables false
namespace Lp
open Go Go.RowKit Go.Proofs

namespace HdYtoanlikkhjohpaaGreatV10
theorem zda : ∀ w, ((#[⟨"Name", 9, 0, false, "", "", 0⟩, ⟨"Value", 9, 1, false, "", "", 16⟩] : Array Field).mapM fun f => do pure (f.offset, ← Go.sizeOf f.type) : Sem (Array (Nat × Nat))).run Tryz.prog w = .ok ([(0, 1), (1, 1)] : List (Nat × Nat)).toArray w := fun _ => by kernel_rfl
end HdYtoanlikkhjohpaaGreatV10
open HdYtoanlikkhjohpaaGreatV10

set_option maxHeartbeats 4000000 in
set_option maxRecDepth 100000 in
theorem alive2_c   :
    CD Tryz.prog 17 [] [] (isR (dB true)) := by
  refine zB Tryz.func17 rfl (N := 31) rfl rfl (fun C => ?_)
  refine JD.keep [] [] rfl ?_
  have hal : (zj [Lbl.mk (⟨#[98]⟩ : ByteArray) (⟨#[120]⟩ : ByteArray), Lbl.mk (⟨#[97]⟩ : ByteArray) (⟨#[121]⟩ : ByteArray)]).length = 2 := al_len
  refine zd _ _ rfl rfl rfl (zc rfl (za rfl rfl (ze rfl) (zg rfl (zf (zd _ _ rfl rfl rfl (zc rfl (za rfl rfl (zcZ [0, 1] [.const (.string (⟨#[98]⟩ : ByteArray)), .const (.string (⟨#[120]⟩ : ByteArray))] (zv := (.agg #[(.string ByteArray.empty), (.string ByteArray.empty)])) rfl rfl (.cons (CellD.v rfl) (.cons (CellD.v rfl) .nil)) (Tryz.runUnderlying106) Tryz.zeroValue106 zda ⟨rfl, rfl, trivial⟩ rfl) (za rfl rfl (zcZ [0, 1] [.const (.string (⟨#[97]⟩ : ByteArray)), .const (.string (⟨#[121]⟩ : ByteArray))] (zv := (.agg #[(.string ByteArray.empty), (.string ByteArray.empty)])) rfl rfl (.cons (CellD.v rfl) (.cons (CellD.v rfl) .nil)) (Tryz.runUnderlying106) Tryz.zeroValue106 zda ⟨rfl, rfl, trivial⟩ rfl) (zl rfl rfl (z0 [.tmp 4, .tmp 5] rfl rfl (.cons CellD.agg (.cons CellD.agg .nil)) rfl Tryz.runUnderlying52 Tryz.sizeOf106 Tryz.zeroValue106 rfl rfl rfl rfl) ?_)))))))))
  rintro _ _ ⟨g1, rfl, rfl⟩
  refine OpsD.subH (HSub.turn (h' := .sl (vS g1 2 2) 2 106 ([(Lbl.mk (⟨#[98]⟩ : ByteArray) (⟨#[120]⟩ : ByteArray)), (Lbl.mk (⟨#[97]⟩ : ByteArray) (⟨#[121]⟩ : ByteArray))].map Lbl.d)) rfl (Hp.cvs_sl (.cons (Cv.agg (.cons ((Cv.str (by first | decide | (unfold maxLen; omega)))) (.cons ((Cv.str (by first | decide | (unfold maxLen; omega)))) .nil))) (.cons (Cv.agg (.cons ((Cv.str (by first | decide | (unfold maxLen; omega)))) (.cons ((Cv.str (by first | decide | (unfold maxLen; omega)))) .nil))) .nil)))) (zl rfl rfl (zq [] _ [.sl (vS g1 2 2) 2 106 ([(Lbl.mk (⟨#[98]⟩ : ByteArray) (⟨#[120]⟩ : ByteArray)), (Lbl.mk (⟨#[97]⟩ : ByteArray) (⟨#[121]⟩ : ByteArray))].map Lbl.d)] rfl rfl (.cons (ArgC.own (j := 0) rfl rfl) .nil) (zag (j := 0) rfl zk) Tryz.call21 (tidy_c [(Lbl.mk (⟨#[98]⟩ : ByteArray) (⟨#[120]⟩ : ByteArray)), (Lbl.mk (⟨#[97]⟩ : ByteArray) (⟨#[121]⟩ : ByteArray))]) (.inr (fun _ _ ⟨_, e1, e2⟩ => by subst e1; subst e2; exact ⟨rfl, fun x hx => by rcases hx with _ | ⟨_, hx⟩ <;> first | exact flatL_map (fun _ => rfl) _ | (cases hx; exact flatL_map (fun _ => rfl) _) | cases hx⟩))) ?_)
  rintro _ _ ⟨_, ⟨v2, rfl, rfl⟩, rfl⟩
  refine OpsD.norm [.sl v2 2 106 ((zj [(Lbl.mk (⟨#[98]⟩ : ByteArray) (⟨#[120]⟩ : ByteArray)), (Lbl.mk (⟨#[97]⟩ : ByteArray) (⟨#[121]⟩ : ByteArray))]).map Lbl.d), .sl (vS g1 2 2) 2 106 ([(Lbl.mk (⟨#[98]⟩ : ByteArray) (⟨#[120]⟩ : ByteArray)), (Lbl.mk (⟨#[97]⟩ : ByteArray) (⟨#[121]⟩ : ByteArray))].map Lbl.d)] rfl (za rfl rfl (zb rfl) (za rfl rfl (z9 rfl rfl) (za rfl rfl (z9 rfl rfl) (za rfl rfl (ze rfl) (za rfl rfl (ze rfl) (zg rfl (zf (zd _ _ rfl rfl rfl (JD.keep [1, 2] [(1, .ov v2), (2, dI (zM [(Lbl.mk (⟨#[98]⟩ : ByteArray) (⟨#[120]⟩ : ByteArray)), (Lbl.mk (⟨#[97]⟩ : ByteArray) (⟨#[121]⟩ : ByteArray))]))] rfl ?_)))))))))
  refine zau 0 (((((decide (zM [(Lbl.mk (⟨#[98]⟩ : ByteArray) (⟨#[120]⟩ : ByteArray)), (Lbl.mk (⟨#[97]⟩ : ByteArray) (⟨#[121]⟩ : ByteArray))] = (0 : Int)) && decide ((((zj [(Lbl.mk (⟨#[98]⟩ : ByteArray) (⟨#[120]⟩ : ByteArray)), (Lbl.mk (⟨#[97]⟩ : ByteArray) (⟨#[121]⟩ : ByteArray))]).length : Nat) : Int) = (2 : Int))) && decide ((zbx (zj [(Lbl.mk (⟨#[98]⟩ : ByteArray) (⟨#[120]⟩ : ByteArray)), (Lbl.mk (⟨#[97]⟩ : ByteArray) (⟨#[121]⟩ : ByteArray))])) = (⟨#[123, 97, 61, 34, 121, 34, 44, 98, 61, 34, 120, 34, 125]⟩ : ByteArray))) && decide ((getL (zj [(Lbl.mk (⟨#[98]⟩ : ByteArray) (⟨#[120]⟩ : ByteArray)), (Lbl.mk (⟨#[97]⟩ : ByteArray) (⟨#[121]⟩ : ByteArray))]) (⟨#[98]⟩ : ByteArray)) = (⟨#[120]⟩ : ByteArray))) && (decide (zM (zj [(Lbl.mk (⟨#[98]⟩ : ByteArray) (⟨#[120]⟩ : ByteArray)), (Lbl.mk (⟨#[97]⟩ : ByteArray) (⟨#[121]⟩ : ByteArray))]) = 0) && decide (zZ (zj (zj [(Lbl.mk (⟨#[98]⟩ : ByteArray) (⟨#[120]⟩ : ByteArray)), (Lbl.mk (⟨#[97]⟩ : ByteArray) (⟨#[121]⟩ : ByteArray))])) (zj [(Lbl.mk (⟨#[98]⟩ : ByteArray) (⟨#[120]⟩ : ByteArray)), (Lbl.mk (⟨#[97]⟩ : ByteArray) (⟨#[121]⟩ : ByteArray))]) = 0)))) [.sl v2 2 106 ((zj [(Lbl.mk (⟨#[98]⟩ : ByteArray) (⟨#[120]⟩ : ByteArray)), (Lbl.mk (⟨#[97]⟩ : ByteArray) (⟨#[121]⟩ : ByteArray))]).map Lbl.d), .sl (vS g1 2 2) 2 106 ([(Lbl.mk (⟨#[98]⟩ : ByteArray) (⟨#[120]⟩ : ByteArray)), (Lbl.mk (⟨#[97]⟩ : ByteArray) (⟨#[121]⟩ : ByteArray))].map Lbl.d)] (fun _ hQ3 => ?_) ?_
  · skip
    by_cases hg4 : zM [(Lbl.mk (⟨#[98]⟩ : ByteArray) (⟨#[120]⟩ : ByteArray)), (Lbl.mk (⟨#[97]⟩ : ByteArray) (⟨#[121]⟩ : ByteArray))] = (0 : Int)
    · skip
      by_cases hg5 : (((zj [(Lbl.mk (⟨#[98]⟩ : ByteArray) (⟨#[120]⟩ : ByteArray)), (Lbl.mk (⟨#[97]⟩ : ByteArray) (⟨#[121]⟩ : ByteArray))]).length : Nat) : Int) = (2 : Int)
      · skip
        by_cases hg6 : (zbx (zj [(Lbl.mk (⟨#[98]⟩ : ByteArray) (⟨#[120]⟩ : ByteArray)), (Lbl.mk (⟨#[97]⟩ : ByteArray) (⟨#[121]⟩ : ByteArray))])) = (⟨#[123, 97, 61, 34, 121, 34, 44, 98, 61, 34, 120, 34, 125]⟩ : ByteArray)
        · skip
          by_cases hg7 : (getL (zj [(Lbl.mk (⟨#[98]⟩ : ByteArray) (⟨#[120]⟩ : ByteArray)), (Lbl.mk (⟨#[97]⟩ : ByteArray) (⟨#[121]⟩ : ByteArray))]) (⟨#[98]⟩ : ByteArray)) = (⟨#[120]⟩ : ByteArray)
          · skip
            refine zc rfl (za rfl rfl (zb rfl) (za rfl rfl (z5 rfl rfl (decide_eq_true hg4)) (za rfl rfl (zb rfl) (zh rfl rfl rfl rfl rfl (zb rfl) (zh rfl rfl rfl rfl rfl (z8 (n := (zj [(Lbl.mk (⟨#[98]⟩ : ByteArray) (⟨#[120]⟩ : ByteArray)), (Lbl.mk (⟨#[97]⟩ : ByteArray) (⟨#[121]⟩ : ByteArray))]).length) (j := 0) rfl rfl Tryz.runUnderlying52 (List.length_map _)) (zh rfl rfl rfl rfl rfl (z5 rfl rfl (decide_eq_true hg5)) (za rfl rfl (zm rfl rfl) (za rfl rfl (zb rfl) (zh rfl rfl rfl rfl rfl (zb rfl) (z2 rfl rfl rfl rfl rfl (zq [] _ [.sl v2 2 106 ((zj [(Lbl.mk (⟨#[98]⟩ : ByteArray) (⟨#[120]⟩ : ByteArray)), (Lbl.mk (⟨#[97]⟩ : ByteArray) (⟨#[121]⟩ : ByteArray))]).map Lbl.d)] rfl rfl (.cons (ArgC.own (j := 0) rfl rfl) .nil) (zag (j := 0) rfl zk) Tryz.call34 (Text_c (zj [(Lbl.mk (⟨#[98]⟩ : ByteArray) (⟨#[120]⟩ : ByteArray)), (Lbl.mk (⟨#[97]⟩ : ByteArray) (⟨#[121]⟩ : ByteArray))]) (by omega) al_size) (.inr (zaC rfl))) ?_))))))))))
            rintro _ _ ⟨_, ⟨rfl, rfl⟩, rfl⟩
            refine OpsD.norm [.sl v2 2 106 ((zj [(Lbl.mk (⟨#[98]⟩ : ByteArray) (⟨#[120]⟩ : ByteArray)), (Lbl.mk (⟨#[97]⟩ : ByteArray) (⟨#[121]⟩ : ByteArray))]).map Lbl.d), .sl (vS g1 2 2) 2 106 ([(Lbl.mk (⟨#[98]⟩ : ByteArray) (⟨#[120]⟩ : ByteArray)), (Lbl.mk (⟨#[97]⟩ : ByteArray) (⟨#[121]⟩ : ByteArray))].map Lbl.d)] rfl (zh rfl rfl rfl rfl rfl (zbd rfl rfl (decide_eq_true hg6)) (za rfl rfl (zm rfl rfl) (za rfl rfl (zb rfl) (zh rfl rfl rfl rfl rfl (zb rfl) (z2 rfl rfl rfl rfl rfl (zq [] _ [.sl v2 2 106 ((zj [(Lbl.mk (⟨#[98]⟩ : ByteArray) (⟨#[120]⟩ : ByteArray)), (Lbl.mk (⟨#[97]⟩ : ByteArray) (⟨#[121]⟩ : ByteArray))]).map Lbl.d)] rfl rfl (.cons (ArgC.own (j := 0) rfl rfl) (.cons (ArgC.cv (Cv.str (by first | decide | (unfold maxLen; omega)))) .nil)) (zag (j := 0) rfl zk) Tryz.call27 (getL_c (zj [(Lbl.mk (⟨#[98]⟩ : ByteArray) (⟨#[120]⟩ : ByteArray)), (Lbl.mk (⟨#[97]⟩ : ByteArray) (⟨#[121]⟩ : ByteArray))]) (⟨#[98]⟩ : ByteArray)) (.inr (zaC rfl))) ?_)))))
            rintro _ _ ⟨_, ⟨rfl, rfl⟩, rfl⟩
            refine OpsD.norm [.sl v2 2 106 ((zj [(Lbl.mk (⟨#[98]⟩ : ByteArray) (⟨#[120]⟩ : ByteArray)), (Lbl.mk (⟨#[97]⟩ : ByteArray) (⟨#[121]⟩ : ByteArray))]).map Lbl.d), .sl (vS g1 2 2) 2 106 ([(Lbl.mk (⟨#[98]⟩ : ByteArray) (⟨#[120]⟩ : ByteArray)), (Lbl.mk (⟨#[97]⟩ : ByteArray) (⟨#[121]⟩ : ByteArray))].map Lbl.d)] rfl (zh rfl rfl rfl rfl rfl (zbd rfl rfl (decide_eq_true hg7)) (za rfl rfl (zm rfl rfl) (za rfl rfl (zb rfl) (zh rfl rfl rfl rfl rfl (zb rfl) (z2 rfl rfl rfl rfl rfl (zq [] _ [.sl v2 2 106 ((zj [(Lbl.mk (⟨#[98]⟩ : ByteArray) (⟨#[120]⟩ : ByteArray)), (Lbl.mk (⟨#[97]⟩ : ByteArray) (⟨#[121]⟩ : ByteArray))]).map Lbl.d)] rfl rfl (.cons (ArgC.own (j := 0) rfl rfl) .nil) (zag (j := 0) rfl zk) Tryz.call32 (right_c (zj [(Lbl.mk (⟨#[98]⟩ : ByteArray) (⟨#[120]⟩ : ByteArray)), (Lbl.mk (⟨#[97]⟩ : ByteArray) (⟨#[121]⟩ : ByteArray))])) (.inr (zaC rfl))) ?_)))))
            rintro _ _ ⟨_, ⟨rfl, rfl⟩, rfl⟩
            refine OpsD.norm [.sl v2 2 106 ((zj [(Lbl.mk (⟨#[98]⟩ : ByteArray) (⟨#[120]⟩ : ByteArray)), (Lbl.mk (⟨#[97]⟩ : ByteArray) (⟨#[121]⟩ : ByteArray))]).map Lbl.d), .sl (vS g1 2 2) 2 106 ([(Lbl.mk (⟨#[98]⟩ : ByteArray) (⟨#[120]⟩ : ByteArray)), (Lbl.mk (⟨#[97]⟩ : ByteArray) (⟨#[121]⟩ : ByteArray))].map Lbl.d)] rfl (za rfl rfl (zm rfl rfl) (za rfl rfl (ze rfl) (zg rfl ?_)))
            exact PD.sub ((0, dB ((((decide (zM [(Lbl.mk (⟨#[98]⟩ : ByteArray) (⟨#[120]⟩ : ByteArray)), (Lbl.mk (⟨#[97]⟩ : ByteArray) (⟨#[121]⟩ : ByteArray))] = (0 : Int)) && decide ((((zj [(Lbl.mk (⟨#[98]⟩ : ByteArray) (⟨#[120]⟩ : ByteArray)), (Lbl.mk (⟨#[97]⟩ : ByteArray) (⟨#[121]⟩ : ByteArray))]).length : Nat) : Int) = (2 : Int))) && decide ((zbx (zj [(Lbl.mk (⟨#[98]⟩ : ByteArray) (⟨#[120]⟩ : ByteArray)), (Lbl.mk (⟨#[97]⟩ : ByteArray) (⟨#[121]⟩ : ByteArray))])) = (⟨#[123, 97, 61, 34, 121, 34, 44, 98, 61, 34, 120, 34, 125]⟩ : ByteArray))) && decide ((getL (zj [(Lbl.mk (⟨#[98]⟩ : ByteArray) (⟨#[120]⟩ : ByteArray)), (Lbl.mk (⟨#[97]⟩ : ByteArray) (⟨#[121]⟩ : ByteArray))]) (⟨#[98]⟩ : ByteArray)) = (⟨#[120]⟩ : ByteArray))) && (decide (zM (zj [(Lbl.mk (⟨#[98]⟩ : ByteArray) (⟨#[120]⟩ : ByteArray)), (Lbl.mk (⟨#[97]⟩ : ByteArray) (⟨#[121]⟩ : ByteArray))]) = 0) && decide (zZ (zj (zj [(Lbl.mk (⟨#[98]⟩ : ByteArray) (⟨#[120]⟩ : ByteArray)), (Lbl.mk (⟨#[97]⟩ : ByteArray) (⟨#[121]⟩ : ByteArray))])) (zj [(Lbl.mk (⟨#[98]⟩ : ByteArray) (⟨#[120]⟩ : ByteArray)), (Lbl.mk (⟨#[97]⟩ : ByteArray) (⟨#[121]⟩ : ByteArray))]) = 0)))) :: [(1, .ov v2), (2, dI (zM [(Lbl.mk (⟨#[98]⟩ : ByteArray) (⟨#[120]⟩ : ByteArray)), (Lbl.mk (⟨#[97]⟩ : ByteArray) (⟨#[121]⟩ : ByteArray))]))]) ⟨sc rfl (Cv.eq (congrArg (fun b => D.v (.bool b)) (by first | (simp [hg4, hg5, hg6, hg7]; done) | (simp_all; done)))), sk rfl, sk rfl, trivial⟩ hQ3
          · skip
            refine zc rfl (za rfl rfl (zb rfl) (za rfl rfl (z5 rfl rfl (decide_eq_true hg4)) (za rfl rfl (zb rfl) (zh rfl rfl rfl rfl rfl (zb rfl) (zh rfl rfl rfl rfl rfl (z8 (n := (zj [(Lbl.mk (⟨#[98]⟩ : ByteArray) (⟨#[120]⟩ : ByteArray)), (Lbl.mk (⟨#[97]⟩ : ByteArray) (⟨#[121]⟩ : ByteArray))]).length) (j := 0) rfl rfl Tryz.runUnderlying52 (List.length_map _)) (zh rfl rfl rfl rfl rfl (z5 rfl rfl (decide_eq_true hg5)) (za rfl rfl (zm rfl rfl) (za rfl rfl (zb rfl) (zh rfl rfl rfl rfl rfl (zb rfl) (z2 rfl rfl rfl rfl rfl (zq [] _ [.sl v2 2 106 ((zj [(Lbl.mk (⟨#[98]⟩ : ByteArray) (⟨#[120]⟩ : ByteArray)), (Lbl.mk (⟨#[97]⟩ : ByteArray) (⟨#[121]⟩ : ByteArray))]).map Lbl.d)] rfl rfl (.cons (ArgC.own (j := 0) rfl rfl) .nil) (zag (j := 0) rfl zk) Tryz.call34 (Text_c (zj [(Lbl.mk (⟨#[98]⟩ : ByteArray) (⟨#[120]⟩ : ByteArray)), (Lbl.mk (⟨#[97]⟩ : ByteArray) (⟨#[121]⟩ : ByteArray))]) (by omega) al_size) (.inr (zaC rfl))) ?_))))))))))
            rintro _ _ ⟨_, ⟨rfl, rfl⟩, rfl⟩
            refine OpsD.norm [.sl v2 2 106 ((zj [(Lbl.mk (⟨#[98]⟩ : ByteArray) (⟨#[120]⟩ : ByteArray)), (Lbl.mk (⟨#[97]⟩ : ByteArray) (⟨#[121]⟩ : ByteArray))]).map Lbl.d), .sl (vS g1 2 2) 2 106 ([(Lbl.mk (⟨#[98]⟩ : ByteArray) (⟨#[120]⟩ : ByteArray)), (Lbl.mk (⟨#[97]⟩ : ByteArray) (⟨#[121]⟩ : ByteArray))].map Lbl.d)] rfl (zh rfl rfl rfl rfl rfl (zbd rfl rfl (decide_eq_true hg6)) (za rfl rfl (zm rfl rfl) (za rfl rfl (zb rfl) (zh rfl rfl rfl rfl rfl (zb rfl) (z2 rfl rfl rfl rfl rfl (zq [] _ [.sl v2 2 106 ((zj [(Lbl.mk (⟨#[98]⟩ : ByteArray) (⟨#[120]⟩ : ByteArray)), (Lbl.mk (⟨#[97]⟩ : ByteArray) (⟨#[121]⟩ : ByteArray))]).map Lbl.d)] rfl rfl (.cons (ArgC.own (j := 0) rfl rfl) (.cons (ArgC.cv (Cv.str (by first | decide | (unfold maxLen; omega)))) .nil)) (zag (j := 0) rfl zk) Tryz.call27 (getL_c (zj [(Lbl.mk (⟨#[98]⟩ : ByteArray) (⟨#[120]⟩ : ByteArray)), (Lbl.mk (⟨#[97]⟩ : ByteArray) (⟨#[121]⟩ : ByteArray))]) (⟨#[98]⟩ : ByteArray)) (.inr (zaC rfl))) ?_)))))
            rintro _ _ ⟨_, ⟨rfl, rfl⟩, rfl⟩
            refine OpsD.norm [.sl v2 2 106 ((zj [(Lbl.mk (⟨#[98]⟩ : ByteArray) (⟨#[120]⟩ : ByteArray)), (Lbl.mk (⟨#[97]⟩ : ByteArray) (⟨#[121]⟩ : ByteArray))]).map Lbl.d), .sl (vS g1 2 2) 2 106 ([(Lbl.mk (⟨#[98]⟩ : ByteArray) (⟨#[120]⟩ : ByteArray)), (Lbl.mk (⟨#[97]⟩ : ByteArray) (⟨#[121]⟩ : ByteArray))].map Lbl.d)] rfl (zh rfl rfl rfl rfl rfl (zbd rfl rfl (decide_eq_false hg7)) (za rfl rfl (zm rfl rfl) (za rfl rfl (zb rfl) (zi rfl rfl rfl rfl rfl (by decide) (zi rfl rfl rfl rfl rfl (by decide) (za rfl rfl (zp rfl rfl) (za rfl rfl (ze rfl) (zg rfl ?_))))))))
            exact PD.sub ((0, dB ((((decide (zM [(Lbl.mk (⟨#[98]⟩ : ByteArray) (⟨#[120]⟩ : ByteArray)), (Lbl.mk (⟨#[97]⟩ : ByteArray) (⟨#[121]⟩ : ByteArray))] = (0 : Int)) && decide ((((zj [(Lbl.mk (⟨#[98]⟩ : ByteArray) (⟨#[120]⟩ : ByteArray)), (Lbl.mk (⟨#[97]⟩ : ByteArray) (⟨#[121]⟩ : ByteArray))]).length : Nat) : Int) = (2 : Int))) && decide ((zbx (zj [(Lbl.mk (⟨#[98]⟩ : ByteArray) (⟨#[120]⟩ : ByteArray)), (Lbl.mk (⟨#[97]⟩ : ByteArray) (⟨#[121]⟩ : ByteArray))])) = (⟨#[123, 97, 61, 34, 121, 34, 44, 98, 61, 34, 120, 34, 125]⟩ : ByteArray))) && decide ((getL (zj [(Lbl.mk (⟨#[98]⟩ : ByteArray) (⟨#[120]⟩ : ByteArray)), (Lbl.mk (⟨#[97]⟩ : ByteArray) (⟨#[121]⟩ : ByteArray))]) (⟨#[98]⟩ : ByteArray)) = (⟨#[120]⟩ : ByteArray))) && (decide (zM (zj [(Lbl.mk (⟨#[98]⟩ : ByteArray) (⟨#[120]⟩ : ByteArray)), (Lbl.mk (⟨#[97]⟩ : ByteArray) (⟨#[121]⟩ : ByteArray))]) = 0) && decide (zZ (zj (zj [(Lbl.mk (⟨#[98]⟩ : ByteArray) (⟨#[120]⟩ : ByteArray)), (Lbl.mk (⟨#[97]⟩ : ByteArray) (⟨#[121]⟩ : ByteArray))])) (zj [(Lbl.mk (⟨#[98]⟩ : ByteArray) (⟨#[120]⟩ : ByteArray)), (Lbl.mk (⟨#[97]⟩ : ByteArray) (⟨#[121]⟩ : ByteArray))]) = 0)))) :: [(1, .ov v2), (2, dI (zM [(Lbl.mk (⟨#[98]⟩ : ByteArray) (⟨#[120]⟩ : ByteArray)), (Lbl.mk (⟨#[97]⟩ : ByteArray) (⟨#[121]⟩ : ByteArray))]))]) ⟨sc rfl (Cv.eq (congrArg (fun b => D.v (.bool b)) (by first | (simp [hg4, hg5, hg6, hg7]; done) | (simp_all; done)))), sk rfl, sk rfl, trivial⟩ hQ3
        · skip
          refine zc rfl (za rfl rfl (zb rfl) (za rfl rfl (z5 rfl rfl (decide_eq_true hg4)) (za rfl rfl (zb rfl) (zh rfl rfl rfl rfl rfl (zb rfl) (zh rfl rfl rfl rfl rfl (z8 (n := (zj [(Lbl.mk (⟨#[98]⟩ : ByteArray) (⟨#[120]⟩ : ByteArray)), (Lbl.mk (⟨#[97]⟩ : ByteArray) (⟨#[121]⟩ : ByteArray))]).length) (j := 0) rfl rfl Tryz.runUnderlying52 (List.length_map _)) (zh rfl rfl rfl rfl rfl (z5 rfl rfl (decide_eq_true hg5)) (za rfl rfl (zm rfl rfl) (za rfl rfl (zb rfl) (zh rfl rfl rfl rfl rfl (zb rfl) (z2 rfl rfl rfl rfl rfl (zq [] _ [.sl v2 2 106 ((zj [(Lbl.mk (⟨#[98]⟩ : ByteArray) (⟨#[120]⟩ : ByteArray)), (Lbl.mk (⟨#[97]⟩ : ByteArray) (⟨#[121]⟩ : ByteArray))]).map Lbl.d)] rfl rfl (.cons (ArgC.own (j := 0) rfl rfl) .nil) (zag (j := 0) rfl zk) Tryz.call34 (Text_c (zj [(Lbl.mk (⟨#[98]⟩ : ByteArray) (⟨#[120]⟩ : ByteArray)), (Lbl.mk (⟨#[97]⟩ : ByteArray) (⟨#[121]⟩ : ByteArray))]) (by omega) al_size) (.inr (zaC rfl))) ?_))))))))))
          rintro _ _ ⟨_, ⟨rfl, rfl⟩, rfl⟩
          refine OpsD.norm [.sl v2 2 106 ((zj [(Lbl.mk (⟨#[98]⟩ : ByteArray) (⟨#[120]⟩ : ByteArray)), (Lbl.mk (⟨#[97]⟩ : ByteArray) (⟨#[121]⟩ : ByteArray))]).map Lbl.d), .sl (vS g1 2 2) 2 106 ([(Lbl.mk (⟨#[98]⟩ : ByteArray) (⟨#[120]⟩ : ByteArray)), (Lbl.mk (⟨#[97]⟩ : ByteArray) (⟨#[121]⟩ : ByteArray))].map Lbl.d)] rfl (zh rfl rfl rfl rfl rfl (zbd rfl rfl (decide_eq_false hg6)) (za rfl rfl (zm rfl rfl) (za rfl rfl (zb rfl) (zi rfl rfl rfl rfl rfl (by decide) (zi rfl rfl rfl rfl rfl (by decide) (zi rfl rfl rfl rfl rfl (by decide) (za rfl rfl (zp rfl rfl) (za rfl rfl (zb rfl) (zi rfl rfl rfl rfl rfl (by decide) (zi rfl rfl rfl rfl rfl (by decide) (za rfl rfl (zp rfl rfl) (za rfl rfl (ze rfl) (zg rfl ?_)))))))))))))
          exact PD.sub ((0, dB ((((decide (zM [(Lbl.mk (⟨#[98]⟩ : ByteArray) (⟨#[120]⟩ : ByteArray)), (Lbl.mk (⟨#[97]⟩ : ByteArray) (⟨#[121]⟩ : ByteArray))] = (0 : Int)) && decide ((((zj [(Lbl.mk (⟨#[98]⟩ : ByteArray) (⟨#[120]⟩ : ByteArray)), (Lbl.mk (⟨#[97]⟩ : ByteArray) (⟨#[121]⟩ : ByteArray))]).length : Nat) : Int) = (2 : Int))) && decide ((zbx (zj [(Lbl.mk (⟨#[98]⟩ : ByteArray) (⟨#[120]⟩ : ByteArray)), (Lbl.mk (⟨#[97]⟩ : ByteArray) (⟨#[121]⟩ : ByteArray))])) = (⟨#[123, 97, 61, 34, 121, 34, 44, 98, 61, 34, 120, 34, 125]⟩ : ByteArray))) && decide ((getL (zj [(Lbl.mk (⟨#[98]⟩ : ByteArray) (⟨#[120]⟩ : ByteArray)), (Lbl.mk (⟨#[97]⟩ : ByteArray) (⟨#[121]⟩ : ByteArray))]) (⟨#[98]⟩ : ByteArray)) = (⟨#[120]⟩ : ByteArray))) && (decide (zM (zj [(Lbl.mk (⟨#[98]⟩ : ByteArray) (⟨#[120]⟩ : ByteArray)), (Lbl.mk (⟨#[97]⟩ : ByteArray) (⟨#[121]⟩ : ByteArray))]) = 0) && decide (zZ (zj (zj [(Lbl.mk (⟨#[98]⟩ : ByteArray) (⟨#[120]⟩ : ByteArray)), (Lbl.mk (⟨#[97]⟩ : ByteArray) (⟨#[121]⟩ : ByteArray))])) (zj [(Lbl.mk (⟨#[98]⟩ : ByteArray) (⟨#[120]⟩ : ByteArray)), (Lbl.mk (⟨#[97]⟩ : ByteArray) (⟨#[121]⟩ : ByteArray))]) = 0)))) :: [(1, .ov v2), (2, dI (zM [(Lbl.mk (⟨#[98]⟩ : ByteArray) (⟨#[120]⟩ : ByteArray)), (Lbl.mk (⟨#[97]⟩ : ByteArray) (⟨#[121]⟩ : ByteArray))]))]) ⟨sc rfl (Cv.eq (congrArg (fun b => D.v (.bool b)) (by first | (simp [hg4, hg5, hg6]; done) | (simp_all; done)))), sk rfl, sk rfl, trivial⟩ hQ3
      · skip
        refine zc rfl (za rfl rfl (zb rfl) (za rfl rfl (z5 rfl rfl (decide_eq_true hg4)) (za rfl rfl (zb rfl) (zh rfl rfl rfl rfl rfl (zb rfl) (zh rfl rfl rfl rfl rfl (z8 (n := (zj [(Lbl.mk (⟨#[98]⟩ : ByteArray) (⟨#[120]⟩ : ByteArray)), (Lbl.mk (⟨#[97]⟩ : ByteArray) (⟨#[121]⟩ : ByteArray))]).length) (j := 0) rfl rfl Tryz.runUnderlying52 (List.length_map _)) (zh rfl rfl rfl rfl rfl (z5 rfl rfl (decide_eq_false hg5)) (za rfl rfl (zm rfl rfl) (za rfl rfl (zb rfl) (zi rfl rfl rfl rfl rfl (by decide) (zi rfl rfl rfl rfl rfl (by decide) (zi rfl rfl rfl rfl rfl (by decide) (za rfl rfl (zp rfl rfl) (za rfl rfl (zb rfl) (zi rfl rfl rfl rfl rfl (by decide) (zi rfl rfl rfl rfl rfl (by decide) (zi rfl rfl rfl rfl rfl (by decide) (za rfl rfl (zp rfl rfl) (za rfl rfl (zb rfl) (zi rfl rfl rfl rfl rfl (by decide) (zi rfl rfl rfl rfl rfl (by decide) (za rfl rfl (zp rfl rfl) (za rfl rfl (ze rfl) (zg rfl ?_)))))))))))))))))))))))
        exact PD.sub ((0, dB ((((decide (zM [(Lbl.mk (⟨#[98]⟩ : ByteArray) (⟨#[120]⟩ : ByteArray)), (Lbl.mk (⟨#[97]⟩ : ByteArray) (⟨#[121]⟩ : ByteArray))] = (0 : Int)) && decide ((((zj [(Lbl.mk (⟨#[98]⟩ : ByteArray) (⟨#[120]⟩ : ByteArray)), (Lbl.mk (⟨#[97]⟩ : ByteArray) (⟨#[121]⟩ : ByteArray))]).length : Nat) : Int) = (2 : Int))) && decide ((zbx (zj [(Lbl.mk (⟨#[98]⟩ : ByteArray) (⟨#[120]⟩ : ByteArray)), (Lbl.mk (⟨#[97]⟩ : ByteArray) (⟨#[121]⟩ : ByteArray))])) = (⟨#[123, 97, 61, 34, 121, 34, 44, 98, 61, 34, 120, 34, 125]⟩ : ByteArray))) && decide ((getL (zj [(Lbl.mk (⟨#[98]⟩ : ByteArray) (⟨#[120]⟩ : ByteArray)), (Lbl.mk (⟨#[97]⟩ : ByteArray) (⟨#[121]⟩ : ByteArray))]) (⟨#[98]⟩ : ByteArray)) = (⟨#[120]⟩ : ByteArray))) && (decide (zM (zj [(Lbl.mk (⟨#[98]⟩ : ByteArray) (⟨#[120]⟩ : ByteArray)), (Lbl.mk (⟨#[97]⟩ : ByteArray) (⟨#[121]⟩ : ByteArray))]) = 0) && decide (zZ (zj (zj [(Lbl.mk (⟨#[98]⟩ : ByteArray) (⟨#[120]⟩ : ByteArray)), (Lbl.mk (⟨#[97]⟩ : ByteArray) (⟨#[121]⟩ : ByteArray))])) (zj [(Lbl.mk (⟨#[98]⟩ : ByteArray) (⟨#[120]⟩ : ByteArray)), (Lbl.mk (⟨#[97]⟩ : ByteArray) (⟨#[121]⟩ : ByteArray))]) = 0)))) :: [(1, .ov v2), (2, dI (zM [(Lbl.mk (⟨#[98]⟩ : ByteArray) (⟨#[120]⟩ : ByteArray)), (Lbl.mk (⟨#[97]⟩ : ByteArray) (⟨#[121]⟩ : ByteArray))]))]) ⟨sc rfl (Cv.eq (congrArg (fun b => D.v (.bool b)) (by first | (simp [hg4, hg5]; done) | (simp_all; done)))), sk rfl, sk rfl, trivial⟩ hQ3
    · skip
      refine zc rfl (za rfl rfl (zb rfl) (za rfl rfl (z5 rfl rfl (decide_eq_false hg4)) (za rfl rfl (zb rfl) (zi rfl rfl rfl rfl rfl (by decide) (zi rfl rfl rfl rfl rfl (by decide) (zi rfl rfl rfl rfl rfl (by decide) (za rfl rfl (zp rfl rfl) (za rfl rfl (zb rfl) (zi rfl rfl rfl rfl rfl (by decide) (zi rfl rfl rfl rfl rfl (by decide) (zi rfl rfl rfl rfl rfl (by decide) (za rfl rfl (zp rfl rfl) (za rfl rfl (zb rfl) (zi rfl rfl rfl rfl rfl (by decide) (zi rfl rfl rfl rfl rfl (by decide) (zi rfl rfl rfl rfl rfl (by decide) (za rfl rfl (zp rfl rfl) (za rfl rfl (zb rfl) (zi rfl rfl rfl rfl rfl (by decide) (zi rfl rfl rfl rfl rfl (by decide) (za rfl rfl (zp rfl rfl) (za rfl rfl (ze rfl) (zg rfl ?_)))))))))))))))))))))))
      exact PD.sub ((0, dB ((((decide (zM [(Lbl.mk (⟨#[98]⟩ : ByteArray) (⟨#[120]⟩ : ByteArray)), (Lbl.mk (⟨#[97]⟩ : ByteArray) (⟨#[121]⟩ : ByteArray))] = (0 : Int)) && decide ((((zj [(Lbl.mk (⟨#[98]⟩ : ByteArray) (⟨#[120]⟩ : ByteArray)), (Lbl.mk (⟨#[97]⟩ : ByteArray) (⟨#[121]⟩ : ByteArray))]).length : Nat) : Int) = (2 : Int))) && decide ((zbx (zj [(Lbl.mk (⟨#[98]⟩ : ByteArray) (⟨#[120]⟩ : ByteArray)), (Lbl.mk (⟨#[97]⟩ : ByteArray) (⟨#[121]⟩ : ByteArray))])) = (⟨#[123, 97, 61, 34, 121, 34, 44, 98, 61, 34, 120, 34, 125]⟩ : ByteArray))) && decide ((getL (zj [(Lbl.mk (⟨#[98]⟩ : ByteArray) (⟨#[120]⟩ : ByteArray)), (Lbl.mk (⟨#[97]⟩ : ByteArray) (⟨#[121]⟩ : ByteArray))]) (⟨#[98]⟩ : ByteArray)) = (⟨#[120]⟩ : ByteArray))) && (decide (zM (zj [(Lbl.mk (⟨#[98]⟩ : ByteArray) (⟨#[120]⟩ : ByteArray)), (Lbl.mk (⟨#[97]⟩ : ByteArray) (⟨#[121]⟩ : ByteArray))]) = 0) && decide (zZ (zj (zj [(Lbl.mk (⟨#[98]⟩ : ByteArray) (⟨#[120]⟩ : ByteArray)), (Lbl.mk (⟨#[97]⟩ : ByteArray) (⟨#[121]⟩ : ByteArray))])) (zj [(Lbl.mk (⟨#[98]⟩ : ByteArray) (⟨#[120]⟩ : ByteArray)), (Lbl.mk (⟨#[97]⟩ : ByteArray) (⟨#[121]⟩ : ByteArray))]) = 0)))) :: [(1, .ov v2), (2, dI (zM [(Lbl.mk (⟨#[98]⟩ : ByteArray) (⟨#[120]⟩ : ByteArray)), (Lbl.mk (⟨#[97]⟩ : ByteArray) (⟨#[121]⟩ : ByteArray))]))]) ⟨sc rfl (Cv.eq (congrArg (fun b => D.v (.bool b)) (by first | (simp [hg4]; done) | (simp_all; done)))), sk rfl, sk rfl, trivial⟩ hQ3
  · skip
    refine zf (zE rfl ?_)
    exact zA Tryz.results17 (.cons (zX (zC rfl) (Cv.eq (congrArg (fun b => D.v (.bool b)) (by exact al_all)))) .nil) rfl HSub.none ⟨rfl, rfl⟩
end Lp
