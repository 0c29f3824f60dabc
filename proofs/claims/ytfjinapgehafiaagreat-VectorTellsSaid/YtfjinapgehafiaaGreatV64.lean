/- Walks, printed by a program of mine. -/
import Derived.ProofKit
import Derived.OpenShut
import Derived.Stop.Joined
import Derived.Test.YtfjinapgehafiaaGreatV8
set_option linter.unusedSimpArgs false
set_option linter.unusedVariables false
set_option maxHeartbeats 4000000
set_option maxRecDepth 100000
namespace Lp
open Go Go.RowKit Go.Proofs

namespace HdYtfjinapgehafiaaGreatV9
theorem zax (b o : Nat) : ∀ w, (Instr.fieldAt 62 (.pointer (some ⟨b, o, none⟩)) 0).run Tryz.prog w = .ok (.pointer (some ⟨b, o + 0, none⟩)) w := fun _ => by kernel_rfl
theorem za3 (b o : Nat) : ∀ w, (Instr.fieldAt 62 (.pointer (some ⟨b, o, none⟩)) 1).run Tryz.prog w = .ok (.pointer (some ⟨b, o + 1, none⟩)) w := fun _ => by kernel_rfl
theorem infz_9 : ∃ i, Tryz.prog.info? 9 = some i ∧ i.zero = some (.string ByteArray.empty) ∧ i.size = 1 ∧ i.bytes = 16 := zaS (by kernel_rfl)
theorem und_23 : Tryz.prog.underlying 23 = some (.slice 9) := by kernel_rfl
end HdYtfjinapgehafiaaGreatV9
open HdYtfjinapgehafiaaGreatV9

theorem Text_c (l : List Lbl) (hl : l.length ≤ 1000) (hz : ∀ x ∈ l, x.n.size ≤ 100000 ∧ x.v.size ≤ 100000) :
    CD Tryz.prog 48 [] [.sh 2 (l.map Lbl.d)] (isR (D.s (zcv l))) := by
  refine zy Tryz.func48 rfl (N := 27) rfl rfl (fun C => ?_)
  refine jk [0] rfl ?_
  refine JD.bd 0 rfl (fun bd0 => ?_)
  have nl0 := zZ bd0
  refine jT rfl (oR 1 rfl (oZ rfl (jT rfl (oR 1 rfl (oZ rfl (jS rfl (jT rfl (oR 1 rfl (oP rfl (zae (n := l.length) rfl Tryz.runUnderlying50 (by simp only [lm, lc, ln])) (oR 1 rfl (oZ rfl (jB rfl (jl3 (fun (a_ : Nat) (b_ : Value) (c_ : List ByteArray) => [(2, .v (.string ByteArray.empty)), (6, .sh 2 (l.map Lbl.d)), (7, dN l.length), (8, dN a_), (3, .ov b_)]) (fun a_ b_ c_ => [.sl b_ 1 9 (c_.map D.s)]) (fun a_ b_ c_ => (c_ = (l.take a_).map zdl) ∧ (c_.length ≤ a_) ∧ (a_ ≤ l.length)) (fun a_ b_ c_ => l.length - a_) 0 (.slice none 0 0) [] rfl ⟨sk rfl, sk rfl, sk rfl, sk rfl, sc rfl (Cv.ov rfl), trivial⟩ (HSub.nil 1 9) ⟨rfl, Nat.le_refl _, Nat.zero_le _⟩ ?_)))))))))))))
  rintro k ov o ⟨ho, hol, hkl⟩
  refine ja rfl (jn rfl ?_)
  have hsk := sumSz_parts hl hz k; rw [← ho] at hsk
  refine jT rfl (oP rfl (zL rfl rfl rfl) (oZ rfl (jS rfl ?_)))
  refine jD rfl (fun hc1 => ?_) (fun hc1 => ?_)
  · skip
    refine zq rfl (zc (jS rfl (jB rfl (jT rfl ?_))))
    obtain ⟨x1, hx1⟩ := zG l k (by omega)
    have hzk := hz x1 (List.mem_of_getElem? hx1)
    have hqk := quoteB_size x1.v
    refine oP rfl (zC (k := k) rfl rfl Tryz.runUnderlying50 Tryz.sizeOf62 (by first | rfl | omega) (zt hx1)) (oP rfl (zar (d := Lbl.d x1) rfl Tryz.isAgg62 Tryz.sizeOf62 rfl rfl) (oE rfl (zaL (zv := (.agg #[(.string ByteArray.empty), (.string ByteArray.empty)])) Tryz.zeroValue62 ⟨rfl, rfl, trivial⟩ (Cv.vagg (by decide))) ?_))
    rintro _ _ ⟨g2, rfl, rfl⟩
    refine oE rfl (z4 (i := 0) (X' := Lbl.d x1) rfl rfl rfl (CellD.agg) Tryz.sizeOf62 rfl rfl rfl) ?_
    rintro _ _ ⟨rfl, rfl⟩
    refine on rfl (oZ rfl (jk [2, 3, 5, 6, 7, 8, 9, 10, 11] rfl (jn rfl ?_)))
    refine z3 9 [(12, .ov ov, none), (13, dP g2 0, none), (14, .s x1.n, none), (15, .s (x1.n ++ (⟨#[61]⟩ : ByteArray)), none), (16, dP g2 1, none), (17, .s x1.v, none), (18, .s (zdi x1.v), none), (19, .s ((x1.n ++ (⟨#[61]⟩ : ByteArray)) ++ (zdi x1.v)), none), (20, .sh 1 ([((x1.n ++ (⟨#[61]⟩ : ByteArray)) ++ (zdi x1.v))].map D.s), none)] [.bx g2 62 (Lbl.d x1), .sl ov 1 9 (o.map D.s)] (Hn := [.bx g2 62 (Lbl.d x1), .sl ov 1 9 (o.map D.s)]) zah rfl rfl rfl rfl HSub.rfl' rfl ⟨sa_p rfl rfl rfl (zm rfl), sa_p rfl rfl rfl (zl rfl zax rfl), sa_p rfl rfl rfl (zz rfl (i := 0) rfl Tryz.isAgg9 rfl), sa_p rfl rfl rfl (p_cat rfl rfl (by unfold maxLen; (try simp only [ByteArray.size_append]); (try simp only [ByteArray.size_append]); have e1 : (⟨#[61]⟩ : ByteArray).size = 1 := rfl; have e2 : (⟨#[123]⟩ : ByteArray).size = 1 := rfl; have e3 : (⟨#[125]⟩ : ByteArray).size = 1 := rfl; (try have := joinB_size (sep := ⟨#[44]⟩) rfl o); omega)), sa_p rfl rfl rfl (zl rfl za3 rfl), sa_p rfl rfl rfl (zz rfl (i := 0) rfl Tryz.isAgg9 rfl), sa_q rfl rfl rfl (zbw rfl (.cons Cv.rfl' .nil) Tryz.call118 (Quote_c x1.v (by omega)) zbn), sa_p rfl rfl rfl (p_cat rfl rfl (by unfold maxLen; (try simp only [ByteArray.size_append]); (try simp only [ByteArray.size_append]); have e1 : (⟨#[61]⟩ : ByteArray).size = 1 := rfl; have e2 : (⟨#[123]⟩ : ByteArray).size = 1 := rfl; have e3 : (⟨#[125]⟩ : ByteArray).size = 1 := rfl; (try have := joinB_size (sep := ⟨#[44]⟩) rfl o); omega)), sa_q rfl rfl rfl (zaN [.tmp 19] rfl rfl (.cons CellD.s .nil) rfl Tryz.runUnderlying23 Tryz.sizeOf9 Tryz.zeroValue9 rfl rfl rfl rfl), trivial⟩ ?_
    refine ok [2, 3, 5, 6, 7, 8, 9, 10, 11, 12, 13, 14, 15, 16, 17, 18, 19, 20] rfl (oE rfl (zK (f := D.s) (l := o) (l' := [((x1.n ++ (⟨#[61]⟩ : ByteArray)) ++ (zdi x1.v))]) (i := 1) rfl rfl rfl (SrcD.sh) und_23 infz_9 rfl rfl (by unfold maxLen; (try simp only [la, lc, ln, lm, lt', ld, ls, lr]); omega) (by (try simp only [la, lc, ln, lm, lt', ld, ls, lr]); omega)) ?_)
    rintro _ _ ⟨v3, rfl, rfl⟩
    refine on rfl (oR 1 rfl (zg rfl (zw (zc (za rfl (oP rfl (zS (c := ((k + 1 : Nat) : Int)) rfl rfl (zF (by omega) (by omega))) (oR 1 rfl (zg rfl ?_))))))))
    exact pl3 (k + 1) v3 (o ++ [((x1.n ++ (⟨#[61]⟩ : ByteArray)) ++ (zdi x1.v))]) (sa rfl) (HSub.lst 1 rfl) ⟨by rw [z0 hx1, List.map_append, ho]; rfl, by rw [List.length_append, List.length_singleton]; omega, by omega⟩ (by omega)
  · skip
    refine zE rfl (zr (zn (zh (zc (jT rfl (oR 1 rfl (oE rfl (zx [] _ [.sl ov 1 9 (o.map D.s)] rfl rfl (.cons (ArgC.own (j := 0) rfl rfl) (.cons (ArgC.cv (Cv.str (by first | decide | (unfold maxLen; omega)))) .nil)) (zaf (j := 0) rfl zo) Tryz.call119 (Join_c o (⟨#[44]⟩ : ByteArray) (by omega) (by omega) (by first | decide | omega) (by first | decide | omega)) (.inr (za5 rfl))) ?_)))))))
    rintro _ _ ⟨_, ⟨rfl, rfl⟩, rfl⟩
    refine on rfl (oP rfl (p_cat rfl rfl (by unfold maxLen; (try simp only [ByteArray.size_append]); (try simp only [ByteArray.size_append]); have e1 : (⟨#[61]⟩ : ByteArray).size = 1 := rfl; have e2 : (⟨#[123]⟩ : ByteArray).size = 1 := rfl; have e3 : (⟨#[125]⟩ : ByteArray).size = 1 := rfl; (try have := joinB_size (sep := ⟨#[44]⟩) rfl o); omega)) (oP rfl (p_cat rfl rfl (by unfold maxLen; (try simp only [ByteArray.size_append]); (try simp only [ByteArray.size_append]); have e1 : (⟨#[61]⟩ : ByteArray).size = 1 := rfl; have e2 : (⟨#[123]⟩ : ByteArray).size = 1 := rfl; have e3 : (⟨#[125]⟩ : ByteArray).size = 1 := rfl; (try have := joinB_size (sep := ⟨#[44]⟩) rfl o); omega)) (oR 1 rfl (oZ rfl (jk [2] rfl (zs rfl ?_))))))
    exact zj Tryz.results48 (.cons (zB (zf rfl) (Cv.eq (congrArg D.s (by rw [ho, List.take_of_length_le (by omega)]; rfl)))) .nil) rfl HSub.none ⟨rfl, rfl⟩
end Lp
/-
  Maps with texts as keys: what is looked up, what is stored.
-/
set_option linter.unusedVariables false
namespace Lp
open Go Go.RowKit
variable {P : Program} {w : World} {t kt et : TypeId} {r clock : Nat} {es : Array MapEntry} {k : ByteArray}
theorem run_find (hk : P.underlying kt = some .string) (hs : ∀ x ∈ es.toList, ∃ b, x.key = .string b) :
    ((Instr.findKey kt (.string k) es.toList).run P w = .ok none w ∧ ∀ x ∈ es.toList, x.key ≠ .string k) ∨
    ∃ (j : Nat) (e : MapEntry), (Instr.findKey kt (.string k) es.toList).run P w = .ok (some (j, e.val)) w ∧ es.toList[j]? = some e ∧ e.key = .string k := by
  rcases MapKept.findNow_spec (d := .string) (k := .string k) trivial es.toList 0 (fun x hx => by obtain ⟨b, e⟩ := hs x hx; rw [e]; trivial) with ⟨h1, h2⟩ | ⟨j, e, h1, h2, h3⟩
  · exact .inl ⟨MapKept.run_findKey hk h1, h2⟩
  · rw [Nat.zero_add] at h1
    exact .inr ⟨j, e, MapKept.run_findKey hk h1, h2, h3⟩
/-- a look-up -/
theorem run_look {z : Value} (ht : P.underlying t = some (.map kt et)) (hk : P.underlying kt = some .string) (hz : (zeroValue et).run P w = .ok z w) (hr : w.heap[r]? = some (.map es clock)) (hs : ∀ x ∈ es.toList, ∃ b, x.key = .string b) :
    ((Instr.lookup t (.map (some r)) (.string k) true).run P w = .ok (.tuple #[z, .bool false]) w ∧ ∀ x ∈ es.toList, x.key ≠ .string k) ∨
    ∃ (j : Nat) (e : MapEntry), (Instr.lookup t (.map (some r)) (.string k) true).run P w = .ok (.tuple #[e.val, .bool true]) w ∧ es.toList[j]? = some e ∧ e.key = .string k := by
  have hc : ∀ b, (Instr.checkKey b 10000 kt (.string k)).run P w = .ok () w := fun b => MapKept.run_checkKey (k := .string k) hk trivial b 9999
  rcases run_find (w := w) (k := k) hk hs with ⟨h1, h2⟩ | ⟨j, e, h1, h2, h3⟩
  · refine .inl ⟨?_, h2⟩
    unfold Instr.lookup
    simp [run_underlying ht, run_getObj_map _ _ _ _ hr, hc, h1, hz]
  · refine .inr ⟨j, e, ?_, h2, h3⟩
    unfold Instr.lookup
    simp [run_underlying ht, run_getObj_map _ _ _ _ hr, hc, h1]
/-- what is stored under a key that there is not -/
theorem run_put {v : Value} (ht : P.underlying t = some (.map kt et)) (hk : P.underlying kt = some .string) (hr : w.heap[r]? = some (.map es clock)) (hs : ∀ x ∈ es.toList, ∃ b, x.key = .string b) (hn : ∀ x ∈ es.toList, x.key ≠ .string k) :
    (Instr.mapUpdate t (.map (some r)) (.string k) v).run P w = .ok () { w with heap := w.heap.setIfInBounds r (.map (es.push ⟨.string k, v, clock⟩) (clock + 1)) } := by
  have hc : ∀ b, (Instr.checkKey b 10000 kt (.string k)).run P w = .ok () w := fun b => MapKept.run_checkKey (k := .string k) hk trivial b 9999
  rcases run_find (w := w) (k := k) hk hs with ⟨h1, h2⟩ | ⟨j, e, h1, h2, h3⟩
  · unfold Instr.mapUpdate
    simp [run_underlying ht, run_getObj_map _ _ _ _ hr, hc, h1, MapKept.run_setObj_map _ hr]
  · exact absurd h3 (hn e (List.mem_of_getElem? h2))
end Lp
/-
  Maps of the call's own, with texts as keys, over data.
-/
set_option linter.unusedVariables false
namespace Lp
open Go Go.RowKit
variable {P : Program} {ty : TypeId} {K : Kd} {H : List Hp}
theorem ef_makeMap {t : TypeId} : Ef P (.makeMap t none) ty K H (fun d H' => ∃ g, d = .v (.map (some g)) ∧ H' = .mp g [] [] :: H) :=
  ⟨fun C ρ w F hk gd => by
    refine EOp.of_run (v := .map (some w.heap.size)) (w' := w.alloc (.map #[] 0)) ?_ ?_
    · have h := zb0 (run_makeMap (P := P) t w)
      simpa [execOp, zap] using h
    have E := Ext.alloc w (.map #[] 0)
    have g' := gd.ext E
    refine ⟨F, _, _, ⟨w.heap.size, rfl, rfl⟩, rfl, g'.more ⟨#[], 0, [], heap_alloc_new w _, rfl, rfl, rfl⟩ (fun b hb => ?_), Keep.ext E⟩
    cases hb
    exact ⟨gd.size, fun hF => by have := gd.flt _ hF; omega, fun hB => by have := zdN gd.h hB; omega⟩⟩
theorem mp_keys {es : Array MapEntry} {ks : List ByteArray} (h : es.toList.map (·.key) = ks.map Value.string) : ∀ x ∈ es.toList, ∃ b, x.key = .string b := fun x hx => by
  have : x.key ∈ ks.map Value.string := by rw [← h]; exact List.mem_map_of_mem hx
  obtain ⟨b, _, e⟩ := List.mem_map.1 this
  exact ⟨b, e.symm⟩
theorem repA_at {w : World} {F : Nat → Prop} : ∀ {xs : List D} {us : List Value} {j : Nat} {u : Value}, D.repA w F xs us → us[j]? = some u → ∃ x, xs[j]? = some x ∧ D.rep w F x u
  | [], _, j, u, rfl, h => by simp at h
  | x :: r, _, 0, u, ⟨v, vs, rfl, h1, h2⟩, h => by simp at h; subst h; exact ⟨x, rfl, h1⟩
  | x :: r, _, j + 1, u, ⟨v, vs, rfl, h1, h2⟩, h => by
    have := repA_at (j := j) h2 (by simpa using h)
    simpa using this
theorem repA_snoc {w : World} {F : Nat → Prop} : ∀ {xs : List D} {us : List Value} {x : D} {u : Value}, D.repA w F xs us → D.rep w F x u → D.repA w F (xs ++ [x]) (us ++ [u])
  | [], _, x, u, rfl, h => ⟨u, [], rfl, h, rfl⟩
  | y :: r, _, x, u, ⟨v, vs, rfl, h1, h2⟩, h => ⟨v, vs ++ [u], rfl, h1, repA_snoc h2 h⟩
/-- a key that there is not -/
theorem p_look_f {t kt et : TypeId} {x y : Operand} {g i : Nat} {ks : List ByteArray} {xs : List D} {k : ByteArray} {z : Value} {zd : D} (hx : opD K x = some (.v (.map (some g)))) (hy : opS K y = some k) (hm : nth H i = some (.mp g ks xs))
    (ht : P.underlying t = some (.map kt et)) (hkt : P.underlying kt = some .string) (hz : ∀ w, (zeroValue et).run P w = .ok z w) (hzd : Cv (.v z) zd) (hn : k ∉ ks) : Pu P (.lookup t x y true) ty K H (.tup [zd, .v (.bool false)]) :=
  ⟨fun ρ w F hk _ hH => by
    obtain ⟨es, c, us, h, h1, h2, h3⟩ := hH _ (z6 hm)
    have e1 : ev ρ x = .map (some g) := hk.op hx
    have e2 := hk.opS hy
    rcases run_look (k := k) ht hkt (hz w) h (mp_keys h1) with ⟨hr, _⟩ | ⟨j, e, hr, hj, he⟩
    · refine EOp.of_run (v := .tuple #[z, .bool false]) (w' := w) ?_ ⟨rfl, [z, .bool false], rfl, _, _, rfl, hzd.out _ _ _ rfl, _, _, rfl, rfl, rfl⟩
      have hv := zb0 hr
      simpa [execOp, zap, e1, e2] using hv
    · exfalso
      have : Value.string k ∈ ks.map Value.string := by rw [← h1, ← he]; exact List.mem_map_of_mem (List.mem_of_getElem? hj)
      obtain ⟨b, hb, e'⟩ := List.mem_map.1 this
      injection e' with e'
      exact hn (e' ▸ hb)⟩
/-- a key that there is: keys are there once -/
theorem p_look_t {t kt et : TypeId} {x y : Operand} {g i j : Nat} {ks : List ByteArray} {xs : List D} {k : ByteArray} {z : Value} {d : D} (hx : opD K x = some (.v (.map (some g)))) (hy : opS K y = some k) (hm : nth H i = some (.mp g ks xs))
    (ht : P.underlying t = some (.map kt et)) (hkt : P.underlying kt = some .string) (hz : ∀ w, (zeroValue et).run P w = .ok z w) (hnd : ks.Nodup) (hj : ks[j]? = some k) (hd : xs[j]? = some d) : Pu P (.lookup t x y true) ty K H (.tup [d, .v (.bool true)]) :=
  ⟨fun ρ w F hk _ hH => by
    obtain ⟨es, c, us, h, h1, h2, h3⟩ := hH _ (z6 hm)
    have e1 : ev ρ x = .map (some g) := hk.op hx
    have e2 := hk.opS hy
    have hkey : ∀ m e, es.toList[m]? = some e → e.key = .string k → m = j := fun m e hm he => by
      have h5 : (es.toList.map (·.key))[m]? = some (.string k) := by rw [List.getElem?_map, hm]; exact congrArg some he
      rw [h1, List.getElem?_map] at h5
      cases h6 : ks[m]? with
      | none => rw [h6] at h5; cases h5
      | some b =>
        rw [h6] at h5; injection h5 with h5; injection h5 with h5; subst h5
        obtain ⟨p1, q1⟩ := List.getElem?_eq_some_iff.1 h6
        obtain ⟨p2, q2⟩ := List.getElem?_eq_some_iff.1 hj
        have hp := List.pairwise_iff_getElem.1 hnd
        rcases Nat.lt_trichotomy m j with hl | hl | hl
        · exact absurd (q1.trans q2.symm) (hp m j p1 p2 hl)
        · exact hl
        · exact absurd (q2.trans q1.symm) (hp j m p2 p1 hl)
    rcases run_look (k := k) ht hkt (hz w) h (mp_keys h1) with ⟨_, hno⟩ | ⟨m, e, hr, hm', he⟩
    · exfalso
      have : Value.string k ∈ es.toList.map (·.key) := by rw [h1]; exact List.mem_map_of_mem (List.mem_of_getElem? hj)
      obtain ⟨e, he, hk'⟩ := List.mem_map.1 this
      exact hno e he hk'
    · have hmj := hkey m e hm' he
      subst hmj
      have hu : us[m]? = some e.val := by rw [← h2, List.getElem?_map, hm']; rfl
      obtain ⟨d', hd', hrep⟩ := repA_at h3 hu
      rw [hd] at hd'; injection hd' with hd'; subst hd'
      refine EOp.of_run (v := .tuple #[e.val, .bool true]) (w' := w) ?_ ⟨rfl, [e.val, .bool true], rfl, _, _, rfl, hrep, _, _, rfl, rfl, rfl⟩
      have hv := zb0 hr
      simpa [execOp, zap, e1, e2] using hv⟩
/-- what is stored under a key that there is not -/
theorem ef_put {t kt et : TypeId} {x y v : Operand} {g i : Nat} {ks : List ByteArray} {xs : List D} {k : ByteArray} {d : D} (hx : opD K x = some (.v (.map (some g)))) (hy : opS K y = some k) (hv : opD K v = some d) (hm : nth H i = some (.mp g ks xs))
    (ht : P.underlying t = some (.map kt et)) (hkt : P.underlying kt = some .string) (hn : k ∉ ks) : Ef P (.mapUpdate t x y v) ty K H (fun r H' => r = .v undef ∧ H' = H.set i (.mp g (ks ++ [k]) (xs ++ [d]))) :=
  ⟨fun C ρ w F hk gd => by
    obtain ⟨es, c, us, h, h1, h2, h3⟩ := gd.h.ok _ (z6 hm)
    have e1 : ev ρ x = .map (some g) := hk.op hx
    have e2 := hk.opS hy
    have e3 := hk.op hv
    have hno : ∀ a ∈ es.toList, a.key ≠ .string k := fun a ha he => by
      have : Value.string k ∈ ks.map Value.string := by rw [← h1, ← he]; exact List.mem_map_of_mem ha
      obtain ⟨b, hb, e'⟩ := List.mem_map.1 this
      injection e' with e'
      exact hn (e' ▸ hb)
    have hr := run_put (P := P) (v := ev ρ v) ht hkt h (mp_keys h1) hno
    have hlt := (Array.getElem?_eq_some_iff.1 h).1
    have tn := gd.turn (h' := .mp g (ks ++ [k]) (xs ++ [d])) (w' := { w with heap := w.heap.setIfInBounds g (.map (es.push ⟨.string k, ev ρ v, c⟩) (c + 1)) }) hm (fun b _ hn' => by
        have : ¬ g = b := hn'
        simp only [Array.getElem?_setIfInBounds]; rw [if_neg this]) (by simp) rfl rfl rfl (fun b hb => .inl hb) (fun kp => by
        refine ⟨_, _, us ++ [ev ρ v], by simp only [Array.getElem?_setIfInBounds, if_true, hlt]; rfl, ?_, ?_, ?_⟩
        · simp [h1]
        · simp [h2]
        · exact repA_snoc (D.keepA kp _ _ h3) (D.keep kp _ _ e3))
    refine EOp.of_skip (w' := { w with heap := w.heap.setIfInBounds g (.map (es.push ⟨.string k, ev ρ v, c⟩) (c + 1)) }) ?_ ⟨F, _, _, ⟨rfl, rfl⟩, rfl, tn.1, tn.2⟩
    have hv2 := run_u hr
    simpa [execOp, zap, e1, e2] using hv2⟩
end Lp
/- Walks, printed by a program of mine. -/
set_option linter.unusedSimpArgs false
set_option linter.unusedVariables false
set_option maxHeartbeats 4000000
set_option maxRecDepth 100000
namespace Lp
open Go Go.RowKit Go.Proofs

namespace HdYtfjinapgehafiaaGreatV64
theorem zbQ : ∀ w, ((#[⟨"Labels", 50, 0, false, "", "", 0⟩, ⟨"V", 3, 1, false, "", "", 24⟩] : Array Field).mapM fun f => do pure (f.offset, ← Go.sizeOf f.type) : Sem (Array (Nat × Nat))).run Tryz.prog w = .ok ([(0, 1), (1, 1)] : List (Nat × Nat)).toArray w := fun _ => by kernel_rfl
theorem z2 (b o : Nat) : ∀ w, (Instr.fieldAt 53 (.pointer (some ⟨b, o, none⟩)) 0).run Tryz.prog w = .ok (.pointer (some ⟨b, o + 0, none⟩)) w := fun _ => by kernel_rfl
theorem zaj (b o : Nat) : ∀ w, (Instr.fieldAt 53 (.pointer (some ⟨b, o, none⟩)) 1).run Tryz.prog w = .ok (.pointer (some ⟨b, o + 1, none⟩)) w := fun _ => by kernel_rfl
theorem z9 : ∃ i, Tryz.prog.info? 53 = some i ∧ i.zero = some (.agg #[(.slice none 0 0), (.int .i64 0)]) ∧ i.size = 2 ∧ i.bytes = 32 := zaS (by kernel_rfl)
theorem zao : Tryz.prog.underlying 22 = some (.slice 53) := by kernel_rfl
end HdYtfjinapgehafiaaGreatV64
open HdYtfjinapgehafiaaGreatV64

theorem keyed_t (l : List RowD) (mode : Int) (names : List ByteArray) (hl : l.length ≤ 1000000) (hz : LZ l) (hn : ndT mode names l) :
    CD Tryz.prog 47 [] [.sh 2 (l.map RowD.d), dI mode, .sh 1 (names.map D.s)] (fun r H' => ∃ g, r = .tup [.v (.map (some g)), dB true] ∧ H' = [.mp g (zaF mode names l) (l.map RowD.d)]) := by
  refine zy Tryz.func47 rfl (N := 39) rfl rfl (fun C => ?_)
  refine jk [0, 1, 2] rfl ?_
  refine JD.bd 0 rfl (fun bd0 => ?_)
  have nl0 := zZ bd0
  refine JD.bd 2 rfl (fun bd2 => ?_)
  have nl2 := zZ bd2
  refine jT rfl (oR 2 rfl (oZ rfl (jT rfl (oE rfl ef_makeMap ?_))))
  rintro _ _ ⟨g1, rfl, rfl⟩
  refine on rfl (oR 1 rfl (oZ rfl (jS rfl (jT rfl (oR 1 rfl (oP rfl (zae (n := l.length) rfl Tryz.runUnderlying22 (by simp only [lm, lc, ln])) (oR 1 rfl (oZ rfl (jB rfl (jl3 (fun (a_ : Nat) (b_ : List ByteArray) (c_ : List RowD) => [(1, dI mode), (2, .sh 1 (names.map D.s)), (8, .v (.map (some g1))), (15, .sh 2 (l.map RowD.d)), (16, dN l.length), (17, dN a_)]) (fun a_ b_ c_ => [.mp g1 b_ (c_.map RowD.d)]) (fun a_ b_ c_ => (a_ ≤ l.length) ∧ (b_ = zaF mode names (l.take a_)) ∧ (c_ = l.take a_) ∧ (b_.Nodup)) (fun a_ b_ c_ => l.length - a_) 0 [] [] rfl (sa rfl) HSub.rfl' ⟨Nat.zero_le _, rfl, rfl, List.nodup_nil⟩ ?_))))))))))
  rintro k ks xs ⟨hkl, hks, hxs, hnd⟩
  refine ja rfl (jn rfl (jT rfl (oP rfl (zL rfl rfl rfl) (oZ rfl (jS rfl ?_)))))
  refine jD rfl (fun hc2 => ?_) (fun hc2 => ?_)
  · skip
    refine zq rfl (zc (jS rfl (jB rfl (jT rfl ?_))))
    obtain ⟨x1, hx1⟩ := zG l k (by omega)
    have hzz := (hz x1 (zav hx1)).1
    have hkz := hz.key (zav hx1) mode names
    have hkz1 := hkz.1
    refine oP rfl (zC (k := k) rfl rfl Tryz.runUnderlying22 Tryz.sizeOf53 (by first | rfl | omega) (zt hx1)) (oP rfl (zar (d := RowD.d x1) rfl Tryz.isAgg53 Tryz.sizeOf53 rfl rfl) (oE rfl (zaL (zv := (.agg #[(.slice none 0 0), (.int .i64 0)])) Tryz.zeroValue53 ⟨rfl, rfl, trivial⟩ (Cv.vagg (by decide))) ?_))
    rintro _ _ ⟨g3, rfl, rfl⟩
    refine oE rfl (z4 (i := 0) (X' := RowD.d x1) rfl rfl rfl (CellD.agg) Tryz.sizeOf53 rfl rfl rfl) ?_
    rintro _ _ ⟨rfl, rfl⟩
    refine on rfl (oZ rfl (jT rfl (oR 2 rfl (oP rfl (zl rfl z2 rfl) (oP rfl (zz rfl (i := 0) rfl Tryz.isAgg50 rfl) (oE rfl (zx [] _ [] rfl rfl (.cons ArgC.id (.cons ArgC.id (.cons ArgC.id .nil))) zo Tryz.call24 (zem mode names x1.ls (by omega)) (.inl rfl)) ?_))))))
    rintro _ _ ⟨_, ⟨v4, rfl, rfl⟩, rfl⟩
    refine on rfl (oE rfl (zx [] _ [.sl v4 2 62 ((keyL mode names x1.ls).map Lbl.d)] rfl rfl (.cons (ArgC.own (j := 0) rfl rfl) .nil) (zaf (j := 0) rfl zo) Tryz.call48 (Text_c (keyL mode names x1.ls) (by omega) hkz.2) (.inr (za5 rfl))) ?_)
    rintro _ _ ⟨_, ⟨rfl, rfl⟩, rfl⟩
    refine on rfl (oR 1 rfl (oZ rfl (jS rfl (jS rfl ?_))))
    by_cases hg5 : zcv (keyL mode names x1.ls) ∈ ks
    · skip
      refine za rfl (oR 2 rfl ?_)
      obtain ⟨j, q, hj, hq, _, _⟩ := findT_some (show keyT mode names x1 ∈ zaF mode names (l.take k) from (by rw [← hks]; exact hg5))
      rw [← hks] at hj
      rw [← hxs] at hq
      refine oP rfl (p_look_t (i := 2) (j := j) rfl rfl rfl Tryz.underlying75 Tryz.underlying9 Tryz.zeroValue53 hnd hj (zt hq)) (oR 3 rfl (oE rfl (zaL (zv := (.agg #[(.slice none 0 0), (.int .i64 0)])) Tryz.zeroValue53 ⟨rfl, rfl, trivial⟩ (Cv.vagg (by decide))) ?_))
      rintro _ _ ⟨g6, rfl, rfl⟩
      refine oE rfl (z4 (i := 0) (X' := RowD.d q) rfl rfl rfl (CellD.agg) Tryz.sizeOf53 rfl rfl rfl) ?_
      rintro _ _ ⟨rfl, rfl⟩
      refine on rfl (oR 1 rfl (oZ rfl (jT rfl (oR 1 rfl (oZ rfl (jCt rfl (jT rfl (oR 2 rfl (oZ rfl (zs rfl (ze (zi (ze (zQ (zi (ze ?_))))))))))))))))
      exact absurd hn (ndT_bad hx1 (by rw [← hks]; exact hg5))
    · skip
      refine za rfl (oR 2 rfl (oP rfl (p_look_f (i := 2) rfl rfl rfl Tryz.underlying75 Tryz.underlying9 Tryz.zeroValue53 (Cv.vagg (by decide)) hg5) (oR 3 rfl (oE rfl (zaL (zv := (.agg #[(.slice none 0 0), (.int .i64 0)])) Tryz.zeroValue53 ⟨rfl, rfl, trivial⟩ (Cv.vagg (by decide))) ?_))))
      rintro _ _ ⟨g7, rfl, rfl⟩
      refine oE rfl (z4 (i := 0) (X' := .agg [dZ, dI 0]) rfl rfl rfl (CellD.agg) Tryz.sizeOf53 rfl rfl rfl) ?_
      rintro _ _ ⟨rfl, rfl⟩
      refine on rfl (oR 1 rfl (oZ rfl (jT rfl (oR 1 rfl (oZ rfl (jCf rfl (zq rfl (zc (za rfl (oR 2 rfl (oP rfl (za0 (d := RowD.d x1) rfl (i := 2) rfl Tryz.isAgg53 Tryz.sizeOf53 rfl rfl) (oE rfl (ef_put (i := 3) (d := RowD.d x1) rfl rfl rfl rfl Tryz.underlying75 Tryz.underlying9 hg5) ?_))))))))))))
      rintro _ _ ⟨rfl, rfl⟩
      refine OpsD.norm [.bx g7 53 (.agg [dZ, dI 0]), .sl v4 2 62 ((keyL mode names x1.ls).map Lbl.d), .bx g3 53 (RowD.d x1), .mp g1 (ks ++ [zcv (keyL mode names x1.ls)]) ((xs ++ [x1]).map RowD.d)] (by simp only [List.map_append, List.map_cons, List.map_nil]; rfl) (zg rfl (zw (zc (za rfl (oP rfl (zS (c := ((k + 1 : Nat) : Int)) rfl rfl (zF (by omega) (by omega))) (oR 1 rfl (zg rfl (PD.subH (HSub.perm (zk (i := 3) rfl)) (pn rfl (PD.subH (HSub.fst 1 rfl) (pn rfl ?_)))))))))))
      exact pl3 (k + 1) (ks ++ [zcv (keyL mode names x1.ls)]) (xs ++ [x1]) (sa rfl) HSub.rfl' ⟨by show k + 1 ≤ l.length; omega, by rw [keyTs_snoc hx1, ← hks]; rfl, by rw [z0 hx1, ← hxs], nd_snoc hnd hg5⟩ (by omega)
  · skip
    refine zE rfl (zr (zn (zh (zc (jT rfl (oR 3 rfl (oZ rfl (zs rfl (PD.norm [.mp g1 (zaF mode names l) (l.map RowD.d)] (by rw [hks, hxs, List.take_of_length_le (by omega)]) ?_)))))))))
    exact zj Tryz.results47 (.cons (zf rfl) (.cons (zf rfl) .nil)) rfl (HSub.fst 1 rfl) ⟨_, rfl, rfl⟩

theorem keyed_f (l : List RowD) (mode : Int) (names : List ByteArray) (hl : l.length ≤ 1000000) (hz : LZ l) (hn : ¬ ndT mode names l) :
    CD Tryz.prog 47 [] [.sh 2 (l.map RowD.d), dI mode, .sh 1 (names.map D.s)] (isR (.tup [.v (.map none), dB false])) := by
  refine zy Tryz.func47 rfl (N := 39) rfl rfl (fun C => ?_)
  refine jk [0, 1, 2] rfl ?_
  refine JD.bd 0 rfl (fun bd0 => ?_)
  have nl0 := zZ bd0
  refine JD.bd 2 rfl (fun bd2 => ?_)
  have nl2 := zZ bd2
  refine jT rfl (oR 2 rfl (oZ rfl (jT rfl (oE rfl ef_makeMap ?_))))
  rintro _ _ ⟨g1, rfl, rfl⟩
  refine on rfl (oR 1 rfl (oZ rfl (jS rfl (jT rfl (oR 1 rfl (oP rfl (zae (n := l.length) rfl Tryz.runUnderlying22 (by simp only [lm, lc, ln])) (oR 1 rfl (oZ rfl (jB rfl (jl3 (fun (a_ : Nat) (b_ : List ByteArray) (c_ : List RowD) => [(1, dI mode), (2, .sh 1 (names.map D.s)), (8, .v (.map (some g1))), (15, .sh 2 (l.map RowD.d)), (16, dN l.length), (17, dN a_)]) (fun a_ b_ c_ => [.mp g1 b_ (c_.map RowD.d)]) (fun a_ b_ c_ => (a_ ≤ l.length) ∧ (b_ = zaF mode names (l.take a_)) ∧ (c_ = l.take a_) ∧ (b_.Nodup)) (fun a_ b_ c_ => l.length - a_) 0 [] [] rfl (sa rfl) HSub.rfl' ⟨Nat.zero_le _, rfl, rfl, List.nodup_nil⟩ ?_))))))))))
  rintro k ks xs ⟨hkl, hks, hxs, hnd⟩
  refine ja rfl (jn rfl (jT rfl (oP rfl (zL rfl rfl rfl) (oZ rfl (jS rfl ?_)))))
  refine jD rfl (fun hc2 => ?_) (fun hc2 => ?_)
  · skip
    refine zq rfl (zc (jS rfl (jB rfl (jT rfl ?_))))
    obtain ⟨x1, hx1⟩ := zG l k (by omega)
    have hzz := (hz x1 (zav hx1)).1
    have hkz := hz.key (zav hx1) mode names
    have hkz1 := hkz.1
    refine oP rfl (zC (k := k) rfl rfl Tryz.runUnderlying22 Tryz.sizeOf53 (by first | rfl | omega) (zt hx1)) (oP rfl (zar (d := RowD.d x1) rfl Tryz.isAgg53 Tryz.sizeOf53 rfl rfl) (oE rfl (zaL (zv := (.agg #[(.slice none 0 0), (.int .i64 0)])) Tryz.zeroValue53 ⟨rfl, rfl, trivial⟩ (Cv.vagg (by decide))) ?_))
    rintro _ _ ⟨g3, rfl, rfl⟩
    refine oE rfl (z4 (i := 0) (X' := RowD.d x1) rfl rfl rfl (CellD.agg) Tryz.sizeOf53 rfl rfl rfl) ?_
    rintro _ _ ⟨rfl, rfl⟩
    refine on rfl (oZ rfl (jT rfl (oR 2 rfl (oP rfl (zl rfl z2 rfl) (oP rfl (zz rfl (i := 0) rfl Tryz.isAgg50 rfl) (oE rfl (zx [] _ [] rfl rfl (.cons ArgC.id (.cons ArgC.id (.cons ArgC.id .nil))) zo Tryz.call24 (zem mode names x1.ls (by omega)) (.inl rfl)) ?_))))))
    rintro _ _ ⟨_, ⟨v4, rfl, rfl⟩, rfl⟩
    refine on rfl (oE rfl (zx [] _ [.sl v4 2 62 ((keyL mode names x1.ls).map Lbl.d)] rfl rfl (.cons (ArgC.own (j := 0) rfl rfl) .nil) (zaf (j := 0) rfl zo) Tryz.call48 (Text_c (keyL mode names x1.ls) (by omega) hkz.2) (.inr (za5 rfl))) ?_)
    rintro _ _ ⟨_, ⟨rfl, rfl⟩, rfl⟩
    refine on rfl (oR 1 rfl (oZ rfl (jS rfl (jS rfl ?_))))
    by_cases hg5 : zcv (keyL mode names x1.ls) ∈ ks
    · skip
      refine za rfl (oR 2 rfl ?_)
      obtain ⟨j, q, hj, hq, _, _⟩ := findT_some (show keyT mode names x1 ∈ zaF mode names (l.take k) from (by rw [← hks]; exact hg5))
      rw [← hks] at hj
      rw [← hxs] at hq
      refine oP rfl (p_look_t (i := 2) (j := j) rfl rfl rfl Tryz.underlying75 Tryz.underlying9 Tryz.zeroValue53 hnd hj (zt hq)) (oR 3 rfl (oE rfl (zaL (zv := (.agg #[(.slice none 0 0), (.int .i64 0)])) Tryz.zeroValue53 ⟨rfl, rfl, trivial⟩ (Cv.vagg (by decide))) ?_))
      rintro _ _ ⟨g6, rfl, rfl⟩
      refine oE rfl (z4 (i := 0) (X' := RowD.d q) rfl rfl rfl (CellD.agg) Tryz.sizeOf53 rfl rfl rfl) ?_
      rintro _ _ ⟨rfl, rfl⟩
      refine on rfl (oR 1 rfl (oZ rfl (jT rfl (oR 1 rfl (oZ rfl (jCt rfl (jT rfl (oR 2 rfl (oZ rfl (zs rfl (ze (zi (ze (zQ (zi (ze ?_))))))))))))))))
      exact zj Tryz.results47 (.cons (zf rfl) (.cons (zf rfl) .nil)) rfl HSub.none ⟨rfl, rfl⟩
    · skip
      refine za rfl (oR 2 rfl (oP rfl (p_look_f (i := 2) rfl rfl rfl Tryz.underlying75 Tryz.underlying9 Tryz.zeroValue53 (Cv.vagg (by decide)) hg5) (oR 3 rfl (oE rfl (zaL (zv := (.agg #[(.slice none 0 0), (.int .i64 0)])) Tryz.zeroValue53 ⟨rfl, rfl, trivial⟩ (Cv.vagg (by decide))) ?_))))
      rintro _ _ ⟨g7, rfl, rfl⟩
      refine oE rfl (z4 (i := 0) (X' := .agg [dZ, dI 0]) rfl rfl rfl (CellD.agg) Tryz.sizeOf53 rfl rfl rfl) ?_
      rintro _ _ ⟨rfl, rfl⟩
      refine on rfl (oR 1 rfl (oZ rfl (jT rfl (oR 1 rfl (oZ rfl (jCf rfl (zq rfl (zc (za rfl (oR 2 rfl (oP rfl (za0 (d := RowD.d x1) rfl (i := 2) rfl Tryz.isAgg53 Tryz.sizeOf53 rfl rfl) (oE rfl (ef_put (i := 3) (d := RowD.d x1) rfl rfl rfl rfl Tryz.underlying75 Tryz.underlying9 hg5) ?_))))))))))))
      rintro _ _ ⟨rfl, rfl⟩
      refine OpsD.norm [.bx g7 53 (.agg [dZ, dI 0]), .sl v4 2 62 ((keyL mode names x1.ls).map Lbl.d), .bx g3 53 (RowD.d x1), .mp g1 (ks ++ [zcv (keyL mode names x1.ls)]) ((xs ++ [x1]).map RowD.d)] (by simp only [List.map_append, List.map_cons, List.map_nil]; rfl) (zg rfl (zw (zc (za rfl (oP rfl (zS (c := ((k + 1 : Nat) : Int)) rfl rfl (zF (by omega) (by omega))) (oR 1 rfl (zg rfl (PD.subH (HSub.perm (zk (i := 3) rfl)) (pn rfl (PD.subH (HSub.fst 1 rfl) (pn rfl ?_)))))))))))
      exact pl3 (k + 1) (ks ++ [zcv (keyL mode names x1.ls)]) (xs ++ [x1]) (sa rfl) HSub.rfl' ⟨by show k + 1 ≤ l.length; omega, by rw [keyTs_snoc hx1, ← hks]; rfl, by rw [z0 hx1, ← hxs], nd_snoc hnd hg5⟩ (by omega)
  · skip
    refine zE rfl (zr (zn (zh (zc (jT rfl (oR 3 rfl (oZ rfl (zs rfl ?_))))))))
    exact absurd (show ndT mode names l by unfold ndT; rw [hks, List.take_of_length_le (by omega)] at hnd; exact hnd) hn

theorem Match_c (op : ByteArray) (a : List RowD) (b : List RowD) (mode : Int) (names : List ByteArray) (hza : LZ a) (hzb : LZ b) :
    CD Tryz.prog 16 [] [.s op, .sh 2 (a.map RowD.d), .sh 2 (b.map RowD.d), dI mode, .sh 1 (names.map D.s)] (fun r H' => ∃ v0_, r = .tup [.ov v0_, dI (zac op a b mode names)] ∧ H' = [.sl v0_ 2 53 ((zp op a b mode names).map RowD.d)]) := by
  refine zy Tryz.func16 rfl (N := 112) rfl rfl (fun C => ?_)
  refine jk [0, 1, 2, 3, 4] rfl ?_
  refine JD.bd 0 rfl (fun bd0 => ?_)
  have sz0 : op.size ≤ 9223372036854775807 := bd0
  refine JD.bd 1 rfl (fun bd1 => ?_)
  have nl1 := zZ bd1
  refine JD.bd 2 rfl (fun bd2 => ?_)
  have nl2 := zZ bd2
  refine JD.bd 4 rfl (fun bd4 => ?_)
  have nl4 := zZ bd4
  refine jT rfl (oR 2 rfl (oZ rfl (jS rfl (jS rfl (jk [0, 1, 2, 3, 4, 10, 11] rfl ?_)))))
  refine zab 36 (((!(opB op) || !(zT a)) || !(zT b))) [] (fun _ hQ1 => ?_) ?_
  · skip
    rcases Bool.eq_false_or_eq_true (opB op) with hg2 | hg2
    · skip
      rcases Bool.eq_false_or_eq_true (zT a) with hg3 | hg3
      · skip
        refine za rfl (oR 1 rfl (oW rfl rfl acs Tryz.call43 (zej op) (os 25 rfl (congrArg (fun b => D.v (.bool b)) hg2) (oR 3 rfl (oV rfl rfl acs Tryz.call26 (zcD a) (os 29 rfl (congrArg (fun b => D.v (.bool b)) hg3) (oR 4 rfl (oV rfl rfl acs Tryz.call26 (zcD b) (oG rfl (zaP rfl) (oR 1 rfl (zg rfl ?_)))))))))))
        exact PD.sub ((36, dB ((!(opB op) || !(zT a)) || !(zT b))) :: [(0, .s op), (1, .sh 2 (a.map RowD.d)), (2, .sh 2 (b.map RowD.d)), (3, dI mode), (4, .sh 1 (names.map D.s)), (10, dZ), (11, dI 0)]) ⟨sc rfl (Cv.eq (congrArg (fun b => D.v (.bool b)) (by first | (simp [hg2, hg3]; done) | (simp_all; done)))), sk rfl, sk rfl, sk rfl, sk rfl, sk rfl, sk rfl, sk rfl, trivial⟩ hQ1
      · skip
        refine za rfl (oR 1 rfl (oW rfl rfl acs Tryz.call43 (zej op) (os 25 rfl (congrArg (fun b => D.v (.bool b)) hg2) (oR 3 rfl (oV rfl rfl acs Tryz.call26 (zcD a) (os 29 rfl (congrArg (fun b => D.v (.bool b)) hg3) (oR 7 rfl (zg rfl ?_))))))))
        exact PD.sub ((36, dB ((!(opB op) || !(zT a)) || !(zT b))) :: [(0, .s op), (1, .sh 2 (a.map RowD.d)), (2, .sh 2 (b.map RowD.d)), (3, dI mode), (4, .sh 1 (names.map D.s)), (10, dZ), (11, dI 0)]) ⟨sc rfl (Cv.eq (congrArg (fun b => D.v (.bool b)) (by first | (simp [hg2, hg3]; done) | (simp_all; done)))), sk rfl, sk rfl, sk rfl, sk rfl, sk rfl, sk rfl, sk rfl, trivial⟩ hQ1
    · skip
      refine za rfl (oR 1 rfl (oW rfl rfl acs Tryz.call43 (zej op) (os 25 rfl (congrArg (fun b => D.v (.bool b)) hg2) (oR 11 rfl (zg rfl ?_)))))
      exact PD.sub ((36, dB ((!(opB op) || !(zT a)) || !(zT b))) :: [(0, .s op), (1, .sh 2 (a.map RowD.d)), (2, .sh 2 (b.map RowD.d)), (3, dI mode), (4, .sh 1 (names.map D.s)), (10, dZ), (11, dI 0)]) ⟨sc rfl (Cv.eq (congrArg (fun b => D.v (.bool b)) (by first | (simp [hg2]; done) | (simp_all; done)))), sk rfl, sk rfl, sk rfl, sk rfl, sk rfl, sk rfl, sk rfl, trivial⟩ hQ1
  · skip
    refine zc ?_
    refine jC rfl (fun hc4 => ?_) (fun hc4 => ?_)
    · simp only [bA, bB, bC, bD, bE, bF, bG, bH, bI, bJ] at hc4
      have hbad : zbl op a b = false := by unfold zbl; have h := hc4; revert h; cases opB op <;> cases zT a <;> cases zT b <;> simp
      refine jT rfl (oR 2 rfl (oZ rfl (zs rfl (ze (PD.subH (HSub.nil 2 53) (PD.norm [.sl (.slice none 0 0) 2 53 ((zp op a b mode names).map RowD.d)] (by have hw : [] = zp op a b mode names := (by first | exact (zcR (mode := mode) (ns := names) hbad).1 | exact (zcR (mode := mode) (ns := names) hbad).2 | (rw [← zaA hfq]; exact (zcR (mode := mode) (ns := names) hbad).2)); rw [show ([] : List D) = List.map RowD.d (zp op a b mode names) from congrArg (List.map RowD.d) hw]) ?_))))))
      exact zj Tryz.results16 (.cons (zB (zf rfl) (Cv.ov rfl)) (.cons (zB (zf rfl) (Cv.eq (congrArg (fun n => D.v (.int .i64 n)) (by first | exact (zcR (mode := mode) (ns := names) hbad).1 | exact (zcR (mode := mode) (ns := names) hbad).2 | (rw [← zaA hfq]; exact (zcR (mode := mode) (ns := names) hbad).2))))) .nil)) rfl (HSub.fst 1 rfl) ⟨(.slice none 0 0), rfl, rfl⟩
    · simp only [bA, bB, bC, bD, bE, bF, bG, bH, bI, bJ] at hc4
      have hgood : zbl op a b = true := by unfold zbl; simp only [Bool.and_eq_true]; have h := hc4; simp_all
      have hvr : zT a = true ∧ zT b = true := by unfold zbl at hgood; simp only [Bool.and_eq_true] at hgood; exact hgood.2
      have hlen := (zaH.1 hvr.1).1
      have hlenb := (zaH.1 hvr.2).1
      refine zq rfl (zc (jS rfl ?_))
      by_cases hg5 : ndT mode names a
      · skip
        refine za rfl (oR 3 rfl (oE rfl (zx [] [] [] rfl rfl (.cons ArgC.id (.cons ArgC.id (.cons ArgC.id .nil))) zo Tryz.call47 (keyed_t a mode names (by omega) hza hg5) (.inl rfl)) ?_))
        rintro _ _ ⟨_, ⟨g6, rfl, rfl⟩, rfl⟩
        refine on rfl (oR 5 rfl (oZ rfl (jk [0, 1, 2, 3, 4, 10, 11, 13] rfl (jS rfl ?_))))
        by_cases hg7 : ndT mode names b
        · skip
          refine za rfl (oR 3 rfl (oE rfl (zx [] [.mp g6 (zaF mode names a) (a.map RowD.d)] [] rfl rfl (.cons ArgC.id (.cons ArgC.id (.cons ArgC.id .nil))) zo Tryz.call47 (keyed_t b mode names (by omega) hzb hg7) (.inl rfl)) ?_))
          rintro _ _ ⟨_, ⟨g8, rfl, rfl⟩, rfl⟩
          refine on rfl (oR 5 rfl (oZ rfl (jS rfl (jT rfl (oR 6 rfl (oZ rfl (jk [0, 1, 3, 4, 10, 11, 14, 56] rfl (JD.subH (HSub.fst 1 rfl) (jn rfl ?_)))))))))
          have hnn : ndT mode names a ∧ ndT mode names b := ⟨hg5, hg7⟩
          refine jCf rfl (zq rfl (zc (jT rfl (oR 1 rfl (oZ rfl (jS rfl (jT rfl (oR 1 rfl (oP rfl (zae (n := a.length) rfl Tryz.runUnderlying22 (by simp only [lm, lc, ln])) (oR 1 rfl (oZ rfl (jB rfl (jl3 (fun (a_ : Nat) (b_ : Value) (c_ : List RowD) => [(0, .s op), (3, dI mode), (4, .sh 1 (names.map D.s)), (14, .v (.map (some g8))), (57, .sh 2 (a.map RowD.d)), (58, dN a.length), (59, dN a_), (16, .ov b_)]) (fun a_ b_ c_ => [.sl b_ 2 53 (c_.map RowD.d), .mp g8 (zaF mode names b) (b.map RowD.d)]) (fun a_ b_ c_ => (a_ ≤ a.length) ∧ (c_ = zbM op mode names b (a.take a_)) ∧ (zaD (maF op mode names b) (a.take a_) = 0)) (fun a_ b_ c_ => a.length - a_) 0 (.slice none 0 0) [] rfl ⟨sk rfl, sk rfl, sk rfl, sk rfl, sk rfl, sk rfl, sk rfl, sc rfl (Cv.ov rfl), trivial⟩ (HSub.nil 2 53) ⟨Nat.zero_le _, rfl, rfl⟩ ?_)))))))))))))
          rintro k ov o ⟨hkl, ho, he⟩
          refine ja rfl (jn rfl ?_)
          have hol : o.length ≤ 2000 := by rw [ho]; exact Nat.le_trans (maOut_len _ _ _ _ _) (by rw [List.length_take]; omega)
          refine jT rfl (oP rfl (zL rfl rfl rfl) (oZ rfl (jS rfl ?_)))
          refine jD rfl (fun hc9 => ?_) (fun hc9 => ?_)
          · skip
            refine zq rfl (zc (jS rfl (jB rfl (jT rfl ?_))))
            obtain ⟨x1, hx1⟩ := zG a k (by omega)
            have hzz := (hza x1 (zav hx1)).1
            have hkz := hza.key (zav hx1) mode names
            have hkz1 := hkz.1
            refine oP rfl (zC (k := k) rfl rfl Tryz.runUnderlying22 Tryz.sizeOf53 (by first | rfl | omega) (zt hx1)) (oP rfl (zar (d := RowD.d x1) rfl Tryz.isAgg53 Tryz.sizeOf53 rfl rfl) (oE rfl (zaL (zv := (.agg #[(.slice none 0 0), (.int .i64 0)])) Tryz.zeroValue53 ⟨rfl, rfl, trivial⟩ (Cv.vagg (by decide))) ?_))
            rintro _ _ ⟨g10, rfl, rfl⟩
            refine oE rfl (z4 (i := 0) (X' := RowD.d x1) rfl rfl rfl (CellD.agg) Tryz.sizeOf53 rfl rfl rfl) ?_
            rintro _ _ ⟨rfl, rfl⟩
            refine on rfl (oZ rfl (jT rfl (oR 2 rfl (oP rfl (zl rfl z2 rfl) (oP rfl (zz rfl (i := 0) rfl Tryz.isAgg50 rfl) (oE rfl (zx [] _ [] rfl rfl (.cons ArgC.id (.cons ArgC.id (.cons ArgC.id .nil))) zo Tryz.call24 (zem mode names x1.ls (by omega)) (.inl rfl)) ?_))))))
            rintro _ _ ⟨_, ⟨v11, rfl, rfl⟩, rfl⟩
            refine on rfl (oR 1 rfl (oZ rfl (jS rfl ?_)))
            by_cases hg12 : zcv (keyL mode names x1.ls) ∈ (zaF mode names b)
            · skip
              refine za rfl (oR 2 rfl (oE rfl (zx [] _ [.sl v11 2 62 ((keyL mode names x1.ls).map Lbl.d)] rfl rfl (.cons (ArgC.own (j := 0) rfl rfl) .nil) (zaf (j := 0) rfl zo) Tryz.call48 (Text_c (keyL mode names x1.ls) (by omega) hkz.2) (.inr (za5 rfl))) ?_))
              rintro _ _ ⟨_, ⟨rfl, rfl⟩, rfl⟩
              refine on rfl ?_
              obtain ⟨j, q, hj, hq, hfq, hkq⟩ := findT_some (show keyT mode names x1 ∈ zaF mode names b from hg12)
              refine oP rfl (p_look_t (i := 3) (j := j) rfl rfl rfl Tryz.underlying75 Tryz.underlying9 Tryz.zeroValue53 (show (zaF mode names b).Nodup from hnn.2) hj (zt hq)) (oR 3 rfl (oE rfl (zaL (zv := (.agg #[(.slice none 0 0), (.int .i64 0)])) Tryz.zeroValue53 ⟨rfl, rfl, trivial⟩ (Cv.vagg (by decide))) ?_))
              rintro _ _ ⟨g13, rfl, rfl⟩
              refine oE rfl (z4 (i := 0) (X' := RowD.d q) rfl rfl rfl (CellD.agg) Tryz.sizeOf53 rfl rfl rfl) ?_
              rintro _ _ ⟨rfl, rfl⟩
              refine on rfl (oR 1 rfl (oZ rfl (jS rfl (jT rfl (oR 2 rfl (oZ rfl (jCf rfl (zq rfl (zc (jT rfl (oR 1 rfl (oP rfl (zl rfl zaj rfl) (oP rfl (zz rfl (i := 2) rfl Tryz.isAgg3 rfl) (oP rfl (zl rfl zaj rfl) (oP rfl (zz rfl (i := 0) rfl Tryz.isAgg3 rfl) (oW rfl rfl acs Tryz.call45 (Do_c op x1.v q.v) (oR 5 rfl (oZ rfl (jB rfl (jT rfl (oR 1 rfl (oP rfl (zau rfl rfl rfl) (oR 1 rfl (oZ rfl ?_))))))))))))))))))))))))
              refine jD rfl (fun hc14 => ?_) (fun hc14 => ?_)
              · skip
                refine jT rfl (oR 3 rfl (oZ rfl (zs rfl (zi (zi (ze (zQ (zi (ze (PD.subH (HSub.nil 2 53) (PD.norm [.sl (.slice none 0 0) 2 53 ((zp op a b mode names).map RowD.d), .bx g13 53 (RowD.d q), .sl v11 2 62 ((keyL mode names x1.ls).map Lbl.d), .bx g10 53 (RowD.d x1), .sl ov 2 53 (o.map RowD.d), .mp g8 (zaF mode names b) (b.map RowD.d)] (by have hw : [] = zp op a b mode names := (by first | exact (zcu hgood hnn hx1 he (by rw [zaA hfq]; have h := hc14; omega)).1 | exact (zcu hgood hnn hx1 he (by rw [zaA hfq]; have h := hc14; omega)).2 | (rw [← zaA hfq]; exact (zcu hgood hnn hx1 he (by rw [zaA hfq]; have h := hc14; omega)).2)); rw [show ([] : List D) = List.map RowD.d (zp op a b mode names) from congrArg (List.map RowD.d) hw]) ?_)))))))))))
                exact zj Tryz.results16 (.cons (zB (zf rfl) (Cv.ov rfl)) (.cons (zB (zf rfl) (Cv.eq (congrArg (fun n => D.v (.int .i64 n)) (by first | exact (zcu hgood hnn hx1 he (by rw [zaA hfq]; have h := hc14; omega)).1 | exact (zcu hgood hnn hx1 he (by rw [zaA hfq]; have h := hc14; omega)).2 | (rw [← zaA hfq]; exact (zcu hgood hnn hx1 he (by rw [zaA hfq]; have h := hc14; omega)).2))))) .nil)) rfl (HSub.fst 1 rfl) ⟨(.slice none 0 0), rfl, rfl⟩
              · skip
                refine jT rfl (oR 1 rfl (oW rfl rfl acs Tryz.call46 (Compares_c op) (oP rfl (zaP rfl) (oR 1 rfl (oZ rfl ?_)))))
                refine jC rfl (fun hc15 => ?_) (fun hc15 => ?_)
                · simp only [bA, bB, bC, bD, bE, bF, bG, bH, bI, bJ] at hc15
                  refine JD.mv (Mv.subH (HSub.perm (zk (i := 1) rfl))) (jn rfl ?_)
                  refine JD.mv (Mv.freeze (K' := [(0, .s op), (3, dI mode), (4, .sh 1 (names.map D.s)), (14, .v (.map (some g8))), (16, .ov ov), (18, dP g10 0), (19, .sh 2 ((keyL mode names x1.ls).map Lbl.d)), (20, dP g13 0), (21, dB true), (22, dI ((doE op x1.v q.v).1)), (23, dI ((doE op x1.v q.v).2)), (57, .sh 2 (a.map RowD.d)), (58, dN a.length), (59, dN k), (60, dB (decide (((k : Nat) : Int) < ((a.length : Nat) : Int)))), (61, .el (RowD.d x1) 0), (62, RowD.d x1), (63, dI mode), (64, .sh 1 (names.map D.s)), (65, dP g10 0), (66, .sh 2 (x1.ls.map Lbl.d)), (67, .sh 2 ((keyL mode names x1.ls).map Lbl.d)), (68, .tup [RowD.d q, dB true]), (69, .v (.map (some g8))), (70, .sh 2 ((keyL mode names x1.ls).map Lbl.d)), (71, .s (zcv (keyL mode names x1.ls))), (72, .tup [RowD.d q, dB true]), (73, RowD.d q), (74, dB true), (75, dB true), (76, dB false), (77, .tup [dI ((doE op x1.v q.v).1), dI ((doE op x1.v q.v).2)]), (78, .s op), (79, dP g10 1), (80, dI x1.v), (81, dP g13 1), (82, dI q.v), (83, .tup [dI ((doE op x1.v q.v).1), dI ((doE op x1.v q.v).2)]), (84, dI ((doE op x1.v q.v).1)), (85, dI ((doE op x1.v q.v).2)), (86, dB (decide ((doE op x1.v q.v).2 ≠ (0 : Int)))), (87, dI ((doE op x1.v q.v).2)), (88, dB (decide ((doE op x1.v q.v).2 ≠ (0 : Int)))), (90, dB (!(cmpB op))), (91, .s op), (92, dB (cmpB op)), (93, dB (!(cmpB op)))]) [.sl v11 2 62 ((keyL mode names x1.ls).map Lbl.d)] (H1 := [.bx g13 53 (RowD.d q), .bx g10 53 (RowD.d x1), .sl ov 2 53 (o.map RowD.d), .mp g8 (zaF mode names b) (b.map RowD.d)]) (H1' := [.bx g13 53 (RowD.d q), .bx g10 53 (RowD.d x1), .sl ov 2 53 (o.map RowD.d), .mp g8 (zaF mode names b) (b.map RowD.d)]) ⟨⟨_, rfl, ArgC.id⟩, ⟨_, rfl, ArgC.id⟩, ⟨_, rfl, ArgC.id⟩, ⟨_, rfl, ArgC.id⟩, ⟨_, rfl, ArgC.id⟩, ⟨_, rfl, ArgC.id⟩, ⟨_, rfl, ArgC.own (j := 0) rfl rfl⟩, ⟨_, rfl, ArgC.id⟩, ⟨_, rfl, ArgC.id⟩, ⟨_, rfl, ArgC.id⟩, ⟨_, rfl, ArgC.id⟩, ⟨_, rfl, ArgC.id⟩, ⟨_, rfl, ArgC.id⟩, ⟨_, rfl, ArgC.id⟩, ⟨_, rfl, ArgC.id⟩, ⟨_, rfl, ArgC.id⟩, ⟨_, rfl, ArgC.id⟩, ⟨_, rfl, ArgC.id⟩, ⟨_, rfl, ArgC.id⟩, ⟨_, rfl, ArgC.id⟩, ⟨_, rfl, ArgC.id⟩, ⟨_, rfl, ArgC.own (j := 0) rfl rfl⟩, ⟨_, rfl, ArgC.id⟩, ⟨_, rfl, ArgC.id⟩, ⟨_, rfl, ArgC.own (j := 0) rfl rfl⟩, ⟨_, rfl, ArgC.id⟩, ⟨_, rfl, ArgC.id⟩, ⟨_, rfl, ArgC.id⟩, ⟨_, rfl, ArgC.id⟩, ⟨_, rfl, ArgC.id⟩, ⟨_, rfl, ArgC.id⟩, ⟨_, rfl, ArgC.id⟩, ⟨_, rfl, ArgC.id⟩, ⟨_, rfl, ArgC.id⟩, ⟨_, rfl, ArgC.id⟩, ⟨_, rfl, ArgC.id⟩, ⟨_, rfl, ArgC.id⟩, ⟨_, rfl, ArgC.id⟩, ⟨_, rfl, ArgC.id⟩, ⟨_, rfl, ArgC.id⟩, ⟨_, rfl, ArgC.id⟩, ⟨_, rfl, ArgC.id⟩, ⟨_, rfl, ArgC.id⟩, ⟨_, rfl, ArgC.id⟩, ⟨_, rfl, ArgC.id⟩, ⟨_, rfl, ArgC.id⟩, ⟨_, rfl, ArgC.id⟩, trivial⟩ (.same (.same (.same (.same .nil))))) ?_
                  refine za rfl (oR 3 rfl (oP rfl (zbx [0, 1] [.tmp 95, .tmp 96] (zv := (.agg #[(.slice none 0 0), (.int .i64 0)])) rfl rfl (.cons CellD.sh (.cons (CellD.v rfl) .nil)) (Tryz.runUnderlying53) Tryz.zeroValue53 zbQ ⟨rfl, rfl, trivial⟩ rfl) (oE rfl (zJ [.tmp 97] rfl rfl (.cons CellD.agg .nil) rfl Tryz.runUnderlying22 Tryz.sizeOf53 Tryz.zeroValue53 rfl rfl rfl rfl) ?_)))
                  rintro _ _ ⟨g16, rfl, rfl⟩
                  refine oE rfl (zK (f := RowD.d) (l := o) (l' := [(RowD.mk (keyL mode names x1.ls) ((doE op x1.v q.v).1))]) (i := 3) rfl rfl rfl (SrcD.own (j := 0) rfl rfl) zao z9 rfl rfl (by unfold maxLen; (try simp only [la, lc, ln, lm, lt', ld, ls, lr]); omega) (by (try simp only [la, lc, ln, lm, lt', ld, ls, lr]); omega)) ?_
                  rintro _ _ ⟨v17, rfl, rfl⟩
                  refine on rfl (oR 1 rfl (zg rfl (zw (zw (zc (za rfl (oP rfl (zS (c := ((k + 1 : Nat) : Int)) rfl rfl (zF (by omega) (by omega))) (oR 1 rfl (zg rfl (PD.subH (HSub.perm (zk (i := 4) rfl)) (pn rfl (PD.subH (HSub.perm (zk (i := 4) rfl)) (pn rfl (PD.subH (HSub.fst 2 rfl) (pn rfl ?_)))))))))))))))
                  exact pl3 (k + 1) v17 (o ++ [(RowD.mk (keyL mode names x1.ls) ((doE op x1.v q.v).1))]) (sa rfl) HSub.rfl' ⟨by show k + 1 ≤ a.length; omega, by rw [maOut_add (y := (RowD.mk (keyL mode names x1.ls) ((doE op x1.v q.v).1))) hx1 (maOne_op hfq hc15), ← ho], zak hx1 he (by rw [zaA hfq]; have h := hc14; omega)⟩ (by omega)
                · simp only [bA, bB, bC, bD, bE, bF, bG, bH, bI, bJ] at hc15
                  refine jT rfl (oR 1 rfl (oP rfl (zV rfl rfl rfl) (oR 1 rfl (oZ rfl ?_))))
                  refine jD rfl (fun hc18 => ?_) (fun hc18 => ?_)
                  · skip
                    refine za rfl (oR 1 rfl (oP rfl (za0 (d := RowD.d x1) rfl (i := 2) rfl Tryz.isAgg53 Tryz.sizeOf53 rfl rfl) (oE rfl (zJ [.tmp 104] rfl rfl (.cons CellD.agg .nil) rfl Tryz.runUnderlying22 Tryz.sizeOf53 Tryz.zeroValue53 rfl rfl rfl rfl) ?_)))
                    rintro _ _ ⟨g19, rfl, rfl⟩
                    refine oE rfl (zK (f := RowD.d) (l := o) (l' := [x1]) (i := 4) rfl rfl rfl (SrcD.own (j := 0) rfl rfl) zao z9 rfl rfl (by unfold maxLen; (try simp only [la, lc, ln, lm, lt', ld, ls, lr]); omega) (by (try simp only [la, lc, ln, lm, lt', ld, ls, lr]); omega)) ?_
                    rintro _ _ ⟨v20, rfl, rfl⟩
                    refine on rfl (oR 1 rfl (zg rfl (zw (zw (zc (za rfl (oP rfl (zS (c := ((k + 1 : Nat) : Int)) rfl rfl (zF (by omega) (by omega))) (oR 1 rfl (zg rfl (PD.subH (HSub.perm (zk (i := 5) rfl)) (pn rfl (PD.subH (HSub.perm (zk (i := 5) rfl)) (pn rfl (PD.subH (HSub.fst 2 rfl) (pn rfl ?_)))))))))))))))
                    exact pl3 (k + 1) v20 (o ++ [x1]) (sa rfl) HSub.rfl' ⟨by show k + 1 ≤ a.length; omega, by rw [maOut_add (y := x1) hx1 (maOne_cmp hfq hc15 hc18), ← ho], zak hx1 he (by rw [zaA hfq]; have h := hc14; omega)⟩ (by omega)
                  · skip
                    refine zq rfl (zw (zw (zc (za rfl (oP rfl (zS (c := ((k + 1 : Nat) : Int)) rfl rfl (zF (by omega) (by omega))) (oR 1 rfl (zg rfl (PD.subH (HSub.perm (zk (i := 4) rfl)) (pn rfl (PD.subH (HSub.perm (zk (i := 4) rfl)) (pn rfl (PD.subH (HSub.fst 2 rfl) (pn rfl ?_)))))))))))))
                    exact pl3 (k + 1) ov o (sa rfl) HSub.rfl' ⟨by show k + 1 ≤ a.length; omega, by rw [maOut_not hx1 (maOne_no hfq hc15 hc18), ← ho], zak hx1 he (by rw [zaA hfq]; have h := hc14; omega)⟩ (by omega)
            · skip
              refine za rfl (oR 2 rfl (oE rfl (zx [] _ [.sl v11 2 62 ((keyL mode names x1.ls).map Lbl.d)] rfl rfl (.cons (ArgC.own (j := 0) rfl rfl) .nil) (zaf (j := 0) rfl zo) Tryz.call48 (Text_c (keyL mode names x1.ls) (by omega) hkz.2) (.inr (za5 rfl))) ?_))
              rintro _ _ ⟨_, ⟨rfl, rfl⟩, rfl⟩
              refine on rfl (oP rfl (p_look_f (i := 3) rfl rfl rfl Tryz.underlying75 Tryz.underlying9 Tryz.zeroValue53 (Cv.vagg (by decide)) hg12) (oR 3 rfl (oE rfl (zaL (zv := (.agg #[(.slice none 0 0), (.int .i64 0)])) Tryz.zeroValue53 ⟨rfl, rfl, trivial⟩ (Cv.vagg (by decide))) ?_)))
              rintro _ _ ⟨g21, rfl, rfl⟩
              refine oE rfl (z4 (i := 0) (X' := .agg [dZ, dI 0]) rfl rfl rfl (CellD.agg) Tryz.sizeOf53 rfl rfl rfl) ?_
              rintro _ _ ⟨rfl, rfl⟩
              refine on rfl (oR 1 rfl (oZ rfl (jS rfl (jT rfl (oR 2 rfl (oZ rfl (jCt rfl (zE rfl (zr (zh (zc (za rfl (oP rfl (zS (c := ((k + 1 : Nat) : Int)) rfl rfl (zF (by omega) (by omega))) (oR 1 rfl (zg rfl (PD.subH (HSub.perm (zk (i := 4) rfl)) (pn rfl (PD.subH (HSub.perm (zk (i := 4) rfl)) (pn rfl (PD.subH (HSub.fst 2 rfl) (pn rfl ?_)))))))))))))))))))))
              exact pl3 (k + 1) ov o (sa rfl) HSub.rfl' ⟨by show k + 1 ≤ a.length; omega, by rw [maOut_not hx1 (maF_none hg12).2, ← ho], zak hx1 he (by rw [(maF_none hg12).1])⟩ (by omega)
          · skip
            refine zE rfl (zr (zn (zh (zc (jS rfl (JD.mv (Mv.freeze (K' := [(0, .s op), (3, dI mode), (4, .sh 1 (names.map D.s)), (14, .v (.map (some g8))), (16, .sh 2 (o.map RowD.d)), (57, .sh 2 (a.map RowD.d)), (58, dN a.length), (59, dN k), (60, dB (decide (((k : Nat) : Int) < ((a.length : Nat) : Int))))]) [.sl ov 2 53 (o.map RowD.d)] (H1 := [.mp g8 (zaF mode names b) (b.map RowD.d)]) (H1' := [.mp g8 (zaF mode names b) (b.map RowD.d)]) ⟨⟨_, rfl, ArgC.id⟩, ⟨_, rfl, ArgC.id⟩, ⟨_, rfl, ArgC.id⟩, ⟨_, rfl, ArgC.id⟩, ⟨_, rfl, ArgC.own (j := 0) rfl rfl⟩, ⟨_, rfl, ArgC.id⟩, ⟨_, rfl, ArgC.id⟩, ⟨_, rfl, ArgC.id⟩, ⟨_, rfl, ArgC.id⟩, trivial⟩ (.same .nil)) (za rfl (oR 1 rfl (oE rfl (zx [] _ [] rfl rfl (.cons ArgC.id .nil) zo Tryz.call14 (vTidy_c o) (.inl rfl)) ?_)))))))))
            rintro _ _ ⟨_, ⟨v22, rfl, rfl⟩, rfl⟩
            refine on rfl (oR 4 rfl (oZ rfl (jk [10, 11] rfl (zs rfl (PD.norm [.sl v22 2 53 ((zp op a b mode names).map RowD.d), .mp g8 (zaF mode names b) (b.map RowD.d)] (by have hw : rtL o = zp op a b mode names := (by first | (rw [ho]; exact (zeu hgood hnn he (by omega)).1) | (rw [ho]; exact (zeu hgood hnn he (by omega)).2)); rw [hw]) ?_)))))
            exact zj Tryz.results16 (.cons (zf rfl) (.cons (zB (zf rfl) (Cv.eq (congrArg (fun n => D.v (.int .i64 n)) (by first | (rw [ho]; exact (zeu hgood hnn he (by omega)).1) | (rw [ho]; exact (zeu hgood hnn he (by omega)).2))))) .nil)) rfl (HSub.fst 1 rfl) ⟨v22, rfl, rfl⟩
        · skip
          refine za rfl (oR 3 rfl (oE rfl (zx [] [.mp g6 (zaF mode names a) (a.map RowD.d)] [] rfl rfl (.cons ArgC.id (.cons ArgC.id (.cons ArgC.id .nil))) zo Tryz.call47 (keyed_f b mode names (by omega) hzb hg7) (.inl rfl)) ?_))
          rintro _ _ ⟨_, ⟨rfl, rfl⟩, rfl⟩
          refine on rfl (oR 5 rfl (oZ rfl (jS rfl (jT rfl (oR 6 rfl (oZ rfl (jk [0, 1, 3, 4, 10, 11, 14, 56] rfl (jCt rfl (jT rfl (oR 2 rfl (oZ rfl (zs rfl (ze (PD.subH (HSub.nil 2 53) (PD.norm [.sl (.slice none 0 0) 2 53 ((zp op a b mode names).map RowD.d), .mp g6 (zaF mode names a) (a.map RowD.d)] (by have hw : [] = zp op a b mode names := (by first | exact (zaE hgood (fun h => hg7 h.2)).1 | exact (zaE hgood (fun h => hg7 h.2)).2 | (rw [← zaA hfq]; exact (zaE hgood (fun h => hg7 h.2)).2)); rw [show ([] : List D) = List.map RowD.d (zp op a b mode names) from congrArg (List.map RowD.d) hw]) ?_)))))))))))))))
          exact zj Tryz.results16 (.cons (zB (zf rfl) (Cv.ov rfl)) (.cons (zB (zf rfl) (Cv.eq (congrArg (fun n => D.v (.int .i64 n)) (by first | exact (zaE hgood (fun h => hg7 h.2)).1 | exact (zaE hgood (fun h => hg7 h.2)).2 | (rw [← zaA hfq]; exact (zaE hgood (fun h => hg7 h.2)).2))))) .nil)) rfl (HSub.fst 1 rfl) ⟨(.slice none 0 0), rfl, rfl⟩
      · skip
        refine za rfl (oR 3 rfl (oE rfl (zx [] [] [] rfl rfl (.cons ArgC.id (.cons ArgC.id (.cons ArgC.id .nil))) zo Tryz.call47 (keyed_f a mode names (by omega) hza hg5) (.inl rfl)) ?_))
        rintro _ _ ⟨_, ⟨rfl, rfl⟩, rfl⟩
        refine on rfl (oR 5 rfl (oZ rfl (jk [0, 1, 2, 3, 4, 10, 11, 13] rfl (jS rfl ?_))))
        by_cases hg23 : ndT mode names b
        · skip
          refine za rfl (oR 3 rfl (oE rfl (zx [] [] [] rfl rfl (.cons ArgC.id (.cons ArgC.id (.cons ArgC.id .nil))) zo Tryz.call47 (keyed_t b mode names (by omega) hzb hg23) (.inl rfl)) ?_))
          rintro _ _ ⟨_, ⟨g24, rfl, rfl⟩, rfl⟩
          refine on rfl (oR 5 rfl (oZ rfl (jS rfl (jT rfl (oR 6 rfl (oZ rfl (jk [0, 1, 3, 4, 10, 11, 14, 56] rfl (jCt rfl (jT rfl (oR 2 rfl (oZ rfl (zs rfl (ze (PD.subH (HSub.nil 2 53) (PD.norm [.sl (.slice none 0 0) 2 53 ((zp op a b mode names).map RowD.d), .mp g24 (zaF mode names b) (b.map RowD.d)] (by have hw : [] = zp op a b mode names := (by first | exact (zaE hgood (fun h => hg5 h.1)).1 | exact (zaE hgood (fun h => hg5 h.1)).2 | (rw [← zaA hfq]; exact (zaE hgood (fun h => hg5 h.1)).2)); rw [show ([] : List D) = List.map RowD.d (zp op a b mode names) from congrArg (List.map RowD.d) hw]) ?_)))))))))))))))
          exact zj Tryz.results16 (.cons (zB (zf rfl) (Cv.ov rfl)) (.cons (zB (zf rfl) (Cv.eq (congrArg (fun n => D.v (.int .i64 n)) (by first | exact (zaE hgood (fun h => hg5 h.1)).1 | exact (zaE hgood (fun h => hg5 h.1)).2 | (rw [← zaA hfq]; exact (zaE hgood (fun h => hg5 h.1)).2))))) .nil)) rfl (HSub.fst 1 rfl) ⟨(.slice none 0 0), rfl, rfl⟩
        · skip
          refine za rfl (oR 3 rfl (oE rfl (zx [] [] [] rfl rfl (.cons ArgC.id (.cons ArgC.id (.cons ArgC.id .nil))) zo Tryz.call47 (keyed_f b mode names (by omega) hzb hg23) (.inl rfl)) ?_))
          rintro _ _ ⟨_, ⟨rfl, rfl⟩, rfl⟩
          refine on rfl (oR 5 rfl (oZ rfl (jS rfl (jT rfl (oR 6 rfl (oZ rfl (jk [0, 1, 3, 4, 10, 11, 14, 56] rfl (jCt rfl (jT rfl (oR 2 rfl (oZ rfl (zs rfl (ze (PD.subH (HSub.nil 2 53) (PD.norm [.sl (.slice none 0 0) 2 53 ((zp op a b mode names).map RowD.d)] (by have hw : [] = zp op a b mode names := (by first | exact (zaE hgood (fun h => hg5 h.1)).1 | exact (zaE hgood (fun h => hg5 h.1)).2 | (rw [← zaA hfq]; exact (zaE hgood (fun h => hg5 h.1)).2)); rw [show ([] : List D) = List.map RowD.d (zp op a b mode names) from congrArg (List.map RowD.d) hw]) ?_)))))))))))))))
          exact zj Tryz.results16 (.cons (zB (zf rfl) (Cv.ov rfl)) (.cons (zB (zf rfl) (Cv.eq (congrArg (fun n => D.v (.int .i64 n)) (by first | exact (zaE hgood (fun h => hg5 h.1)).1 | exact (zaE hgood (fun h => hg5 h.1)).2 | (rw [← zaA hfq]; exact (zaE hgood (fun h => hg5 h.1)).2))))) .nil)) rfl (HSub.fst 1 rfl) ⟨(.slice none 0 0), rfl, rfl⟩
end Lp
