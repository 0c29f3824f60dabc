/- Walks, printed by a program of mine. -/
import Derived.ProofKit
import Derived.OpenShut
import Derived.Stop.Joined
import Derived.Test.YtfjinapgehafiaaV8
set_option linter.unusedSimpArgs false
set_option linter.unusedVariables false
namespace Lp
open Go Go.RowKit Go.Proofs

namespace HdYtfjinapgehafiaaV9
theorem zav (b o : Nat) : ∀ w, (Instr.fieldAt 33 (.pointer (some ⟨b, o, none⟩)) 0).run Try.prog w = .ok (.pointer (some ⟨b, o + 0, none⟩)) w := fun _ => by kernel_rfl
theorem zaZ (b o : Nat) : ∀ w, (Instr.fieldAt 33 (.pointer (some ⟨b, o, none⟩)) 1).run Try.prog w = .ok (.pointer (some ⟨b, o + 1, none⟩)) w := fun _ => by kernel_rfl
theorem infz_9 : ∃ i, Try.prog.info? 9 = some i ∧ i.zero = some (.string ByteArray.empty) ∧ i.size = 1 ∧ i.bytes = 16 := zbG (by kernel_rfl)
theorem und_23 : Try.prog.underlying 23 = some (.slice 9) := by kernel_rfl
end HdYtfjinapgehafiaaV9
open HdYtfjinapgehafiaaV9

set_option maxHeartbeats 4000000 in
set_option maxRecDepth 100000 in
theorem Text_c (l : List Lbl) (hl : l.length ≤ 1000) (hz : ∀ x ∈ l, x.n.size ≤ 100000 ∧ x.v.size ≤ 100000) :
    CD Try.prog 27 [] [.sh 2 (l.map Lbl.d)] (isR (D.s (zbS l))) := by
  refine zL Try.func27 rfl (N := 27) rfl rfl (fun C => ?_)
  refine JD.keep [0] [(0, .sh 2 (l.map Lbl.d))] rfl ?_
  refine JD.bd 0 rfl (fun bd0 => ?_)
  have nl0 := zae bd0
  refine zh _ _ rfl rfl rfl (zc rfl (za rfl rfl (ze rfl) (zg rfl (zf (zh _ _ rfl rfl rfl (zc rfl (za rfl rfl (ze rfl) (zg rfl (zf (zh _ _ rfl rfl rfl (zh _ _ rfl rfl rfl (zc rfl (za rfl rfl (zb rfl) (za rfl rfl (zar (n := l.length) rfl Try.runUnderlying27 (by simp only [lm, lc, ln])) (za rfl rfl (zb rfl) (zg rfl (zf (zy _ rfl rfl (z7 (fun (g : Nat × Value × List ByteArray) => [(2, .v (.string ByteArray.empty)), (6, .sh 2 (l.map Lbl.d)), (7, dN l.length), (8, dN g.1), (3, .ov g.2.1)]) (fun (g : Nat × Value × List ByteArray) => [.sl g.2.1 1 9 (g.2.2.map D.s)]) (fun (g : Nat × Value × List ByteArray) => (g.2.2 = (l.take g.1).map zcY) ∧ (g.2.2.length ≤ g.1) ∧ (g.1 ≤ l.length)) (fun (g : Nat × Value × List ByteArray) => l.length - g.1) _ (0, .slice none 0 0, []) rfl rfl ⟨sk rfl, sk rfl, sk rfl, sk rfl, sc rfl (Cv.ov rfl), trivial⟩ (HSub.nil 1 9) ⟨rfl, Nat.le_refl _, Nat.zero_le _⟩ ?_)))))))))))))))))))
  rintro ⟨k, ov, o⟩ ⟨ho, hol, hkl⟩
  replace ho : o = (l.take k).map zcY := ho
  replace hol : o.length ≤ k := hol
  replace hkl : k ≤ l.length := hkl
  refine JD.keep [2, 6, 7, 8, 3] [(2, .v (.string ByteArray.empty)), (6, .sh 2 (l.map Lbl.d)), (7, dN l.length), (8, dN k), (3, .ov ov)] rfl (JD.norm [.sl ov 1 9 (o.map D.s)] rfl ?_)
  have hsk := sumSz_parts hl hz k; rw [← ho] at hsk
  refine zh _ _ rfl rfl rfl (zc rfl (za rfl rfl (zaa rfl rfl rfl) (zg rfl (zf (zh _ _ rfl rfl rfl ?_)))))
  refine zu _ _ rfl rfl rfl rfl (fun hc1 => ?_) (fun hc1 => ?_)
  · replace hc1 := of_decide_eq_true hc1
    refine zz rfl (zf (zh _ _ rfl rfl rfl (zy _ rfl rfl (zh _ _ rfl rfl rfl (zc rfl ?_)))))
    obtain ⟨x1, hx1⟩ := zV l k (by omega)
    have hzk := hz x1 (List.mem_of_getElem? hx1)
    have hqk := quoteB_size x1.v
    refine za rfl rfl (zJ (k := k) rfl rfl Try.runUnderlying27 Try.sizeOf33 (by first | rfl | omega) (zw hx1)) (za rfl rfl (zaL (d := Lbl.d x1) rfl Try.isAgg33 Try.sizeOf33 rfl rfl) (zl rfl rfl (zaN (zv := (.agg #[(.string ByteArray.empty), (.string ByteArray.empty)])) Try.zeroValue33 ⟨rfl, rfl, trivial⟩ (Cv.vagg (by decide))) ?_))
    rintro _ _ ⟨g2, rfl, rfl⟩
    refine zl rfl rfl (zab (i := 0) (X' := Lbl.d x1) rfl rfl rfl (CellD.agg) Try.sizeOf33 rfl rfl rfl) ?_
    rintro _ _ ⟨rfl, rfl⟩
    refine OpsD.norm [.bx g2 33 (Lbl.d x1), .sl ov 1 9 (o.map D.s)] rfl (zg rfl (zf (JD.keep [2, 3, 5, 6, 7, 8, 9, 10, 11] [(2, .v (.string ByteArray.empty)), (3, .ov ov), (5, dP g2 0), (6, .sh 2 (l.map Lbl.d)), (7, dN l.length), (8, dN k), (9, dB (decide (((k : Nat) : Int) < ((l.length : Nat) : Int)))), (10, .el (Lbl.d x1) 0), (11, Lbl.d x1)] rfl (JD.norm [.bx g2 33 (Lbl.d x1), .sl ov 1 9 (o.map D.s)] rfl ?_))))
    refine zai 9 [(12, .ov ov, none), (13, dP g2 0, none), (14, .s x1.n, none), (15, .s (x1.n ++ (⟨#[61]⟩ : ByteArray)), none), (16, dP g2 1, none), (17, .s x1.v, none), (18, .s (zca x1.v), none), (19, .s ((x1.n ++ (⟨#[61]⟩ : ByteArray)) ++ (zca x1.v)), none), (20, .sh 1 ([((x1.n ++ (⟨#[61]⟩ : ByteArray)) ++ (zca x1.v))].map D.s), none)] [.bx g2 33 (Lbl.d x1), .sl ov 1 9 (o.map D.s)] (Hn := [.bx g2 33 (Lbl.d x1), .sl ov 1 9 (o.map D.s)]) zaz rfl rfl rfl rfl HSub.rfl' rfl ⟨sa_p rfl rfl rfl (zb rfl), sa_p rfl rfl rfl (zA rfl zav rfl), sa_p rfl rfl rfl (zR rfl (i := 0) rfl Try.isAgg9 rfl), sa_p rfl rfl rfl (p_cat rfl rfl (by unfold maxLen; (try simp only [ByteArray.size_append]); (try simp only [ByteArray.size_append]); have e1 : (⟨#[61]⟩ : ByteArray).size = 1 := rfl; have e2 : (⟨#[123]⟩ : ByteArray).size = 1 := rfl; have e3 : (⟨#[125]⟩ : ByteArray).size = 1 := rfl; (try have := joinB_size (sep := ⟨#[44]⟩) rfl o); omega)), sa_p rfl rfl rfl (zA rfl zaZ rfl), sa_p rfl rfl rfl (zR rfl (i := 0) rfl Try.isAgg9 rfl), sa_q rfl rfl rfl (zb0 rfl (.cons Cv.rfl' .nil) Try.call38 (Quote_c x1.v (by omega)) zbx), sa_p rfl rfl rfl (p_cat rfl rfl (by unfold maxLen; (try simp only [ByteArray.size_append]); (try simp only [ByteArray.size_append]); have e1 : (⟨#[61]⟩ : ByteArray).size = 1 := rfl; have e2 : (⟨#[123]⟩ : ByteArray).size = 1 := rfl; have e3 : (⟨#[125]⟩ : ByteArray).size = 1 := rfl; (try have := joinB_size (sep := ⟨#[44]⟩) rfl o); omega)), sa_q rfl rfl rfl (zaY [.tmp 19] rfl rfl (.cons CellD.s .nil) rfl Try.runUnderlying23 Try.sizeOf9 Try.zeroValue9 rfl rfl rfl rfl), trivial⟩ ?_
    refine OpsD.keep [2, 3, 5, 6, 7, 8, 9, 10, 11, 12, 13, 14, 15, 16, 17, 18, 19, 20] [(2, .v (.string ByteArray.empty)), (3, .ov ov), (5, dP g2 0), (6, .sh 2 (l.map Lbl.d)), (7, dN l.length), (8, dN k), (9, dB (decide (((k : Nat) : Int) < ((l.length : Nat) : Int)))), (10, .el (Lbl.d x1) 0), (11, Lbl.d x1), (12, .ov ov), (13, dP g2 0), (14, .s x1.n), (15, .s (x1.n ++ (⟨#[61]⟩ : ByteArray))), (16, dP g2 1), (17, .s x1.v), (18, .s (zca x1.v)), (19, .s ((x1.n ++ (⟨#[61]⟩ : ByteArray)) ++ (zca x1.v))), (20, .sh 1 ([((x1.n ++ (⟨#[61]⟩ : ByteArray)) ++ (zca x1.v))].map D.s))] rfl (zl rfl rfl (z4 (f := D.s) (l := o) (l' := [((x1.n ++ (⟨#[61]⟩ : ByteArray)) ++ (zca x1.v))]) (i := 1) rfl rfl rfl (SrcD.sh) und_23 infz_9 rfl rfl (by unfold maxLen; (try simp only [la, lc, ln, lm, lt', ld, ls, lr]); omega) (by (try simp only [la, lc, ln, lm, lt', ld, ls, lr]); omega)) ?_)
    rintro _ _ ⟨v3, rfl, rfl⟩
    refine OpsD.norm [.bx g2 33 (Lbl.d x1), .sl v3 1 9 ((o ++ [((x1.n ++ (⟨#[61]⟩ : ByteArray)) ++ (zca x1.v))]).map D.s)] rfl (za rfl rfl (ze rfl) (zg rfl (zD (zf (zc rfl (za rfl rfl (z8 (c := ((k + 1 : Nat) : Int)) rfl rfl (zT (by omega) (by omega))) (za rfl rfl (zb rfl) (zg rfl ?_))))))))
    exact zS (k + 1, v3, (o ++ [((x1.n ++ (⟨#[61]⟩ : ByteArray)) ++ (zca x1.v))])) ⟨sk rfl, sk rfl, sk rfl, sk rfl, sk rfl, trivial⟩ (HSub.lst 1 rfl) ⟨by rw [zak hx1, List.map_append, ho]; rfl, by rw [List.length_append, List.length_singleton]; omega, by omega⟩ (by omega)
  · replace hc1 := of_decide_eq_false hc1
    refine z3 rfl (zK (zI (zE (zf (zh _ _ rfl rfl rfl (zc rfl (za rfl rfl (zb rfl) (zl rfl rfl (zt [] _ [.sl ov 1 9 (o.map D.s)] rfl rfl (.cons (ArgC.own (j := 0) rfl rfl) (.cons (ArgC.cv (Cv.str (by first | decide | (unfold maxLen; omega)))) .nil)) (za3 (j := 0) rfl zo) Try.call39 (Join_c o (⟨#[44]⟩ : ByteArray) (by omega) (by omega) (by first | decide | omega) (by first | decide | omega)) (.inr (zbK rfl))) ?_))))))))
    rintro _ _ ⟨_, ⟨rfl, rfl⟩, rfl⟩
    refine OpsD.norm [.sl ov 1 9 (o.map D.s)] rfl (za rfl rfl (p_cat rfl rfl (by unfold maxLen; (try simp only [ByteArray.size_append]); (try simp only [ByteArray.size_append]); have e1 : (⟨#[61]⟩ : ByteArray).size = 1 := rfl; have e2 : (⟨#[123]⟩ : ByteArray).size = 1 := rfl; have e3 : (⟨#[125]⟩ : ByteArray).size = 1 := rfl; (try have := joinB_size (sep := ⟨#[44]⟩) rfl o); omega)) (za rfl rfl (p_cat rfl rfl (by unfold maxLen; (try simp only [ByteArray.size_append]); (try simp only [ByteArray.size_append]); have e1 : (⟨#[61]⟩ : ByteArray).size = 1 := rfl; have e2 : (⟨#[123]⟩ : ByteArray).size = 1 := rfl; have e3 : (⟨#[125]⟩ : ByteArray).size = 1 := rfl; (try have := joinB_size (sep := ⟨#[44]⟩) rfl o); omega)) (za rfl rfl (ze rfl) (zg rfl (zf (JD.keep [2] [(2, .s (((⟨#[123]⟩ : ByteArray) ++ (zdM (⟨#[44]⟩ : ByteArray) o)) ++ (⟨#[125]⟩ : ByteArray)))] rfl (zB rfl ?_)))))))
    exact zx Try.results27 (.cons (zM (zs rfl) (Cv.eq (congrArg D.s (by rw [ho, List.take_of_length_le (by omega)]; rfl)))) .nil) rfl HSub.none ⟨rfl, rfl⟩
end Lp
/-
  Maps with texts as keys: what is looked up, what is stored.
-/
set_option linter.unusedVariables false
namespace Lp
open Go Go.RowKit
variable {P : Program} {w : World} {t kt et : TypeId} {r clock : Nat} {es : Array MapEntry} {k : ByteArray}
theorem run_find (hk : P.underlying kt = some .string) (hs : ∀ x ∈ es.toList, ∃ b, x.key = .string b) :
    ((Instr.findKey kt (.string k) es.toList).run P w = .ok none w ∧ ∀ x ∈ es.toList, x.key ≠ .string k) ∨
    ∃ (j : Nat) (e : MapEntry), (Instr.findKey kt (.string k) es.toList).run P w = .ok (some (j, e.val)) w ∧ es.toList[j]? = some e ∧ e.key = .string k := by
  rcases MapKept.findNow_spec (d := .string) (k := .string k) trivial es.toList 0 (fun x hx => by obtain ⟨b, e⟩ := hs x hx; rw [e]; trivial) with ⟨h1, h2⟩ | ⟨j, e, h1, h2, h3⟩
  · exact .inl ⟨MapKept.run_findKey hk h1, h2⟩
  · rw [Nat.zero_add] at h1
    exact .inr ⟨j, e, MapKept.run_findKey hk h1, h2, h3⟩
/-- a look-up -/
theorem run_look {z : Value} (ht : P.underlying t = some (.map kt et)) (hk : P.underlying kt = some .string) (hz : (zeroValue et).run P w = .ok z w) (hr : w.heap[r]? = some (.map es clock)) (hs : ∀ x ∈ es.toList, ∃ b, x.key = .string b) :
    ((Instr.lookup t (.map (some r)) (.string k) true).run P w = .ok (.tuple #[z, .bool false]) w ∧ ∀ x ∈ es.toList, x.key ≠ .string k) ∨
    ∃ (j : Nat) (e : MapEntry), (Instr.lookup t (.map (some r)) (.string k) true).run P w = .ok (.tuple #[e.val, .bool true]) w ∧ es.toList[j]? = some e ∧ e.key = .string k := by
  have hc : ∀ b, (Instr.checkKey b 10000 kt (.string k)).run P w = .ok () w := fun b => MapKept.run_checkKey (k := .string k) hk trivial b 9999
  rcases run_find (w := w) (k := k) hk hs with ⟨h1, h2⟩ | ⟨j, e, h1, h2, h3⟩
  · refine .inl ⟨?_, h2⟩
    unfold Instr.lookup
    simp [run_underlying ht, run_getObj_map _ _ _ _ hr, hc, h1, hz]
  · refine .inr ⟨j, e, ?_, h2, h3⟩
    unfold Instr.lookup
    simp [run_underlying ht, run_getObj_map _ _ _ _ hr, hc, h1]
/-- what is stored under a key that there is not -/
theorem run_put {v : Value} (ht : P.underlying t = some (.map kt et)) (hk : P.underlying kt = some .string) (hr : w.heap[r]? = some (.map es clock)) (hs : ∀ x ∈ es.toList, ∃ b, x.key = .string b) (hn : ∀ x ∈ es.toList, x.key ≠ .string k) :
    (Instr.mapUpdate t (.map (some r)) (.string k) v).run P w = .ok () { w with heap := w.heap.setIfInBounds r (.map (es.push ⟨.string k, v, clock⟩) (clock + 1)) } := by
  have hc : ∀ b, (Instr.checkKey b 10000 kt (.string k)).run P w = .ok () w := fun b => MapKept.run_checkKey (k := .string k) hk trivial b 9999
  rcases run_find (w := w) (k := k) hk hs with ⟨h1, h2⟩ | ⟨j, e, h1, h2, h3⟩
  · unfold Instr.mapUpdate
    simp [run_underlying ht, run_getObj_map _ _ _ _ hr, hc, h1, MapKept.run_setObj_map _ hr]
  · exact absurd h3 (hn e (List.mem_of_getElem? h2))
end Lp
/-
  Maps of the call's own, with texts as keys, over data.
-/
set_option linter.unusedVariables false
namespace Lp
open Go Go.RowKit
variable {P : Program} {ty : TypeId} {K : Kd} {H : List Hp}
theorem ef_makeMap {t : TypeId} : Ef P (.makeMap t none) ty K H (fun d H' => ∃ g, d = .v (.map (some g)) ∧ H' = .mp g [] [] :: H) :=
  ⟨fun C ρ w F hk gd => by
    refine EOp.of_run (v := .map (some w.heap.size)) (w' := w.alloc (.map #[] 0)) ?_ ?_
    · have h := zbU (run_makeMap (P := P) t w)
      simpa [execOp, zas] using h
    have E := Ext.alloc w (.map #[] 0)
    have g' := gd.ext E
    refine ⟨F, _, _, ⟨w.heap.size, rfl, rfl⟩, rfl, g'.more ⟨#[], 0, [], heap_alloc_new w _, rfl, rfl, rfl⟩ (fun b hb => ?_), Keep.ext E⟩
    cases hb
    exact ⟨gd.size, fun hF => by have := gd.flt _ hF; omega, fun hB => by have := zdE gd.h hB; omega⟩⟩
theorem mp_keys {es : Array MapEntry} {ks : List ByteArray} (h : es.toList.map (·.key) = ks.map Value.string) : ∀ x ∈ es.toList, ∃ b, x.key = .string b := fun x hx => by
  have : x.key ∈ ks.map Value.string := by rw [← h]; exact List.mem_map_of_mem hx
  obtain ⟨b, _, e⟩ := List.mem_map.1 this
  exact ⟨b, e.symm⟩
theorem repA_at {w : World} {F : Nat → Prop} : ∀ {xs : List D} {us : List Value} {j : Nat} {u : Value}, D.repA w F xs us → us[j]? = some u → ∃ x, xs[j]? = some x ∧ D.rep w F x u
  | [], _, j, u, rfl, h => by simp at h
  | x :: r, _, 0, u, ⟨v, vs, rfl, h1, h2⟩, h => by simp at h; subst h; exact ⟨x, rfl, h1⟩
  | x :: r, _, j + 1, u, ⟨v, vs, rfl, h1, h2⟩, h => by
    have := repA_at (j := j) h2 (by simpa using h)
    simpa using this
theorem repA_snoc {w : World} {F : Nat → Prop} : ∀ {xs : List D} {us : List Value} {x : D} {u : Value}, D.repA w F xs us → D.rep w F x u → D.repA w F (xs ++ [x]) (us ++ [u])
  | [], _, x, u, rfl, h => ⟨u, [], rfl, h, rfl⟩
  | y :: r, _, x, u, ⟨v, vs, rfl, h1, h2⟩, h => ⟨v, vs ++ [u], rfl, h1, repA_snoc h2 h⟩
/-- a key that there is not -/
theorem p_look_f {t kt et : TypeId} {x y : Operand} {g i : Nat} {ks : List ByteArray} {xs : List D} {k : ByteArray} {z : Value} {zd : D} (hx : opD K x = some (.v (.map (some g)))) (hy : opS K y = some k) (hm : nth H i = some (.mp g ks xs))
    (ht : P.underlying t = some (.map kt et)) (hkt : P.underlying kt = some .string) (hz : ∀ w, (zeroValue et).run P w = .ok z w) (hzd : Cv (.v z) zd) (hn : k ∉ ks) : Pu P (.lookup t x y true) ty K H (.tup [zd, .v (.bool false)]) :=
  ⟨fun ρ w F hk _ hH => by
    obtain ⟨es, c, us, h, h1, h2, h3⟩ := hH _ (zaf hm)
    have e1 : ev ρ x = .map (some g) := hk.op hx
    have e2 := hk.opS hy
    rcases run_look (k := k) ht hkt (hz w) h (mp_keys h1) with ⟨hr, _⟩ | ⟨j, e, hr, hj, he⟩
    · refine EOp.of_run (v := .tuple #[z, .bool false]) (w' := w) ?_ ⟨rfl, [z, .bool false], rfl, _, _, rfl, hzd.out _ _ _ rfl, _, _, rfl, rfl, rfl⟩
      have hv := zbU hr
      simpa [execOp, zas, e1, e2] using hv
    · exfalso
      have : Value.string k ∈ ks.map Value.string := by rw [← h1, ← he]; exact List.mem_map_of_mem (List.mem_of_getElem? hj)
      obtain ⟨b, hb, e'⟩ := List.mem_map.1 this
      injection e' with e'
      exact hn (e' ▸ hb)⟩
/-- a key that there is: keys are there once -/
theorem p_look_t {t kt et : TypeId} {x y : Operand} {g i j : Nat} {ks : List ByteArray} {xs : List D} {k : ByteArray} {z : Value} {d : D} (hx : opD K x = some (.v (.map (some g)))) (hy : opS K y = some k) (hm : nth H i = some (.mp g ks xs))
    (ht : P.underlying t = some (.map kt et)) (hkt : P.underlying kt = some .string) (hz : ∀ w, (zeroValue et).run P w = .ok z w) (hnd : ks.Nodup) (hj : ks[j]? = some k) (hd : xs[j]? = some d) : Pu P (.lookup t x y true) ty K H (.tup [d, .v (.bool true)]) :=
  ⟨fun ρ w F hk _ hH => by
    obtain ⟨es, c, us, h, h1, h2, h3⟩ := hH _ (zaf hm)
    have e1 : ev ρ x = .map (some g) := hk.op hx
    have e2 := hk.opS hy
    have hkey : ∀ m e, es.toList[m]? = some e → e.key = .string k → m = j := fun m e hm he => by
      have h5 : (es.toList.map (·.key))[m]? = some (.string k) := by rw [List.getElem?_map, hm]; exact congrArg some he
      rw [h1, List.getElem?_map] at h5
      cases h6 : ks[m]? with
      | none => rw [h6] at h5; cases h5
      | some b =>
        rw [h6] at h5; injection h5 with h5; injection h5 with h5; subst h5
        obtain ⟨p1, q1⟩ := List.getElem?_eq_some_iff.1 h6
        obtain ⟨p2, q2⟩ := List.getElem?_eq_some_iff.1 hj
        have hp := List.pairwise_iff_getElem.1 hnd
        rcases Nat.lt_trichotomy m j with hl | hl | hl
        · exact absurd (q1.trans q2.symm) (hp m j p1 p2 hl)
        · exact hl
        · exact absurd (q2.trans q1.symm) (hp j m p2 p1 hl)
    rcases run_look (k := k) ht hkt (hz w) h (mp_keys h1) with ⟨_, hno⟩ | ⟨m, e, hr, hm', he⟩
    · exfalso
      have : Value.string k ∈ es.toList.map (·.key) := by rw [h1]; exact List.mem_map_of_mem (List.mem_of_getElem? hj)
      obtain ⟨e, he, hk'⟩ := List.mem_map.1 this
      exact hno e he hk'
    · have hmj := hkey m e hm' he
      subst hmj
      have hu : us[m]? = some e.val := by rw [← h2, List.getElem?_map, hm']; rfl
      obtain ⟨d', hd', hrep⟩ := repA_at h3 hu
      rw [hd] at hd'; injection hd' with hd'; subst hd'
      refine EOp.of_run (v := .tuple #[e.val, .bool true]) (w' := w) ?_ ⟨rfl, [e.val, .bool true], rfl, _, _, rfl, hrep, _, _, rfl, rfl, rfl⟩
      have hv := zbU hr
      simpa [execOp, zas, e1, e2] using hv⟩
/-- what is stored under a key that there is not -/
theorem ef_put {t kt et : TypeId} {x y v : Operand} {g i : Nat} {ks : List ByteArray} {xs : List D} {k : ByteArray} {d : D} (hx : opD K x = some (.v (.map (some g)))) (hy : opS K y = some k) (hv : opD K v = some d) (hm : nth H i = some (.mp g ks xs))
    (ht : P.underlying t = some (.map kt et)) (hkt : P.underlying kt = some .string) (hn : k ∉ ks) : Ef P (.mapUpdate t x y v) ty K H (fun r H' => r = .v undef ∧ H' = H.set i (.mp g (ks ++ [k]) (xs ++ [d]))) :=
  ⟨fun C ρ w F hk gd => by
    obtain ⟨es, c, us, h, h1, h2, h3⟩ := gd.h.ok _ (zaf hm)
    have e1 : ev ρ x = .map (some g) := hk.op hx
    have e2 := hk.opS hy
    have e3 := hk.op hv
    have hno : ∀ a ∈ es.toList, a.key ≠ .string k := fun a ha he => by
      have : Value.string k ∈ ks.map Value.string := by rw [← h1, ← he]; exact List.mem_map_of_mem ha
      obtain ⟨b, hb, e'⟩ := List.mem_map.1 this
      injection e' with e'
      exact hn (e' ▸ hb)
    have hr := run_put (P := P) (v := ev ρ v) ht hkt h (mp_keys h1) hno
    have hlt := (Array.getElem?_eq_some_iff.1 h).1
    have tn := gd.turn (h' := .mp g (ks ++ [k]) (xs ++ [d])) (w' := { w with heap := w.heap.setIfInBounds g (.map (es.push ⟨.string k, ev ρ v, c⟩) (c + 1)) }) hm (fun b _ hn' => by
        have : ¬ g = b := hn'
        simp only [Array.getElem?_setIfInBounds]; rw [if_neg this]) (by simp) rfl rfl rfl (fun b hb => .inl hb) (fun kp => by
        refine ⟨_, _, us ++ [ev ρ v], by simp only [Array.getElem?_setIfInBounds, if_true, hlt]; rfl, ?_, ?_, ?_⟩
        · simp [h1]
        · simp [h2]
        · exact repA_snoc (D.keepA kp _ _ h3) (D.keep kp _ _ e3))
    refine EOp.of_skip (w' := { w with heap := w.heap.setIfInBounds g (.map (es.push ⟨.string k, ev ρ v, c⟩) (c + 1)) }) ?_ ⟨F, _, _, ⟨rfl, rfl⟩, rfl, tn.1, tn.2⟩
    have hv2 := run_u hr
    simpa [execOp, zas, e1, e2] using hv2⟩
end Lp
