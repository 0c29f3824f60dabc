/-
  INSERTING INTO A ROW OF THE CALL's OWN (elements of one cell): what room there is, cutting beyond the length, copying, zeros behind.
-/
import Derived.Laws.IdiomCopy
import Derived.Lib.AppendZerosOnto
import Derived.Lib.Overlaps
import Derived.Test.YtfjinapgehafiaaGreatV62
set_option linter.unusedVariables false
namespace Lp
open Go Go.RowKit
def capV : Value → Nat
  | .slice _ _ c => c
  | _ => 0
theorem zbP {w : World} {z : Nat} {T : TypeId} {v : Value} {us : List Value} (h : Own vcs z T w 0 v us) : ∃ A, v = .slice A us.length (capV v) ∧ us.length ≤ capV v ∧ capV v ≤ maxLen ∧ (0 < capV v → ∃ g r, A = some ⟨g, 0, none⟩ ∧ Box w g T (us.flatMap vcs ++ r) ∧ (us.flatMap vcs ++ r).length = capV v * z ∧ v.ownBlock = some g) := by
  rcases h.1.2 with ⟨rfl, h0⟩ | ⟨g, cap, cur, rfl, hb, hg, hnc, hm, hsz, htake⟩
  · exact ⟨none, by rw [h0]; rfl, by rw [h0]; exact Nat.zero_le _, Nat.zero_le _, fun h => by simp [capV] at h⟩
  · refine ⟨_, rfl, hnc, hm, fun _ => ⟨g, cur.toList.drop (us.length * z), rfl, ?_, ?_, rfl⟩⟩
    · unfold Box; rw [← htake, List.take_append_drop]; simpa using hg
    · rw [← htake, List.take_append_drop]; simpa [capV] using hsz
theorem add0 (g o k : Nat) : (⟨g, o, none⟩ : Addr).add k = ⟨g, o + k, none⟩ := Addr.add_lit _ _ _
theorem zcJ {z : Nat} {g n c a b : Nat} (h : a < c) : cut z (.slice (some ⟨g, 0, none⟩) n c) a b = .slice (some ⟨g, a * z, none⟩) (b - a) (c - a) := by
  unfold cut; simp only [if_neg (show ¬ c = a by omega), Option.map_some, add0, Nat.zero_add]
section
variable {P : Program} {N : Nat} {C : Ctx} {ty : TypeId} {K : Kd} {H : List Hp}
theorem OpsD.cap {ops : List Oper} {i : Nat} {Kt : Env → World → (Nat → Prop) → Prop} (j : Nat) {v : Value} {z : Nat} {T : TypeId} {xs : List D} (hm : nth H j = some (.sl v z T xs)) (k : xs.length ≤ capV v → capV v ≤ maxLen → OpsD P N C ops i K H Kt) : OpsD P N C ops i K H Kt :=
  OpsD.fact (φ := xs.length ≤ capV v ∧ capV v ≤ maxLen) (fun w F ρ _ g => by
    obtain ⟨us, hr, ho⟩ := g.h.ok _ (z1 hm)
    obtain ⟨A, _, h1, h2, _⟩ := zbP ho
    rw [hr.len] at h1; exact ⟨h1, h2⟩) fun h => k h.1 h.2
theorem p_cap {t e : TypeId} {x : Operand} {z j : Nat} {v : Value} {T : TypeId} {xs : List D} (hx : opO K x = some v) (hm : nth H j = some (.sl v z T xs)) (ht : ∀ w, (underlying t).run P w = .ok (.slice e) w) : Pu P (.call { callee := .builtin .cap, args := #[x], argTypes := #[t] }) ty K H (.v (.int .i64 (capV v : Int))) :=
  ⟨fun ρ w F hk _ hH => by
    obtain ⟨us, hr, ho⟩ := hH _ (z1 hm)
    obtain ⟨A, hv, _⟩ := zbP ho
    have e1 : ev ρ x = _ := hk.opO hx
    rw [hv] at e1
    exact EOp.of_run (v := .int .i64 (capV v)) (w' := w) (by simp [execOp, zap, resolve, invoke, builtin, e1, Builtin.cap_, ht, goInt]) ⟨rfl, rfl⟩⟩
/-- cut at the end beyond what there is, within the room -/
theorem p_slice_more {t e : TypeId} {z b j : Nat} {x : Operand} {lo hi : Option Operand} {v : Value} {T : TypeId} {xs : List D} {rl rh : Option Int} (hx : opO K x = some v) (hm : nth H j = some (.sl v z T xs)) (hlo : bndD K lo = some rl) (hhi : bndD K hi = some rh) (ha : Bnd rl 0 0) (hb : Bnd rh xs.length b)
    (ht : ∀ w, (underlying t).run P w = .ok (.slice e) w) (hs : ∀ w, (Go.sizeOf e).run P w = .ok z w) (hbc : b ≤ capV v) : Pu P (.slice t x lo hi none) ty K H (.v (cut z v 0 b)) :=
  ⟨fun ρ w F hk hF hH => by
    obtain ⟨us, hr, ho⟩ := hH _ (z1 hm)
    have hul := hr.len
    obtain ⟨A, hv, _⟩ := zbP ho
    exact e_slice (n := xs.length) (a := 0) (b := b) (z := z) (zz ρ [x]) (opv1 ρ (hk.opO hx)) rfl rfl (ha.out (zco hk hlo)) (hb.out (zco hk hhi)) ht hs ⟨A, _, by rw [← hul]; exact hv, hbc⟩ (Nat.zero_le _) ⟨rfl, rfl⟩⟩
/-- a part of that -/
theorem p_slice_part {t e : TypeId} {z a b m j : Nat} {x : Operand} {lo hi : Option Operand} {v : Value} {T : TypeId} {xs : List D} {rl rh : Option Int} (hx : opD K x = some (.v (cut z v 0 m))) (hm : nth H j = some (.sl v z T xs)) (hlo : bndD K lo = some rl) (hhi : bndD K hi = some rh) (ha : Bnd rl 0 a) (hb : Bnd rh m b)
    (ht : ∀ w, (underlying t).run P w = .ok (.slice e) w) (hs : ∀ w, (Go.sizeOf e).run P w = .ok z w) (hab : a ≤ b) (hbm : b ≤ m) (hbc : m ≤ capV v) (h0 : 0 < m) : Pu P (.slice t x lo hi none) ty K H (.v (cut z (cut z v 0 m) a b)) :=
  ⟨fun ρ w F hk hF hH => by
    obtain ⟨us, hr, ho⟩ := hH _ (z1 hm)
    obtain ⟨A, hv, _, _, hA⟩ := zbP ho
    obtain ⟨g, r, rfl, _⟩ := hA (by omega)
    have e0 : cut z v 0 m = .slice (some ⟨g, 0, none⟩) m (capV v) := by rw [hv, zcJ (by simpa using by omega)]; simp [capV]
    exact e_slice (n := m) (a := a) (b := b) (z := z) (zz ρ [x]) (opv1 ρ (hk.op hx)) rfl rfl (ha.out (zco hk hlo)) (hb.out (zco hk hhi)) ht hs ⟨_, _, e0, by omega⟩ hab ⟨rfl, rfl⟩⟩
theorem len_one {us : List Value} {xs : List D} {w : World} {F : Nat → Prop} (hr : RepE w F 1 xs us) : (us.flatMap vcs).length = xs.length := by
  rw [zbv (z := 1) hr.size, hr.len, Nat.mul_one]
theorem zb2 {us : List Value} (h : ∀ x ∈ us, (vcs x).length = 1) (n : Nat) : (us.flatMap vcs).take n = (us.take n).flatMap vcs := by
  induction us generalizing n with
  | nil => simp
  | cons y r ih =>
    cases n with
    | zero => simp
    | succ n =>
      have hy := h y List.mem_cons_self
      obtain ⟨c, hc⟩ := List.length_eq_one_iff.1 hy
      simp only [List.flatMap_cons, List.take_succ_cons, hc, List.cons_append, List.nil_append]
      rw [ih (fun x hx => h x (List.mem_cons_of_mem _ hx))]
theorem flat_drop1 {us : List Value} (h : ∀ x ∈ us, (vcs x).length = 1) (n : Nat) : (us.flatMap vcs).drop n = (us.drop n).flatMap vcs := by
  induction us generalizing n with
  | nil => simp
  | cons y r ih =>
    cases n with
    | zero => simp
    | succ n =>
      have hy := h y List.mem_cons_self
      obtain ⟨c, hc⟩ := List.length_eq_one_iff.1 hy
      simp only [List.flatMap_cons, List.drop_succ_cons, hc, List.cons_append, List.nil_append]
      rw [ih (fun x hx => h x (List.mem_cons_of_mem _ hx))]
/-- cells are copied into a block that is known whole -/
theorem run_copy_box {w : World} {t t' ty e g o dLen dCap sLen sCap : Nat} {a : Addr} {cs cc : List Value} {T : TypeId} (hu : P.underlying t = some (.slice e)) (hs : ∀ w, (Go.sizeOf e).run P w = .ok 1 w) (hB : Box w g T cc) (hn : cs.length = Nat.min sLen dLen) (hsrc : ∀ j v, cs[j]? = some v → w.cell? (a.add j) = some v)
    (ho : o + cs.length ≤ cc.length) (h1 : ∀ v ∈ cs, v.oneCell' = true) : ∃ w', (Builtin.copy_ #[t, t'] ty #[.slice (some ⟨g, o, none⟩) dLen dCap, .slice (some a) sLen sCap]).run P w = .ok (goInt cs.length) w' ∧ Box w' g T (spl cc o cs) ∧ Upd g (g + 1) w w' ∧ w'.heap.size = w.heap.size := by
  have hl := run_loadCells_list (P := P) w a cs hsrc
  obtain ⟨w', h2, h3, h4, h5⟩ := run_storeCells P g T cs w cc o 0 hB (by simpa using ho) h1
  refine ⟨w', ?_, by simpa using h3, h4, h5⟩
  simp [Builtin.copy_, run_underlying hu, Builtin.lenOf, Builtin.firstCells, hs, ← hn, hl, h2]
theorem e_copy {ρ : Env} {w w' : World} {x y : Operand} {t t' : TypeId} {u v r : Value} {Kt : Value → World → Prop} (hx : ev ρ x = u) (hy : ev ρ y = v) (hr : (Builtin.copy_ #[t, t'] ty #[u, v]).run P w = .ok r w') (h : Kt r w') : EOp P (.call { callee := .builtin .copy, args := #[x, y], argTypes := #[t, t'] }) ty ρ w Kt :=
  EOp.of_run (v := r) (w' := w') (by simp [execOp, zap, resolve, invoke, builtin, hx, hy, hr]) h
theorem one_flat {us : List Value} (h : ∀ u ∈ us, One u) : ∀ c ∈ us.flatMap vcs, c.oneCell' = true := fun c hc => by
  obtain ⟨u, hu, hc⟩ := List.mem_flatMap.1 hc; exact h u hu c hc
theorem Own.mkBox {w : World} {g n c : Nat} {T : TypeId} {us : List Value} {r : List Value} (hB : Box w g T (us.flatMap vcs ++ r)) (hl : (us.flatMap vcs ++ r).length = c) (hz : ∀ x ∈ us, (vcs x).length = 1) (hn : us.length = n) (hc : n ≤ c) (hm : c ≤ maxLen) : Own vcs 1 T w 0 (.slice (some ⟨g, 0, none⟩) n c) us := by
  have hf := zbv (z := 1) hz
  refine ⟨⟨by rw [hf], .inr ⟨g, c, (us.flatMap vcs ++ r).toArray, by rw [hn], Nat.zero_le _, hB, by omega, hm, by simpa using hl, ?_⟩⟩, hz⟩
  rw [← hf]; simp
theorem Good.row {H : List Hp} {w w' : World} {F : Nat → Prop} {i g : Nat} {v v' : Value} {T : TypeId} {xs xs' : List D} (gd : Good C H w F) (hm : nth H i = some (.sl v 1 T xs)) (hg : v.ownBlock = some g) (hg' : v'.ownBlock = some g) (U : Upd g (g + 1) w w') (ok : Keep w F w' F → (Hp.sl v' 1 T xs').ok w' F) : Good C (H.set i (.sl v' 1 T xs')) w' F ∧ Keep w F w' F :=
  gd.turn hm (fun b hb hn => U.block b hb (by
    have : g ≠ b := fun e => hn (by show v.ownBlock = _; rw [hg, e])
    omega)) U.size U.os U.tape U.output (fun b e => .inl (by show v.ownBlock = _; rw [hg]; have e' : v'.ownBlock = some b := e; rw [hg'] at e'; exact e')) ok
/-- what stands from a on, one place further -/
theorem ef_copy_shift {x y : Operand} {t t' e : TypeId} {i a n : Nat} {v : Value} {T : TypeId} {xs : List D} (hm : nth H i = some (.sl v 1 T xs)) (hn : xs.length = n) (hx : opD K x = some (.v (cut 1 (cut 1 v 0 (n + 1)) (a + 1) (n + 1)))) (hy : opD K y = some (.v (cut 1 (cut 1 v 0 (n + 1)) a (n + 1))))
    (ht : P.underlying t = some (.slice e)) (hs : ∀ w, (Go.sizeOf e).run P w = .ok 1 w) (ha : a < n) (hc : n + 1 ≤ capV v) : Ef P (.call { callee := .builtin .copy, args := #[x, y], argTypes := #[t, t'] }) ty K H (fun d H' => d = .v (.int .i64 ((n - a : Nat) : Int)) ∧ H' = H.set i (.sl (cut 1 v 0 (n + 1)) 1 T (xs.take (a + 1) ++ xs.drop a))) :=
  ⟨fun C ρ w F hk gd => by
    obtain ⟨us, hr, ho⟩ := gd.h.ok _ (z1 hm)
    have hul := hr.len
    obtain ⟨A, hv, _, hmx, hA⟩ := zbP ho
    obtain ⟨g, r, rfl, hB, hl, hgb⟩ := hA (by omega)
    generalize hcv : capV v = c at *
    have hf := len_one hr
    have e0 : cut 1 v 0 (n + 1) = .slice (some ⟨g, 0, none⟩) (n + 1) c := by rw [hv, zcJ (by omega)]; simp
    have e1 : cut 1 (cut 1 v 0 (n + 1)) (a + 1) (n + 1) = .slice (some ⟨g, a + 1, none⟩) (n - a) (c - (a + 1)) := by rw [e0, zcJ (by omega)]; simp [Nat.add_sub_add_right]
    have e2 : cut 1 (cut 1 v 0 (n + 1)) a (n + 1) = .slice (some ⟨g, a, none⟩) (n + 1 - a) (c - a) := by rw [e0, zcJ (by omega)]; simp
    have hx' : ev ρ x = _ := hk.op hx
    have hy' : ev ρ y = _ := hk.op hy
    rw [e1] at hx'; rw [e2] at hy'
    have hdl : ((us.flatMap vcs).drop a).length = n - a := by rw [List.length_drop, hf, hn]
    obtain ⟨w', hrun, hB', U, hsz⟩ := run_copy_box (P := P) (t := t) (t' := t') (ty := ty) (dLen := n - a) (dCap := c - (a + 1)) (sLen := n + 1 - a) (sCap := c - a) (a := ⟨g, a, none⟩) (o := a + 1) (cs := (us.flatMap vcs).drop a) ht hs hB (by rw [hdl]; simp only [Nat.min_def]; split <;> omega)
      (fun j u hj => by
        rw [add0]; have := hB.at_.2 (a + j) u (by rw [List.getElem?_append_left (by rw [hf]; have := (List.getElem?_eq_some_iff.1 hj).1; rw [hdl] at this; omega)]; rwa [List.getElem?_drop] at hj)
        simpa using this) (by rw [hdl, hl]; omega) (fun u hu => one_flat hr.one u (List.mem_of_mem_drop hu))
    refine e_copy hx' hy' hrun ?_
    have hz := hr.size
    have hsp : spl (us.flatMap vcs ++ r) (a + 1) ((us.flatMap vcs).drop a) = (us.take (a + 1) ++ us.drop a).flatMap vcs ++ r.drop 1 := by
      have hd : (us.flatMap vcs ++ r).drop (a + 1 + (n - a)) = r.drop 1 := by rw [List.drop_append, List.drop_eq_nil_of_le (by rw [hf]; omega), hf, List.nil_append, show a + 1 + (n - a) - xs.length = 1 by omega]
      unfold spl
      rw [hdl, hd, List.take_append_of_le_length (by rw [hf]; omega), zb2 hz, flat_drop1 hz, List.flatMap_append]
    rw [hsp] at hB'
    have hr2 : RepE w F 1 (xs.take (a + 1) ++ xs.drop a) (us.take (a + 1) ++ us.drop a) := (hr.take _).app (hr.drop _)
    have hl2 : (us.take (a + 1) ++ us.drop a).length = n + 1 := by simp only [List.length_append, List.length_take, List.length_drop]; omega
    have key := gd.row (v' := cut 1 v 0 (n + 1)) (xs' := xs.take (a + 1) ++ xs.drop a) hm hgb (by rw [e0]; rfl) U (fun kp => ⟨_, hr2.keep kp, by
      rw [e0]
      refine Own.mkBox hB' ?_ hr2.size hl2 hc hmx
      rw [← hsp, zbA _ _ _ (by rw [hdl, hl]; omega), hl, Nat.mul_one]⟩)
    exact ⟨F, _, _, ⟨rfl, rfl⟩, by show _ = _; rw [hdl]; rfl, key.1, key.2⟩⟩
/-- elements copied over others -/
theorem ef_copy_in {x y : Operand} {t t' e : TypeId} {i a b : Nat} {v : Value} {T : TypeId} {xs ys : List D} {d : D} (hm : nth H i = some (.sl v 1 T xs)) (hx : opD K x = some (.v (cut 1 v a b))) (hy : opD K y = some d) (hsrc : SrcD H 1 d ys) (ht : P.underlying t = some (.slice e)) (hs : ∀ w, (Go.sizeOf e).run P w = .ok 1 w)
    (h0 : 0 < ys.length) (hab : a + ys.length ≤ b) (hb : b ≤ xs.length) (ho' : ys.length ≤ b - a) : Ef P (.call { callee := .builtin .copy, args := #[x, y], argTypes := #[t, t'] }) ty K H (fun d H' => d = .v (.int .i64 ((ys.length : Nat) : Int)) ∧ H' = H.set i (.sl v 1 T (xs.take a ++ ys ++ xs.drop (a + ys.length)))) :=
  ⟨fun C ρ w F hk gd => by
    obtain ⟨us, hr, ho⟩ := gd.h.ok _ (z1 hm)
    have hul := hr.len
    obtain ⟨A, hv, hle, hmx, hA⟩ := zbP ho
    obtain ⟨g, r, rfl, hB, hl, hgb⟩ := hA (by omega)
    obtain ⟨vs, hvs, hsl⟩ := hsrc.out w F _ gd.flt gd.h.ok (hk.op hy)
    generalize hcv : capV v = c at *
    have hf := len_one hr
    have hfv := len_one hvs
    have hvl := hvs.len
    have hx' : ev ρ x = _ := hk.op hx
    rw [hv, zcJ (by omega)] at hx'
    obtain ⟨A', c', e1, e2, e3, e4, _⟩ := hsl
    simp only [List.length_map] at e1 e2
    obtain ⟨b', o', rfl, _, _, hat⟩ := e4 (by intro e; simp at e; subst e; simp at hvl; omega)
    have hcell : ∀ j u, (vs.flatMap vcs)[j]? = some u → w.cell? ((⟨b', o', none⟩ : Addr).add j) = some u := by
      intro j u hj
      rw [add0]
      have hz := hvs.size
      have hjl : j < vs.length := by have := (List.getElem?_eq_some_iff.1 hj).1; rw [hfv, ← hvl] at this; exact this
      obtain ⟨q, hq⟩ : ∃ q, vs[j]? = some q := ⟨_, List.getElem?_eq_getElem hjl⟩
      obtain ⟨c, hc⟩ := List.length_eq_one_iff.1 (hz q (List.mem_of_getElem? hq))
      have hqu : vcs q = [u] := by
        have := flatMap_get (cs := vcs) hz j q hq 0 c (by rw [hc]; rfl)
        rw [Nat.mul_one, Nat.add_zero, hj] at this
        injection this with this; rw [hc, this]
      have := (hat j (vcs q) (by rw [List.getElem?_map, hq]; rfl)).2 0 u (by rw [hqu]; rfl)
      simpa using this
    obtain ⟨w', hrun, hB', U, hsz⟩ := run_copy_box (P := P) (t := t) (t' := t') (ty := ty) (dLen := b - a) (dCap := c - a) (sLen := vs.length) (sCap := c') (a := ⟨b', o', none⟩) (o := a * 1) (cs := vs.flatMap vcs) ht hs hB (by rw [hfv, hvl]; simp only [Nat.min_def]; split <;> omega) hcell (by rw [hfv, hl]; omega) (one_flat hvs.one)
    refine e_copy hx' (e1 ▸ rfl) hrun ?_
    have hz := hr.size
    have hsp : spl (us.flatMap vcs ++ r) (a * 1) (vs.flatMap vcs) = (us.take a ++ vs ++ us.drop (a + ys.length)).flatMap vcs ++ r := by
      unfold spl
      rw [hfv, Nat.mul_one, List.take_append_of_le_length (by rw [hf]; omega), zb2 hz, List.drop_append_of_le_length (by rw [hf]; omega), flat_drop1 hz, List.flatMap_append, List.flatMap_append, List.append_assoc, List.append_assoc, List.append_assoc]
    rw [hsp] at hB'
    have hl2 : (us.take a ++ vs ++ us.drop (a + ys.length)).length = us.length := by simp only [List.length_append, List.length_take, List.length_drop]; omega
    have key := gd.row (v' := v) (xs' := xs.take a ++ ys ++ xs.drop (a + ys.length)) hm hgb hgb U (fun kp => ⟨_, (((hr.take _).keep kp).app (hvs.keep kp)).app ((hr.drop _).keep kp), by
      rw [hv]
      have hr2 := ((hr.take a).app hvs).app (hr.drop (a + ys.length))
      refine Own.mkBox hB' ?_ hr2.size hl2 hle hmx
      rw [← hsp, zbA _ _ _ (by rw [hfv, hl]; omega), hl, Nat.mul_one]⟩)
    exact ⟨F, _, _, ⟨rfl, rfl⟩, by show _ = _; rw [hfv]; rfl, key.1, key.2⟩⟩
/-- the front of a row, and zeros behind, where there is no room for them: a new row -/
theorem ef_append_zeros {x y : Operand} {t tn : TypeId} {j a k : Nat} {v zv : Value} {T : TypeId} {xs : List D} {d : D} {kn kq : IntKind} {m : Int} {by_ : Nat} (hm : nth H j = some (.sl v 1 T xs)) (hx : opD K x = some (.v (cut 1 v 0 a))) (hy : opD K y = some (.v (.int kq m))) (hk' : m = (k : Int)) (ht : P.underlying t = some (.slice T)) (htn : P.underlying tn = some (.int kn))
    (hi' : ∃ i, P.info? T = some i ∧ i.zero = some zv ∧ i.size = 1 ∧ i.bytes = by_) (hz1 : zv.oneCell' = true) (hd : Cv (.v zv) d) (ha : a ≤ xs.length) (hc : capV v < a + k) (h0 : 0 < capV v) (hk0 : 0 < k) (hb : (a + k) * by_ ≤ 140737488355328) (hl : a + k ≤ maxLen) :
    Ef P (.call { callee := .builtin .append, args := #[x, y], argTypes := #[t, tn] }) ty K H (fun d' H' => ∃ v', d' = .ov v' ∧ H' = .sl v' 1 T (xs.take a ++ List.replicate k d) :: H) :=
  ⟨fun C ρ w F hk gd => by
    obtain ⟨us, hr, ho⟩ := gd.h.ok _ (z1 hm)
    have hul := hr.len
    obtain ⟨A, hv, hle, hmx, hA⟩ := zbP ho
    obtain ⟨g, r, rfl, hB, hlb, hgb⟩ := hA h0
    obtain ⟨i, q1, q2, q3, q4⟩ := hi'
    generalize hcv : capV v = c at *
    have hf := len_one hr
    have hz := hr.size
    have hx' : ev ρ x = _ := hk.op hx
    have hy' : ev ρ y = _ := hk.op hy
    rw [hv, zcJ (by omega)] at hx'
    subst hk'
    have hold : (Builtin.firstCells i.size (a - 0) (.slice (some ⟨g, 0 * 1, none⟩) (a - 0) (c - 0))).run P w.drew = .ok ((us.take a).flatMap vcs).toArray w.drew := by
      rw [q3]
      refine run_firstCells_some w.drew 1 (a - 0) ⟨g, 0 * 1, none⟩ (a - 0) (c - 0) ((us.take a).flatMap vcs) (by rw [← zb2 hz, List.length_take, hf]; omega) (fun j u hj => ?_)
      rw [add0, Nat.zero_mul, Nat.zero_add]
      rw [← zb2 hz, List.getElem?_take] at hj
      split at hj
      · have h1 := (List.getElem?_eq_some_iff.1 hj).1
        have := hB.at_.2 j u (by rw [List.getElem?_append_left h1]; exact hj)
        have e : w.drew.cell? ⟨g, j, none⟩ = w.cell? ⟨g, j, none⟩ := rfl
        rw [e]; simpa using this
      · cases hj
    have hu63 : ((a - 0 + k : Nat) : Int) ≤ 9223372036854775807 := by unfold maxLen at hl; omega
    have hk48 : k * i.bytes ≤ 281474976710656 := by
      rw [q4]; have : k * by_ ≤ (a + k) * by_ := Nat.mul_le_mul_right _ (by omega)
      omega
    have hrun := Lib.run_append_grow_zeros (P := P) w t tn ty T i zv kq kn ht htn q1 q2 (some ⟨g, 0 * 1, none⟩) (a - 0) (c - 0) _ hold k hk0 (by omega) (by omega) hu63 hk48 (by rw [q4]; exact growslice_fits (by omega) (by simpa using hb))
    have hn : New w (w.drew.alloc (.cells (((us.take a).flatMap vcs).toArray ++ Builtin.zeroCells zv.cells k ++ Builtin.zeroCells zv.cells (grownCap w (a - 0 + k) (c - 0) T - (a - 0 + k))) T)) w.heap.size T (((us.take a).flatMap vcs).toArray ++ Builtin.zeroCells zv.cells k ++ Builtin.zeroCells zv.cells (grownCap w (a - 0 + k) (c - 0) T - (a - 0 + k))).toList := by
      have n0 := New.mk' w.drew T (((us.take a).flatMap vcs).toArray ++ Builtin.zeroCells zv.cells k ++ Builtin.zeroCells zv.cells (grownCap w (a - 0 + k) (c - 0) T - (a - 0 + k)))
      exact ⟨rfl, n0.box, (Ext.drew w).trans n0.ext, n0.size⟩
    have hzc : ∀ n, (Builtin.zeroCells zv.cells n).toList = List.replicate n zv := by
      intro n
      rw [zbW hz1]
      unfold Builtin.zeroCells
      have hf : (fun i => (#[zv] : Array Value)[i % (#[zv] : Array Value).size]!) = fun _ => zv := by
        funext i
        have : i % (#[zv] : Array Value).size = 0 := Nat.mod_one i
        rw [this]; rfl
      rw [hf, Array.toList_map, List.map_const']
      simp
    refine EOp.of_run (by simp only [execOp, zap, resolve, invoke, builtin, Sem.run_bind, Sem.run_pure, Result.andThen_ok, List.map_toArray, List.map_cons, List.map_nil, hx', hy', hrun]; rfl) ?_
    have hG := grownCap_ge w (a - 0 + k) (c - 0) T
    have hG2 := grownCap_le_maxLen w (a - 0 + k) (c - 0) T (by simpa using hl)
    have hrep : ∀ {w' : World} n, RepE w' F 1 (List.replicate n d) (List.replicate n zv) := fun n => RepE.rep n (hd.out _ _ _ rfl) (One.one hz1) (by rw [zbW hz1]; rfl)
    have hrz : ∀ n : Nat, (List.replicate n zv).flatMap vcs = List.replicate n zv := by
      intro n; induction n with
      | zero => rfl
      | succ n ih => rw [List.replicate_succ, List.flatMap_cons, ih, vcs_one hz1]; rfl
    have hr2 := (hr.take a).app (hrep (w' := w) k)
    have hl2 : (us.take a ++ List.replicate k zv).length = a - 0 + k := by rw [List.length_append, List.length_take, List.length_replicate]; omega
    refine ⟨F, _, _, ⟨_, rfl, rfl⟩, ⟨rfl, rfl⟩, gd.born hn ⟨us.take a ++ List.replicate k zv, hr2.keep (Keep.ext hn.ext), ?_⟩ (fun b e => by cases e; rfl), Keep.ext hn.ext⟩
    have hbx := hn.box
    have e : (((us.take a).flatMap vcs).toArray ++ Builtin.zeroCells zv.cells k ++ Builtin.zeroCells zv.cells (grownCap w (a - 0 + k) (c - 0) T - (a - 0 + k))).toList = (us.take a ++ List.replicate k zv).flatMap vcs ++ List.replicate (grownCap w (a - 0 + k) (c - 0) T - (a - 0 + k)) zv := by
      rw [Array.toList_append, Array.toList_append, hzc, hzc, List.flatMap_append, hrz]
    rw [e] at hbx
    refine Own.mkBox hbx ?_ hr2.size hl2 hG hG2
    rw [List.length_append, List.flatMap_append, hrz, List.length_append, ← zb2 hz, List.length_take, hf, List.length_replicate, List.length_replicate]; omega⟩
theorem Box.shape {w : World} {g : Nat} {T : TypeId} {cs : List Value} (h : Box w g T cs) : w.shape? g = some (T, cs.length) := by
  unfold Box at h; unfold World.shape?; rw [h]; simp
end
end Lp
/- Walks, printed by a program of mine. -/
set_option linter.unusedSimpArgs false
set_option linter.unusedVariables false
set_option maxHeartbeats 4000000
set_option maxRecDepth 100000
namespace Lp
open Go Go.RowKit Go.Proofs

namespace HdYtfjinapgehafiaaGreatV72
theorem infz_22 : ∃ i, Tryz.prog.info? 22 = some i ∧ i.zero = some (.slice none 0 0) ∧ i.size = 1 ∧ i.bytes = 24 := za5 (by kernel_rfl)
theorem zc3 : Tryz.prog.underlying 36 = some (.slice 22) := by kernel_rfl
end HdYtfjinapgehafiaaGreatV72
open HdYtfjinapgehafiaaGreatV72

theorem cut_one {z a b : Nat} {v : Value} (h : v.oneCell' = true) : (cut z v a b).oneCell' = true := by
  cases v <;> first | exact h | rfl
theorem JD.ov1 {P : Program} {N : Nat} {C : Ctx} {K : Kd} {H : List Hp} {Q : zaA} {c : Code} (t : Nat) {v : Value} (ht : zae K t = some (.ov v)) (k : v.oneCell' = true → JD P N C c K H Q) : JD P N C c K H Q :=
  JD.fact (fun w F ρ hk g => (hk t _ ht).2) k
theorem p_overlaps {ty : TypeId} {K : Kd} {H : List Hp} {x y : Operand} {ats : Array TypeId} {i j a b m : Nat} {u v : Value} {T T' : TypeId} {xs ys : List D} (hx : opO K x = some u) (hi : nth H i = some (.sl u 1 T' ys)) (hy : opD K y = some (.v (cut 1 (cut 1 v 0 m) a b))) (hj : nth H j = some (.sl v 1 T xs)) (hij : Nat.beq i j = false) (hm : m ≤ capV v) (ha : a < m) (hl : 0 < ys.length)
    (hA : H.Pairwise zcq) : Pu Tryz.prog (.call { callee := .value (.func 155), args := #[x, y], argTypes := ats }) ty K H (dB false) :=
  ⟨fun ρ w F hk _ hH => by
    obtain ⟨us, hr, ho⟩ := hH _ (z1 hi)
    obtain ⟨vs, hr', ho'⟩ := hH _ (z1 hj)
    have h1 := ho.len; rw [hr.len] at h1
    obtain ⟨A, hu, hle, _, hB⟩ := zbP ho
    rw [hr.len] at hu hle
    obtain ⟨g, r, rfl, hBx, _, hg⟩ := hB (by omega)
    obtain ⟨A', hv, _, _, hB'⟩ := zbP ho'
    obtain ⟨g', r', rfl, hBx', hl', hg'⟩ := hB' (by omega)
    have hne : g ≠ g' := by
      intro e
      have hi' : H[i]? = _ := (zaU H i).symm.trans hi
      have hj' : H[j]? = _ := (zaU H j).symm.trans hj
      exact pair_get (fun _ _ => zcq.symm) hA hi' hj' (fun e => by rw [e, Nat.beq_refl] at hij; cases hij) g hg (by show v.ownBlock = _; rw [hg', e])
    have hx' : ev ρ x = _ := hk.opO hx
    have hy' : ev ρ y = _ := hk.op hy
    generalize hcv : capV v = c at *
    rw [hu] at hx'
    have e0 : cut 1 v 0 m = vS g' m c := by rw [hv, zcJ (by omega)]; simp
    rw [e0, zcJ (by omega)] at hy'
    have hrun : (callFunc 155 #[ev ρ x, ev ρ y]).run Tryz.prog w = .ok (.value (.bool false)) w := by
      rw [hx', hy', run_callFunc_extern Tryz.func155 (by kernel_rfl) (by kernel_rfl) (by kernel_rfl) (e := Extern.SlicesOverlaps.overlaps #[36, 36] #[4]) (by kernel_rfl)]
      rw [Lib.run_overlaps_apart w 36 4 22 (show Tryz.prog.underlying 36 = some (.slice 22) by kernel_rfl) 1 Tryz.sizeOf22 ⟨g, 0, none⟩ ⟨g', a * 1, none⟩ _ _ _ _ hne _ _ _ _ hBx.shape hBx'.shape (by omega) (hBx.frozen 0) (hBx.frozen _)]
      rfl
    have e2 : ev ρ (.func 155) = .func (.func 155) #[] #[] := rfl
    exact EOp.of_run (v := .bool false) (w' := w) (by simp [execOp, zap, resolve, e2, Deferred.ofValue, invoke, hrun]) ⟨rfl, rfl⟩⟩
theorem OpsD.apart {P : Program} {N : Nat} {C : Ctx} {K : Kd} {H : List Hp} {ops : List Oper} {i : Nat} {Kt : Env → World → (Nat → Prop) → Prop} (k : H.Pairwise zcq → OpsD P N C ops i K H Kt) : OpsD P N C ops i K H Kt := OpsD.fact (fun _ _ _ _ g => g.h.apart) k

theorem ins_end {xs : List D} {y : D} {i : Nat} (h : i = xs.length) : xs ++ [y] = xs.take i ++ y :: xs.drop i := by
  subst h; simp
theorem ins_shift {xs : List D} {y : D} {i : Nat} (h : i < xs.length) : (xs.take (i + 1) ++ xs.drop i).take i ++ [y] ++ (xs.take (i + 1) ++ xs.drop i).drop (i + [y].length) = xs.take i ++ y :: xs.drop i := by
  rw [List.take_append_of_le_length (by rw [List.length_take]; omega), List.take_take, Nat.min_eq_left (by omega), show [y].length = 1 from rfl, List.drop_append, List.drop_eq_nil_of_le (by rw [List.length_take]; omega), List.length_take, show i + 1 - min (i + 1) xs.length = 0 by omega]
  simp
theorem ins_grow {xs : List D} {y z : D} {i : Nat} (h : i < xs.length) : ((xs.take i ++ List.replicate (xs.length + 1 - i) z).take i ++ [y] ++ (xs.take i ++ List.replicate (xs.length + 1 - i) z).drop (i + [y].length)).take (i + 1) ++ ((xs.take xs.length).drop i) ++ ((xs.take i ++ List.replicate (xs.length + 1 - i) z).take i ++ [y] ++ (xs.take i ++ List.replicate (xs.length + 1 - i) z).drop (i + [y].length)).drop (i + 1 + ((xs.take xs.length).drop i).length) = xs.take i ++ y :: xs.drop i := by
  have h1 : (xs.take i ++ List.replicate (xs.length + 1 - i) z).take i = xs.take i := by rw [List.take_append_of_le_length (by rw [List.length_take]; omega), List.take_take, Nat.min_self]
  have hl : (xs.take i ++ [y]).length = i + 1 := by simp; omega
  generalize hD : (xs.take i ++ List.replicate (xs.length + 1 - i) z).drop (i + [y].length) = D
  have hDl : D.length = xs.length - i := by rw [← hD, List.length_drop, List.length_append, List.length_take, List.length_replicate]; show _ - (i + 1) = _; omega
  rw [h1, List.take_left' hl, List.take_length]
  have hd : (xs.take i ++ [y] ++ D).drop (i + 1 + (xs.drop i).length) = [] := List.drop_eq_nil_of_le (by rw [List.length_append, hl, hDl, List.length_drop]; omega)
  rw [hd]
  simp

theorem insert_c (v u : Value) (xs : List D) (y : D) (i : Nat) (hi : i ≤ xs.length) (hl : xs.length ≤ 1000000) :
    CD Tryz.prog 107 [.sl v 1 22 (xs), .sl u 1 22 ([y])] [.ov v, dN i, .ov u] (fun r H' => ∃ v', r = .ov v' ∧ H' = [.sl v' 1 22 (xs.take i ++ y :: xs.drop i)]) := by
  refine zn Tryz.func107 rfl (N := 95) rfl rfl (fun C => ?_)
  refine jk [0, 1, 2] rfl ?_
  refine JD.ov1 0 rfl (fun ho1 => ?_)
  refine jT rfl (oR 1 rfl (oZ rfl (jT rfl (oR 2 rfl (oP rfl (zah (a := i) (b := xs.length) (j := 0) rfl rfl rfl rfl (by first | rfl | (show _ = _; omega) | (show _ = _; simp only [la, lc, ln, lm, lt', ld, ls, lr]; omega)) (by first | rfl | (show _ = _; omega) | (show _ = _; simp only [la, lc, ln, lm, lt', ld, ls, lr]; omega)) Tryz.runUnderlying36 Tryz.sizeOf22 (by omega) (by first | rfl | omega | (simp only [la, lc, ln, lm, lt', ld, ls, lr]; omega))) (oZ rfl (jT rfl (oR 1 rfl (oP rfl (zL (n := 1) (j := 1) rfl rfl Tryz.runUnderlying36 (by first | rfl | omega | (simp only [la, lc, ln, lm, lt', ld, ls, lr]; omega))) (oR 1 rfl (oZ rfl (jS rfl (jT rfl (oR 1 rfl (oP rfl (zJ rfl rfl rfl) (oZ rfl ?_))))))))))))))))
  refine jD rfl (fun hc1 => ?_) (fun hc1 => ?_)
  · skip
    exfalso; omega
  · skip
    refine zk rfl (zc (jT rfl (oR 1 rfl (oP rfl (zL (n := xs.length) (j := 0) rfl rfl Tryz.runUnderlying36 (by first | rfl | omega | (simp only [la, lc, ln, lm, lt', ld, ls, lr]; omega))) (oR 1 rfl (oZ rfl (jk [0, 1, 2, 6, 7, 8] rfl (jS rfl (jT rfl (oR 2 rfl (oP rfl (zJ rfl rfl rfl) (oZ rfl ?_))))))))))))
    refine jD rfl (fun hc2 => ?_) (fun hc2 => ?_)
    · skip
      have hi2 : i = xs.length := by omega
      refine jT rfl (oR 2 rfl (oE rfl (ef_append (i := 0) rfl rfl rfl (SrcD.own (j := 1) rfl rfl) zc3 infz_22 rfl rfl (by unfold maxLen; show _ + 1 ≤ _; omega) (by show (_ + 1) * _ ≤ _; omega)) ?_))
      rintro _ _ ⟨v3, rfl, rfl⟩
      refine on rfl (oR 1 rfl (oZ rfl (zl rfl (zb (PD.norm [.sl v3 1 22 (xs.take i ++ y :: xs.drop i), .sl u 1 22 ([y])] (by rw [show xs ++ [y] = xs.take i ++ y :: xs.drop i from by first | exact ins_end hi2 | exact ins_grow hi3 | exact ins_shift hi3]) ?_)))))
      exact zj Tryz.results107 (.cons (zh rfl) .nil) rfl (HSub.fst 1 rfl) ⟨v3, rfl, rfl⟩
    · skip
      have hi3 : i < xs.length := by omega
      refine zk rfl (zc (jS rfl (jT rfl (oR 2 rfl (oP rfl (zS (c := ((xs.length + 1 : Nat) : Int)) rfl rfl (zB (by omega) (by omega))) (oR 1 rfl ?_))))))
      refine OpsD.cap 0 rfl (fun hc1 hc2 => ?_)
      refine oP rfl (p_cap (j := 0) rfl rfl Tryz.runUnderlying36) (oP rfl (zag rfl rfl rfl) (oZ rfl ?_))
      refine jD rfl (fun hc4 => ?_) (fun hc4 => ?_)
      · skip
        refine jT rfl (oR 2 rfl (oP rfl (zah (a := 0) (b := i) (j := 0) rfl rfl rfl rfl (by first | rfl | (show _ = _; omega) | (show _ = _; simp only [la, lc, ln, lm, lt', ld, ls, lr]; omega)) (by first | rfl | (show _ = _; omega) | (show _ = _; simp only [la, lc, ln, lm, lt', ld, ls, lr]; omega)) Tryz.runUnderlying36 Tryz.sizeOf22 (by omega) (by first | rfl | omega | (simp only [la, lc, ln, lm, lt', ld, ls, lr]; omega))) (oR 2 rfl (oP rfl (zS (c := ((xs.length + 1 : Nat) : Int)) rfl rfl (zB (by omega) (by omega))) (oR 1 rfl (oP rfl (zau (c := (((xs.length + 1) - i : Nat) : Int)) rfl rfl (zB (by omega) (by omega))) (oE rfl (ef_append_zeros (j := 0) (k := xs.length + 1 - i) rfl rfl rfl (by first | rfl | omega) zc3 (show Tryz.prog.underlying 3 = some (.int .i64) by kernel_rfl) infz_22 rfl Cv.rfl' (by omega) (by omega) (by omega) (by omega) (by omega) (by unfold maxLen; omega)) ?_)))))))
        rintro _ _ ⟨v5, rfl, rfl⟩
        refine on rfl (oR 1 rfl (oZ rfl (jk [0, 1, 2, 6, 7, 8, 9] rfl (jT rfl (oR 2 rfl (oP rfl (zah (a := i) (b := xs.length + 1) (j := 0) rfl rfl rfl rfl (by first | rfl | (show _ = _; omega) | (show _ = _; simp only [la, lc, ln, lm, lt', ld, ls, lr]; omega)) (by first | rfl | (show _ = _; omega) | (show _ = _; simp only [la, lc, ln, lm, lt', ld, ls, lr]; omega)) Tryz.runUnderlying36 Tryz.sizeOf22 (by omega) (by first | rfl | omega | (simp only [la, lc, ln, lm, lt', ld, ls, lr]; omega))) (oR 1 rfl (oE rfl (ef_copy_in (i := 0) (a := i) (b := xs.length + 1) rfl rfl rfl (SrcD.own (j := 2) rfl rfl) zc3 Tryz.sizeOf22 Nat.zero_lt_one (by first | rfl | omega | (simp only [la, lc, ln, lm, lt', ld, ls, lr]; omega)) (by first | rfl | omega | (simp only [la, lc, ln, lm, lt', ld, ls, lr]; omega)) (by first | rfl | omega | (simp only [la, lc, ln, lm, lt', ld, ls, lr]; omega))) ?_))))))))
        rintro _ _ ⟨rfl, rfl⟩
        refine on rfl (oZ rfl (jS rfl (jk [0, 1, 2, 6, 7, 8, 9, 41, 42, 43, 44, 45] rfl (jn rfl ?_))))
        refine zX 8 [(46, .ov v5, none), (47, dN i, none), (48, dI 1, none), (49, dN (i + 1), none), (50, .v (cut 1 v5 (i + 1) (xs.length + 1)), none), (51, .ov v, none), (52, dN i, none), (53, .v (cut 1 v i xs.length), none)] [.sl v5 1 22 ((xs.take i ++ List.replicate (xs.length + 1 - i) (D.v (.slice none 0 0))).take i ++ [y] ++ (xs.take i ++ List.replicate (xs.length + 1 - i) (D.v (.slice none 0 0))).drop (i + ([y]).length)), .sl v 1 22 (xs), .sl u 1 22 ([y])] (Hn := [.sl v5 1 22 ((xs.take i ++ List.replicate (xs.length + 1 - i) (D.v (.slice none 0 0))).take i ++ [y] ++ (xs.take i ++ List.replicate (xs.length + 1 - i) (D.v (.slice none 0 0))).drop (i + ([y]).length)), .sl v 1 22 (xs), .sl u 1 22 ([y])]) mixed rfl rfl rfl rfl HSub.rfl' rfl ⟨sa_p rfl rfl rfl (zd rfl), sa_p rfl rfl rfl (zd rfl), sa_p rfl rfl rfl (zd rfl), sa_p rfl rfl rfl (zS (c := ((i + 1 : Nat) : Int)) rfl rfl (zB (by omega) (by omega))), sa_p rfl rfl rfl (zah (a := i + 1) (b := xs.length + 1) (j := 0) rfl rfl rfl rfl (by first | rfl | (show _ = _; omega) | (show _ = _; simp only [la, lc, ln, lm, lt', ld, ls, lr]; omega)) (by first | rfl | (show _ = _; omega) | (show _ = _; simp only [la, lc, ln, lm, lt', ld, ls, lr]; omega)) Tryz.runUnderlying36 Tryz.sizeOf22 (by omega) (by first | rfl | omega | (simp only [la, lc, ln, lm, lt', ld, ls, lr]; omega))), sa_p rfl rfl rfl (zd rfl), sa_p rfl rfl rfl (zd rfl), sa_p rfl rfl rfl (zah (a := i) (b := xs.length) (j := 1) rfl rfl rfl rfl (by first | rfl | (show _ = _; omega) | (show _ = _; simp only [la, lc, ln, lm, lt', ld, ls, lr]; omega)) (by first | rfl | (show _ = _; omega) | (show _ = _; simp only [la, lc, ln, lm, lt', ld, ls, lr]; omega)) Tryz.runUnderlying36 Tryz.sizeOf22 (by omega) (by first | rfl | omega | (simp only [la, lc, ln, lm, lt', ld, ls, lr]; omega))), trivial⟩ ?_
        refine ok [0, 1, 2, 6, 7, 8, 9, 41, 42, 43, 44, 45, 46, 47, 48, 49, 50, 51, 52, 53] rfl (oE rfl (ef_copy_in (i := 0) (a := i + 1) (b := xs.length + 1) rfl rfl rfl (SrcD.cut (j := 1) rfl (by omega) (by omega)) zc3 Tryz.sizeOf22 (by show 0 < _; simp only [la, lc, ln, lm, lt', ld, ls, lr]; omega) (by first | rfl | omega | (simp only [la, lc, ln, lm, lt', ld, ls, lr]; omega)) (by first | rfl | omega | (simp only [la, lc, ln, lm, lt', ld, ls, lr]; omega)) (by first | rfl | omega | (simp only [la, lc, ln, lm, lt', ld, ls, lr]; omega))) ?_)
        rintro _ _ ⟨rfl, rfl⟩
        refine on rfl (oZ rfl (jk [0, 1, 2, 6, 7, 8, 9] rfl (jT rfl (oR 2 rfl (oZ rfl (zl rfl (zb (PD.norm [.sl v5 1 22 (xs.take i ++ y :: xs.drop i), .sl v 1 22 (xs), .sl u 1 22 ([y])] (by rw [show ((xs.take i ++ List.replicate (xs.length + 1 - i) (D.v (.slice none 0 0))).take i ++ [y] ++ (xs.take i ++ List.replicate (xs.length + 1 - i) (D.v (.slice none 0 0))).drop (i + ([y]).length)).take (i + 1) ++ ((xs.take xs.length).drop i) ++ ((xs.take i ++ List.replicate (xs.length + 1 - i) (D.v (.slice none 0 0))).take i ++ [y] ++ (xs.take i ++ List.replicate (xs.length + 1 - i) (D.v (.slice none 0 0))).drop (i + ([y]).length)).drop ((i + 1) + ((xs.take xs.length).drop i).length) = xs.take i ++ y :: xs.drop i from by first | exact ins_end hi2 | exact ins_grow hi3 | exact ins_shift hi3]) ?_))))))))
        exact zj Tryz.results107 (.cons (zh rfl) .nil) rfl (HSub.fst 1 rfl) ⟨v5, rfl, rfl⟩
      · skip
        refine zk rfl (zc (jk [0, 1, 2, 6, 7, 8] rfl (jT rfl (oR 3 rfl (oP rfl (zS (c := ((xs.length + 1 : Nat) : Int)) rfl rfl (zB (by omega) (by omega))) (oP rfl (p_slice_more (b := xs.length + 1) (j := 0) rfl rfl rfl rfl (by first | rfl | (show _ = _; omega) | (show _ = _; simp only [la, lc, ln, lm, lt', ld, ls, lr]; omega)) (by first | rfl | (show _ = _; omega) | (show _ = _; simp only [la, lc, ln, lm, lt', ld, ls, lr]; omega)) Tryz.runUnderlying36 Tryz.sizeOf22 (by omega)) (oR 1 rfl (oZ rfl (jS rfl (jT rfl (oR 4 rfl (oP rfl (zS (c := ((i + 1 : Nat) : Int)) rfl rfl (zB (by omega) (by omega))) (oP rfl (p_slice_part (a := i + 1) (b := xs.length + 1) (j := 0) rfl rfl rfl rfl (by first | rfl | (show _ = _; omega) | (show _ = _; simp only [la, lc, ln, lm, lt', ld, ls, lr]; omega)) (by first | rfl | (show _ = _; omega) | (show _ = _; simp only [la, lc, ln, lm, lt', ld, ls, lr]; omega)) Tryz.runUnderlying36 Tryz.sizeOf22 (by omega) (by omega) (by omega) (by omega)) ?_)))))))))))))
        refine OpsD.apart (fun hap => ?_)
        refine oP rfl (p_overlaps (i := 1) (j := 0) rfl rfl rfl rfl rfl (by omega) (by omega) (Nat.zero_lt_one) hap) (oR 1 rfl (oZ rfl (jk [0, 1, 2, 6, 7, 8, 68] rfl (jCt rfl (jS rfl (jk [0, 1, 2, 6, 7, 8, 68] rfl (jn rfl ?_)))))))
        refine zX 8 [(69, .v (cut 1 v 0 (xs.length + 1)), none), (70, dN i, none), (71, dI 1, none), (72, dN (i + 1), none), (73, .v (cut 1 (cut 1 v 0 (xs.length + 1)) (i + 1) (xs.length + 1)), none), (74, .v (cut 1 v 0 (xs.length + 1)), none), (75, dN i, none), (76, .v (cut 1 (cut 1 v 0 (xs.length + 1)) i (xs.length + 1)), none)] [.sl v 1 22 (xs), .sl u 1 22 ([y])] (Hn := [.sl v 1 22 (xs), .sl u 1 22 ([y])]) mixed rfl rfl rfl rfl HSub.rfl' rfl ⟨sa_p rfl rfl rfl (zd rfl), sa_p rfl rfl rfl (zd rfl), sa_p rfl rfl rfl (zd rfl), sa_p rfl rfl rfl (zS (c := ((i + 1 : Nat) : Int)) rfl rfl (zB (by omega) (by omega))), sa_p rfl rfl rfl (p_slice_part (a := i + 1) (b := xs.length + 1) (j := 0) rfl rfl rfl rfl (by first | rfl | (show _ = _; omega) | (show _ = _; simp only [la, lc, ln, lm, lt', ld, ls, lr]; omega)) (by first | rfl | (show _ = _; omega) | (show _ = _; simp only [la, lc, ln, lm, lt', ld, ls, lr]; omega)) Tryz.runUnderlying36 Tryz.sizeOf22 (by omega) (by omega) (by omega) (by omega)), sa_p rfl rfl rfl (zd rfl), sa_p rfl rfl rfl (zd rfl), sa_p rfl rfl rfl (p_slice_part (a := i) (b := xs.length + 1) (j := 0) rfl rfl rfl rfl (by first | rfl | (show _ = _; omega) | (show _ = _; simp only [la, lc, ln, lm, lt', ld, ls, lr]; omega)) (by first | rfl | (show _ = _; omega) | (show _ = _; simp only [la, lc, ln, lm, lt', ld, ls, lr]; omega)) Tryz.runUnderlying36 Tryz.sizeOf22 (by omega) (by omega) (by omega) (by omega)), trivial⟩ ?_
        refine ok [0, 1, 2, 6, 7, 8, 68, 69, 70, 71, 72, 73, 74, 75, 76] rfl (oE rfl (ef_copy_shift (i := 0) (a := i) (n := xs.length) rfl rfl rfl rfl zc3 Tryz.sizeOf22 (by omega) (by omega)) ?_)
        rintro _ _ ⟨rfl, rfl⟩
        refine on rfl (oZ rfl (jk [0, 1, 2, 6, 7, 8] rfl (jT rfl (oR 2 rfl (oP rfl (zah (a := i) (b := xs.length + 1) (j := 0) rfl rfl rfl rfl (by first | rfl | (show _ = _; omega) | (show _ = _; simp only [la, lc, ln, lm, lt', ld, ls, lr]; omega)) (by first | rfl | (show _ = _; omega) | (show _ = _; simp only [la, lc, ln, lm, lt', ld, ls, lr]; omega)) Tryz.runUnderlying36 Tryz.sizeOf22 (by omega) (by first | rfl | omega | (simp only [la, lc, ln, lm, lt', ld, ls, lr]; omega))) (oR 1 rfl (oE rfl (ef_copy_in (i := 0) (a := i) (b := xs.length + 1) rfl rfl rfl (SrcD.own (j := 1) rfl rfl) zc3 Tryz.sizeOf22 Nat.zero_lt_one (by first | rfl | omega | (simp only [la, lc, ln, lm, lt', ld, ls, lr]; omega)) (by first | rfl | omega | (simp only [la, lc, ln, lm, lt', ld, ls, lr]; omega)) (by first | rfl | omega | (simp only [la, lc, ln, lm, lt', ld, ls, lr]; omega))) ?_)))))))
        rintro _ _ ⟨rfl, rfl⟩
        refine on rfl (oZ rfl (jT rfl (oR 2 rfl (oZ rfl (zl rfl (zb (PD.norm [.sl (cut 1 v 0 (xs.length + 1)) 1 22 (xs.take i ++ y :: xs.drop i), .sl u 1 22 ([y])] (by rw [show (xs.take (i + 1) ++ xs.drop i).take i ++ [y] ++ (xs.take (i + 1) ++ xs.drop i).drop (i + ([y]).length) = xs.take i ++ y :: xs.drop i from by first | exact ins_end hi2 | exact ins_grow hi3 | exact ins_shift hi3]) ?_)))))))
        exact zj Tryz.results107 (.cons (zr (zh rfl) (Cv.ov (cut_one ho1))) .nil) rfl (HSub.fst 1 rfl) ⟨(cut 1 v 0 (xs.length + 1)), rfl, rfl⟩
end Lp
/-
  Groups of rows (chapter 11), as plain data: rows with the same key together, the groups in the order of their keys.
-/
set_option linter.unusedVariables false
namespace Lp
open Go
def byL (mode : Int) (ns : List ByteArray) (l : List Lbl) : List Lbl := if mode = 1 ∨ mode = 2 then keyL mode ns l else []
section
variable (κ : RowD → List Lbl)
def zaJ : List RowD → List Lbl
  | [] => []
  | x :: _ => κ x
def insG : List (List RowD) → RowD → List (List RowD)
  | [], r => [[r]]
  | g :: gs, r => if zK (zaJ κ g) (κ r) < 0 then g :: insG gs r else if zaJ κ g = κ r then (g ++ [r]) :: gs else [r] :: g :: gs
def za9 (l : List RowD) : List (List RowD) := l.foldl (insG κ) []
/-- no group is empty, and their keys stand in order, each once -/
structure GOk (gs : List (List RowD)) : Prop where
  ne : ∀ g ∈ gs, g ≠ []
  lt : gs.Pairwise (fun a b => zK (zaJ κ a) (zaJ κ b) < 0)
end
section
variable {κ : RowD → List Lbl} {gs : List (List RowD)} {r : RowD}
theorem cmpLs_lt {a b c : List Lbl} (h1 : zK a b < 0) (h2 : zK b c < 0) : zK a c < 0 := (zcm a b c).lt1 h1 (by omega)
theorem cmpLs_gt {a b : List Lbl} (h : ¬ zK a b < 0) (hne : a ≠ b) : zK b a < 0 := by
  have h1 := zcn a b
  have h2 : zK a b ≠ 0 := fun e => hne (zcL.1 e)
  omega
theorem headK_app {g : List RowD} (h : g ≠ []) : zaJ κ (g ++ [r]) = zaJ κ g := by cases g with
  | nil => exact absurd rfl h
  | cons x g => rfl
theorem insG_head (h : GOk κ gs) : ∀ g ∈ insG κ gs r, zaJ κ g = κ r ∨ ∃ g' ∈ gs, zaJ κ g = zaJ κ g' := by
  induction gs with
  | nil => intro g hg; rw [show insG κ [] r = [[r]] from rfl, List.mem_singleton] at hg; subst hg; exact .inl rfl
  | cons a gs ih =>
    have h' : GOk κ gs := ⟨fun g hg => h.ne g (List.mem_cons_of_mem _ hg), (List.pairwise_cons.1 h.lt).2⟩
    intro g hg
    unfold insG at hg
    split at hg
    · rcases List.mem_cons.1 hg with e | e
      · exact .inr ⟨a, List.mem_cons_self, by rw [e]⟩
      · rcases ih h' g e with e | ⟨g', h1, h2⟩
        · exact .inl e
        · exact .inr ⟨g', List.mem_cons_of_mem _ h1, h2⟩
    · split at hg
      · rcases List.mem_cons.1 hg with e | e
        · exact .inr ⟨a, List.mem_cons_self, by rw [e, headK_app (h.ne a List.mem_cons_self)]⟩
        · exact .inr ⟨g, List.mem_cons_of_mem _ e, rfl⟩
      · rcases List.mem_cons.1 hg with e | e
        · exact .inl (by rw [e]; rfl)
        · exact .inr ⟨g, e, rfl⟩
theorem insG_ok (h : GOk κ gs) : GOk κ (insG κ gs r) := by
  induction gs with
  | nil => exact ⟨fun g hg => by rw [show insG κ [] r = [[r]] from rfl, List.mem_singleton] at hg; subst hg; simp, List.pairwise_singleton _ _⟩
  | cons a gs ih =>
    have hp := List.pairwise_cons.1 h.lt
    have h' : GOk κ gs := ⟨fun g hg => h.ne g (List.mem_cons_of_mem _ hg), hp.2⟩
    have ha := h.ne a List.mem_cons_self
    unfold insG
    split
    · rename_i hlt
      have i := ih h'
      refine ⟨fun g hg => ?_, List.pairwise_cons.2 ⟨fun g hg => ?_, i.lt⟩⟩
      · rcases List.mem_cons.1 hg with e | e
        · rw [e]; exact ha
        · exact i.ne g e
      · rcases insG_head h' g hg with e | ⟨g', h1, h2⟩
        · rw [e]; exact hlt
        · rw [h2]; exact hp.1 g' h1
    · rename_i hlt
      split
      · rename_i he
        refine ⟨fun g hg => ?_, List.pairwise_cons.2 ⟨fun g hg => ?_, hp.2⟩⟩
        · rcases List.mem_cons.1 hg with e | e
          · rw [e]; simp
          · exact h'.ne g e
        · rw [headK_app ha]; exact hp.1 g hg
      · rename_i he
        have hr : zK (κ r) (zaJ κ a) < 0 := cmpLs_gt hlt he
        refine ⟨fun g hg => ?_, List.pairwise_cons.2 ⟨fun g hg => ?_, h.lt⟩⟩
        · rcases List.mem_cons.1 hg with e | e
          · rw [e]; simp
          · exact h.ne g e
        · rcases List.mem_cons.1 hg with e | e
          · rw [e]; exact hr
          · exact cmpLs_lt hr (hp.1 g e)
theorem splitG_snoc {l : List RowD} {k : Nat} {x : RowD} (h : l[k]? = some x) : za9 κ (l.take (k + 1)) = insG κ (za9 κ (l.take k)) x := by
  unfold za9; rw [zas h, List.foldl_append]; rfl
theorem splitG_ok (l : List RowD) : GOk κ (za9 κ l) := by
  unfold za9
  generalize hs : ([] : List (List RowD)) = s
  have h0 : GOk κ s := by rw [← hs]; exact ⟨fun _ h => (by cases h), List.Pairwise.nil⟩
  clear hs
  induction l generalizing s with
  | nil => exact h0
  | cons x l ih => exact ih _ (insG_ok h0)
theorem insG_len : (insG κ gs r).length ≤ gs.length + 1 := by
  induction gs with
  | nil => exact Nat.le_refl _
  | cons a gs ih =>
    unfold insG; split
    · simp only [List.length_cons]; omega
    · split <;> simp only [List.length_cons] <;> omega
theorem splitG_len (l : List RowD) : (za9 κ l).length ≤ l.length := by
  unfold za9
  have : ∀ s : List (List RowD), (l.foldl (insG κ) s).length ≤ s.length + l.length := by
    induction l with
    | nil => intro s; exact Nat.le_refl _
    | cons x l ih => intro s; have := ih (insG κ s x); have := @insG_len κ s x; simp only [List.foldl_cons, List.length_cons]; omega
  simpa using this []
theorem splitG_rows (l : List RowD) : ∀ g ∈ za9 κ l, g.length ≤ l.length := by
  unfold za9
  have hi : ∀ (gs : List (List RowD)) (r : RowD) (n : Nat), (∀ g ∈ gs, g.length ≤ n) → ∀ g ∈ insG κ gs r, g.length ≤ n + 1 := by
    intro gs r n h
    induction gs with
    | nil => intro g hg; rw [show insG κ [] r = [[r]] from rfl, List.mem_singleton] at hg; subst hg; simp
    | cons a gs ih =>
      have ha := h a List.mem_cons_self
      intro g hg
      unfold insG at hg
      split at hg
      · rcases List.mem_cons.1 hg with e | e
        · rw [e]; omega
        · exact ih (fun g hg => h g (List.mem_cons_of_mem _ hg)) g e
      · split at hg
        · rcases List.mem_cons.1 hg with e | e
          · rw [e]; simp; omega
          · exact Nat.le_succ_of_le (h g (List.mem_cons_of_mem _ e))
        · rcases List.mem_cons.1 hg with e | e
          · rw [e]; simp
          · exact Nat.le_succ_of_le (h g e)
  have : ∀ (s : List (List RowD)) (n : Nat), (∀ g ∈ s, g.length ≤ n) → ∀ g ∈ l.foldl (insG κ) s, g.length ≤ n + l.length := by
    induction l with
    | nil => intro s n h; exact h
    | cons x l ih => intro s n h g hg; have := ih _ (n + 1) (hi s x n h) g hg; simp only [List.length_cons]; omega
  intro g hg
  have := this [] 0 (fun _ h => by cases h) g hg
  omega
theorem splitG_mem (l : List RowD) : ∀ g ∈ za9 κ l, ∀ x ∈ g, x ∈ l := by
  unfold za9
  have hi : ∀ (gs : List (List RowD)) (r : RowD) (p : RowD → Prop), p r → (∀ g ∈ gs, ∀ x ∈ g, p x) → ∀ g ∈ insG κ gs r, ∀ x ∈ g, p x := by
    intro gs r p hr h
    induction gs with
    | nil => intro g hg x hx; rw [show insG κ [] r = [[r]] from rfl, List.mem_singleton] at hg; subst hg; rw [List.mem_singleton.1 hx]; exact hr
    | cons a gs ih =>
      have ih := ih (fun g hg => h g (List.mem_cons_of_mem _ hg))
      intro g hg x hx
      unfold insG at hg
      split at hg
      · rcases List.mem_cons.1 hg with e | e
        · exact h a List.mem_cons_self x (e ▸ hx)
        · exact ih g e x hx
      · split at hg
        · rcases List.mem_cons.1 hg with e | e
          · rw [e] at hx
            rcases List.mem_append.1 hx with hx | hx
            · exact h a List.mem_cons_self x hx
            · rw [List.mem_singleton.1 hx]; exact hr
          · exact h g (List.mem_cons_of_mem _ e) x hx
        · rcases List.mem_cons.1 hg with e | e
          · rw [e] at hx; rw [List.mem_singleton.1 hx]; exact hr
          · exact h g e x hx
  have : ∀ (m : List RowD) (s : List (List RowD)) (p : RowD → Prop), (∀ x ∈ m, p x) → (∀ g ∈ s, ∀ x ∈ g, p x) → ∀ g ∈ m.foldl (insG κ) s, ∀ x ∈ g, p x := by
    intro m
    induction m with
    | nil => intro s p _ h; exact h
    | cons y m ih => intro s p hm h; exact ih _ p (fun x hx => hm x (List.mem_cons_of_mem _ hx)) (hi s y p (hm y List.mem_cons_self) h)
  exact this l [] (· ∈ l) (fun _ h => h) (fun _ h => by cases h)
/-- where a row goes: what a search by halves finds -/
structure BsOk (κ : RowD → List Lbl) (gs : List (List RowD)) (key : List Lbl) (i : Nat) (f : Bool) : Prop where
  le : i ≤ gs.length
  lo : ∀ t g, t < i → gs[t]? = some g → zK (zaJ κ g) key < 0
  hi : ∀ t g, i ≤ t → gs[t]? = some g → ¬ zK (zaJ κ g) key < 0
  is : f = true ↔ ∃ g, gs[i]? = some g ∧ zaJ κ g = key
theorem insG_at {f : Bool} {i : Nat} (h : BsOk κ gs (κ r) i f) : insG κ gs r = if f = true then gs.set i ((gs[i]?).getD [] ++ [r]) else gs.take i ++ [r] :: gs.drop i := by
  induction gs generalizing i with
  | nil =>
    have hi : i = 0 := by have := h.le; simpa using this
    have hf : f = false := by
      cases f with
      | false => rfl
      | true => obtain ⟨g, hg, _⟩ := h.is.1 rfl; simp at hg
    subst hi; subst hf; rfl
  | cons a gs ih =>
    cases i with
    | zero =>
      have h0 := h.hi 0 a (Nat.le_refl _) rfl
      unfold insG
      rw [if_neg h0]
      by_cases he : zaJ κ a = κ r
      · rw [if_pos he, if_pos (h.is.2 ⟨a, rfl, he⟩)]; rfl
      · rw [if_neg he, if_neg (fun e => by obtain ⟨g, hg, h2⟩ := h.is.1 e; simp at hg; subst hg; exact he h2)]; rfl
    | succ i =>
      have h0 := h.lo 0 a (Nat.succ_pos _) rfl
      unfold insG
      rw [if_pos h0, ih (i := i) ⟨by have := h.le; simpa using this, fun t g ht hg => h.lo (t + 1) g (by omega) (by simpa using hg), fun t g ht hg => h.hi (t + 1) g (by omega) (by simpa using hg), by simpa using h.is⟩]
      cases f with
      | true => simp
      | false => simp
theorem GOk.pair (h : GOk κ gs) {s t : Nat} {a b : List RowD} (ha : gs[s]? = some a) (hb : gs[t]? = some b) (hst : s < t) : zK (zaJ κ a) (zaJ κ b) < 0 := by
  obtain ⟨h1, e1⟩ := List.getElem?_eq_some_iff.1 ha
  obtain ⟨h2, e2⟩ := List.getElem?_eq_some_iff.1 hb
  have := List.pairwise_iff_getElem.1 h.lt s t h1 h2 hst
  rwa [e1, e2] at this
theorem GOk.below (h : GOk κ gs) {s t : Nat} {a b : List RowD} {key : List Lbl} (ha : gs[s]? = some a) (hb : gs[t]? = some b) (hst : s ≤ t) (hk : zK (zaJ κ b) key < 0) : zK (zaJ κ a) key < 0 := by
  rcases Nat.lt_or_ge s t with hl | hl
  · exact cmpLs_lt (h.pair ha hb hl) hk
  · have : s = t := by omega
    subst this; rw [ha] at hb; injection hb with hb; rw [hb]; exact hk
end
end Lp
