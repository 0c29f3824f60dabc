/-
  Tables that the program reads; numbers to texts and back, by the library's own contracts.
-/
import Derived.Lib.QuietBelow
import Derived.Lib.SmallJoins
import Derived.Test.YtoanlikkhjohpaaDoorRows
import Derived.ProofKit
import Derived.LaidMore
import Derived.OpenShut
import Derived.Stop.Joined
import Derived.Test.YtoanlikkhjohpaaDoorProg
import Derived.Test.YtoanlikkhjohpaaDoorPLex
set_option linter.unusedVariables false
namespace Lp
open Go Go.RowKit Go.Proofs
/-- a call that only makes new blocks -/
theorem cd_ext {P : Program} {f : FuncId} {H : List Hp} {ds : List D} {R : D → List Hp → Prop} (h : ∀ w F vs, D.repA w F ds vs → (∀ x ∈ H, x.ok w F) → Calls P f vs.toArray w (Ret fun res w' => Ext w w' ∧ ∃ r, R r H ∧ D.rep w' F r res)) : CD P f H ds R :=
  ⟨fun w F vs hvs hF hH => (h w F vs hvs hH.ok).mono fun e w' he => by
    obtain ⟨v, rfl, E, r, hR, hr⟩ := he
    have k : Keep w F w' F := ⟨fun _ h => h, fun b hb hlt => E.block b hlt (.inr (Nat.zero_le _))⟩
    refine ⟨v, rfl, F, r, H, hR, hr, ⟨E.size, E.os, E.tape, E.output, fun b hb _ => E.block b hb (.inr (Nat.zero_le _)), fun _ h => h, fun _ h => .inl h, fun b hb => Nat.lt_of_lt_of_le (hF b hb) E.size, ⟨hH.apart, fun x hx => ?_, fun g hg => ⟨.inr hg, (hH.mine g hg).2⟩⟩⟩⟩
    have ok := hH.ok x hx
    exact Hp.keep ok k (fun g hg => E.block g (Hp.lt ok hg) (.inr (Nat.zero_le _)))⟩
theorem tab_of {P : Program} {w : World} {name : String} {g : Nat} {k : IntKind} {zs : List Int} {T : TypeId} {fr : Nat × Nat} (hg : P.globalNamed name = some g) (h : w.heap[g]? = some (.cells (zs.map fun z => Value.int k z).toArray T fr)) : Lib.TabIs P w name k zs := by
  unfold Lib.TabIs World.var?
  rw [hg]
  show (match w.heap[g]? with | some (.cells cs _ _) => some cs | _ => none) = _
  rw [h]
theorem ext_below {w w' : World} (h : Below w.heap.size w w') : Ext w w' := ⟨h.os, h.tape, h.output, h.size, fun k hk _ => h.block k hk⟩
def zbT : Array Value := (Lib.pow10Tab.map fun z => Value.int .u64 z).toArray
abbrev HPow : Hp := .tab 3 zbT
abbrev HErr (ev : Value) : Hp := .tab 2 #[ev]
def EvOk (ev : Value) : Prop := ev = .nilIface ∨ ∃ te pe, ev = .iface te pe
theorem digL_dec : ∀ n : Nat, digL n = Lib.decDigits n := by
  intro n
  induction n using Nat.strongRecOn with
  | _ n ih =>
    unfold digL Lib.decDigits
    split
    · rfl
    · rw [ih (n / 10) (by omega)]
theorem digL_len : ∀ n : Nat, (digL n).length ≤ n + 1 := by
  intro n
  induction n using Nat.strongRecOn with
  | _ n ih =>
    unfold digL
    split
    · simp
    · rw [List.length_append]; have := ih (n / 10) (by omega); simp only [List.length_cons, List.length_nil]; omega
theorem digB_size (n : Nat) : (digB n).size ≤ n + 1 := by unfold digB; rw [zaw]; exact digL_len n
theorem itoa_c (n : Nat) (hn : n ≤ 1000000000000) : CD Tryd.prog 36 [HPow] [dN n] (fun r H' => r = .s (digB n) ∧ H' = [HPow]) :=
  cd_ext fun w F vs hvs hok => by
    obtain ⟨u, us, rfl, hu, hus⟩ := hvs
    have hu : u = _ := hu
    have hus : us = [] := hus
    subst hu; subst hus
    obtain ⟨hF, T, fr, hh⟩ := hok _ List.mem_cons_self
    refine (Any.strconv_Itoa Tryd.laysM171 (n : Int) (by omega) (by omega) w (tab_of (by kernel_rfl) hh)).mono fun e w' he => ?_
    obtain ⟨rfl, k, os, rfl⟩ := he
    refine ⟨_, rfl, ext_below (below_regrown w (w.drawn + k) os), .s (digB n), ⟨rfl, rfl⟩, ?_, ?_⟩
    · show Value.string _ = Value.string _
      congr 1
      show _ = mkB (digL n)
      unfold mkB Lib.itoa
      rw [if_neg (by omega), digL_dec]; rfl
    · have := digB_size n; unfold maxLen; omega
/-! ### digits -/
def Digs (l : List UInt8) : Prop := ∀ b ∈ l, 48 ≤ b.toNat ∧ b.toNat ≤ 57
theorem parse_no : ∀ (l : List UInt8) (acc : Nat), Digs l → (∃ u, Lib.parseUint10 acc l = .ok u) ∨ Lib.parseUint10 acc l = .range
  | [], acc, _ => .inl ⟨_, rfl⟩
  | c :: r, acc, h => by
    have hc := h c List.mem_cons_self
    unfold Lib.parseUint10
    rw [if_pos hc]
    split
    · exact .inr rfl
    · split
      · exact .inr rfl
      · exact parse_no r _ (fun b hb => h b (List.mem_cons_of_mem _ hb))
theorem parse_ok : ∀ (l : List UInt8) (acc k : Nat), Digs l → acc < 10 ^ k → l.length + k ≤ 13 → Lib.parseUint10 acc l = .ok (l.foldl (fun n b => 10 * n + (b.toNat - 48)) acc) ∧ l.foldl (fun n b => 10 * n + (b.toNat - 48)) acc < 10 ^ 13
  | [], acc, k, _, ha, hl => ⟨rfl, Nat.lt_of_lt_of_le ha (Nat.pow_le_pow_right (by omega) (by simpa using hl))⟩
  | c :: r, acc, k, h, ha, hl => by
    have hc := h c List.mem_cons_self
    have hk : 10 ^ k ≤ 10 ^ 13 := Nat.pow_le_pow_right (by omega) (by omega)
    have h13 : (10 : Nat) ^ 13 = 10000000000000 := by decide
    have ih := parse_ok r (10 * acc + (c.toNat - 48)) (k + 1) (fun b hb => h b (List.mem_cons_of_mem _ hb)) (by rw [Nat.pow_succ]; omega) (by simp only [List.length_cons] at hl; omega)
    unfold Lib.parseUint10
    rw [if_pos hc, if_neg (by omega), if_neg (by omega), Nat.mul_comm acc 10]
    exact ih
theorem atoi_ok {l : List UInt8} (h : Digs l) (hne : l ≠ []) (hl : l.length ≤ 13) : Lib.atoiAll l = .ok (digV l : Int) := by
  cases l with
  | nil => exact absurd rfl hne
  | cons c r =>
    have hc := h c List.mem_cons_self
    obtain ⟨h1, h2⟩ := parse_ok (c :: r) 0 0 h (by decide) (by omega)
    have h13 : (10 : Nat) ^ 13 = 10000000000000 := by decide
    rw [Lib.atoiAll_plain c r (by omega) (by omega)]
    unfold Lib.parseMag
    rw [if_neg (by simp), h1]
    unfold Lib.signless
    simp only []
    rw [if_neg (by omega)]; rfl
theorem atoi_no {l : List UInt8} (h : Digs l) (hne : l ≠ []) : (∃ v, Lib.atoiAll l = .ok v) ∨ Lib.atoiAll l = .range := by
  cases l with
  | nil => exact absurd rfl hne
  | cons c r =>
    have hc := h c List.mem_cons_self
    have hp := parse_no (c :: r) 0 h
    rw [Lib.atoiAll_plain c r (by omega) (by omega)]
    unfold Lib.parseMag
    rw [if_neg (by simp)]
    unfold Lib.signless
    rcases hp with ⟨u, e⟩ | e
    · rw [e]
      simp only []
      split
      · first | exact .inr rfl | exact .inl ⟨_, rfl⟩
      · first | exact .inl ⟨_, rfl⟩ | exact .inr rfl
    · rw [e]; exact .inr rfl
theorem atoi_c (s : ByteArray) (ev : Value) (hev : EvOk ev) (hd : Digs (bl8 s)) (hne : bl8 s ≠ []) (hs : s.size ≤ 1000000) : CD Tryd.prog 35 [HErr ev] [.s s] (fun r H' => ∃ v x, r = .tup [dI v, x] ∧ H' = [HErr ev] ∧ (s.size ≤ 13 → v = (digV (bl8 s) : Int) ∧ x = .v .nilIface) ∧ -9223372036854775808 ≤ v ∧ v ≤ 9223372036854775807) :=
  cd_ext fun w F vs hvs hok => by
    obtain ⟨u, us, rfl, hu, hus⟩ := hvs
    obtain ⟨hu, hm⟩ := hu
    have hus : us = [] := hus
    subst hu; subst hus
    rcases atoi_no hd hne with ⟨v, ha⟩ | ha
    · skip
      have hb := Lib.atoiAll_bounds ha
      refine (Any.strconv_Atoi_ok Tryd.laysC172 s (by omega) v ha w).mono fun e w' he => ?_
      obtain ⟨rfl, hw⟩ := he
      refine ⟨_, rfl, ?_, .tup [dI v, .v .nilIface], ⟨v, _, rfl, rfl, fun h13 => ⟨?_, rfl⟩, hb.1, hb.2⟩, ⟨_, rfl, _, _, rfl, rfl, _, _, rfl, rfl, rfl⟩⟩
      · rcases hw with rfl | ⟨t, rfl⟩
        · exact Ext.rfl'
        · exact ext_below (Joins.below_bytesWorld _ w _ t (Nat.le_refl _))
      · have := atoi_ok hd hne (by rw [z8]; exact h13)
        rw [this] at ha; injection ha with ha; exact ha.symm
    · skip
      have hb := Lib.atoiSat_bounds (bl8 s)
      obtain ⟨hF, T, fr, hh⟩ := hok _ List.mem_cons_self
      have hcell : w.cell? ⟨2, 0, none⟩ = some ev := by
        unfold World.cell?
        rw [hh]; rfl
      refine (Any.strconv_Atoi_range Tryd.laysC172 s (by omega) ha ev w hcell hev).mono fun e w' he => ?_
      obtain ⟨N, rfl, _, _, hbel⟩ := he
      refine ⟨_, rfl, ext_below hbel, .tup [dI (Lib.atoiSat (bl8 s)), .any], ⟨_, _, rfl, rfl, fun h13 => ?_, hb.1, hb.2⟩, ⟨_, rfl, _, _, rfl, rfl, _, _, rfl, rfl, rfl⟩⟩
      have := atoi_ok hd hne (by rw [z8]; exact h13)
      rw [this] at ha; cases ha
end Lp
/-
  What the tables hold when a tied law begins.
-/
set_option linter.unusedVariables false
namespace Lp
open Go Go.RowKit Go.Proofs
theorem laid_ints {H : Type} {enc : TypeId × Value → H} {P : Program} {w : World} {base : Nat} {spare : Nat → Bool} {held : Bool} {fuel n : Nat} {t e : TypeId} {k : IntKind} {cs : List Value} {zs : List Int} {q : List MemPlace}
    (hu : P.underlying t = some (.array n e)) (he : P.underlying e = some (.int k)) (hc : P.cellsOf e = 1) (hct : P.cellsOf t = n) (h : DataW.trod enc P w base spare held fuel t cs = some (.agg (zs.map fun z => .lit (.int k z)), q)) : cs = zs.map (Value.int k) := by
  obtain ⟨xs, m, rfl, hx, hlen, hn, hel⟩ := DataW.trod_array hu h
  have hx1 : zs.map (fun z => (DataW.lit (.int k z) : DataW H)) = xs.map (fun x => x.1) := by
    have := congrArg Prod.fst hx
    injection this
  have hl := congrArg List.length hx1
  rw [List.length_map, List.length_map] at hl
  apply List.ext_getElem?
  intro i
  rcases Nat.lt_or_ge i n with hi | hi
  · have h1 := hel i hi
    rw [hc, Nat.mul_one, List.getElem?_eq_getElem (by omega)] at h1
    obtain ⟨z, e1, e2, _⟩ := DataW.trod_int he h1
    have a1 : cs[i]? = some (.int k z) := by
      have := congrArg (fun l => l[0]?) e1
      simp only [List.getElem?_take, List.getElem?_drop] at this
      simpa using this
    have a2 : zs[i]? = some z := by
      have := congrArg (fun l => l[i]?) hx1
      simp only [List.getElem?_map] at this
      rw [List.getElem?_eq_getElem (show i < xs.length by omega), e2] at this
      cases e3 : zs[i]? with
      | none => rw [e3] at this; cases this
      | some y => rw [e3] at this; injection this with this; injection this with this; injection this with _ this; rw [this]
    rw [a1, List.getElem?_map, a2]; rfl
  · rw [List.getElem?_eq_none (by omega), List.getElem?_eq_none (by rw [List.length_map]; omega)]
theorem laid_iface {H : Type} {enc : TypeId × Value → H} {P : Program} {w : World} {base : Nat} {spare : Nat → Bool} {held : Bool} {fuel : Nat} {t : TypeId} {cs : List Value} {x : DataW H × List MemPlace} {ms : TypeDesc}
    (hu : P.underlying t = some ms) (hm : ∃ mm, ms = .interface mm) (h : DataW.trod enc P w base spare held fuel t cs = some x) : ∃ ev, cs = [ev] ∧ EvOk ev := by
  obtain ⟨mm, rfl⟩ := hm
  cases fuel with
  | zero => exact absurd h (by show ¬ (none = some x); simp)
  | succ fuel =>
    rw [DataW.trod_step] at h
    unfold DataW.trodStep at h
    rw [hu] at h
    split at h <;> simp_all [EvOk]
theorem var_heap {P : Program} {w : World} {name : String} {g : Nat} {cs : Array Value} (hg : P.globalNamed name = some g) (h : World.var? P w name = some cs) : ∃ T fr, w.heap[g]? = some (.cells cs T fr) := by
  unfold World.var? at h
  rw [hg] at h
  have h : (match w.heap[g]? with | some (.cells cs _ _) => some cs | _ => none) = some cs := h
  split at h
  · rename_i a b c e; injection h with h; subst h; exact ⟨_, _, e⟩
  · cases h
theorem of_laid {W : World} (h : laidMetH Tryd.prog Go.Proofs.YtoanlikkhjohpaaDoor.Rows.lexBlanksRow.laid W) : ∃ ev, EvOk ev ∧ (∃ T fr, W.heap[3]? = some (.cells zbT T fr)) ∧ (∃ T fr, W.heap[2]? = some (.cells #[ev] T fr)) := by
  rw [MakeChecks.laidMetH_plain _ _ _ (by kernel_rfl)] at h
  obtain ⟨ps, ⟨g0, t0, cs0, f0, p0, q0, hg0, ht0, hv0, hd0, ⟨g1, t1, cs1, f1, p1, q1, hg1, ht1, hv1, hd1, ⟨g2, t2, cs2, f2, p2, q2, hg2, ht2, hv2, hd2, ⟨g3, t3, cs3, f3, p3, q3, hg3, ht3, hv3, hd3, _⟩, _⟩, _⟩, _⟩, _, _⟩ := h
  obtain rfl : 3 = g2 := Option.some.inj ((show Tryd.prog.globalNamed _ = some 3 by kernel_rfl).symm.trans hg2)
  obtain rfl : 2 = g3 := Option.some.inj ((show Tryd.prog.globalNamed _ = some 2 by kernel_rfl).symm.trans hg3)
  have a2 : Tryd.prog.globals[3]?.map (·.type) = some t2 := ht2
  have a3 : Tryd.prog.globals[2]?.map (·.type) = some t3 := ht3
  obtain rfl := Option.some.inj ((show Tryd.prog.globals[3]?.map (·.type) = some 101 by kernel_rfl).symm.trans a2)
  obtain rfl := Option.some.inj ((show Tryd.prog.globals[2]?.map (·.type) = some 53 by kernel_rfl).symm.trans a3)
  obtain ⟨ev, e3, hev⟩ := laid_iface Tryd.underlying53 ⟨_, rfl⟩ hd3
  have e2 := laid_ints (n := 20) (e := 84) (zs := Lib.pow10Tab) (by kernel_rfl) (by kernel_rfl) (by kernel_rfl) (by kernel_rfl) hd2
  refine ⟨ev, hev, ?_, ?_⟩
  · have := var_heap hg2 hv2
    rwa [show cs2 = zbT from Array.toList_inj.1 (by rw [e2]; simp [zbT])] at this
  · have := var_heap hg3 hv3
    rwa [show cs3 = #[ev] from Array.toList_inj.1 (by rw [e3])] at this
/-- a law beside the tables -/
theorem CD.lawT {f : FuncId} {ds : List D} {ev : Value} (h : CD Tryd.prog f [HPow, HErr ev] ds (fun r H' => r = .v (.bool true) ∧ H' = [HPow, HErr ev])) {W : World} {vs : List Value} (hr : D.repA W (FA W) ds vs)
    (h1 : ∃ T fr, W.heap[3]? = some (.cells zbT T fr)) (h2 : ∃ T fr, W.heap[2]? = some (.cells #[ev] T fr)) :
    Calls Tryd.prog f vs.toArray W (Ret fun u w' => Ext W w' ∧ u = .bool true) := by
  have hno : ∀ b, ¬ blks [HPow, HErr ev] b := fun b ⟨x, hx, hb⟩ => by
    rcases List.mem_cons.1 hx with rfl | hx
    · exact hb
    · rw [List.mem_singleton.1 hx] at hb; exact hb
  have hlt : ∀ {g : Nat} {o : Obj}, W.heap[g]? = some o → g < W.heap.size := fun h => by
    rcases Nat.lt_or_ge _ W.heap.size with h' | h'
    · exact h'
    · rw [Array.getElem?_eq_none h'] at h; cases h
  obtain ⟨T1, f1, e1⟩ := h1
  obtain ⟨T2, f2, e2⟩ := h2
  have hk : HOk W (FA W) (fun _ => True) [HPow, HErr ev] := ⟨by
      refine List.Pairwise.cons (fun y _ g hg => ?_) (List.Pairwise.cons (fun y hy => absurd hy (by simp)) .nil)
      exact absurd hg (fun e => e), fun x hx => by
      rcases List.mem_cons.1 hx with rfl | hx
      · exact ⟨hlt e1, T1, f1, e1⟩
      · rw [List.mem_singleton.1 hx]; exact ⟨hlt e2, T2, f2, e2⟩, fun g hg => absurd hg (hno g)⟩
  refine (h.out W (FA W) vs hr (fun _ h => h) hk).mono ?_
  rintro e w' ⟨u, rfl, F', d', H', ⟨rfl, rfl⟩, hrep, g⟩
  have hrep : u = .bool true := hrep
  exact ⟨u, rfl, ⟨g.os, g.tape, g.output, g.size, fun b hb _ => g.frame b hb (hno b)⟩, hrep⟩
section
variable {H : Type} {enc : TypeId × Value → H} {w : World} {held : Bool} {sp : Nat → Bool} {n : Nat}
theorem in_int {cs : List Value} {y : DataW H × List MemPlace} (h : DataW.trod enc Tryd.prog w 0 sp held n 3 cs = some y) : ∃ d : Int, InD w 1 (.v (.int .i64 d)) cs := by
  obtain ⟨i, e1, _, _⟩ := DataW.trod_int (by kernel_rfl) h
  exact ⟨i, by rw [e1]; exact InD.one rfl rfl⟩
theorem in_str {cs : List Value} {y : DataW H × List MemPlace} (h : DataW.trod enc Tryd.prog w 0 sp held n 9 cs = some y) : ∃ d : ByteArray, InD w 1 (.s d) cs := by
  obtain ⟨s0, e0, _, k0⟩ := DataW.trod_string (by kernel_rfl) h
  exact ⟨s0, by rw [e0]; exact InD.one ⟨rfl, k0⟩ rfl⟩
theorem int_le {d : Int} {y : DataW H × List MemPlace} (h : DataW.trod enc Tryd.prog w 0 sp held n 3 (Value.int .i64 d).cells.toList = some y) : d ≤ 9223372036854775807 := by
  obtain ⟨i, e1, _, hw⟩ := DataW.trod_int (by kernel_rfl) h
  have e : d = i := by
    have : [Value.int .i64 d] = [Value.int .i64 i] := e1
    injection this with this; injection this
  subst e
  have hw : (decide (IntKind.i64.min ≤ d) && decide (d ≤ IntKind.i64.max)) = true := hw
  have hm : IntKind.i64.max = 9223372036854775807 := by decide
  rw [hm] at hw
  simp only [Bool.and_eq_true, decide_eq_true_eq] at hw
  exact hw.2
end
end Lp
/-
  The program draws the order of what Go leaves open.
-/
namespace Lp
open Go Go.RowKit Go.Proofs
theorem mixed : Tryd.prog.follows .mixedOrders = true := by kernel_rfl
/-- short words for ways through code -/
abbrev T' : Bool := true
abbrev F' : Bool := false
abbrev dZ : D := .v (.slice none 0 0)
abbrev dP (g o : Nat) : D := .v (.pointer (some ⟨g, o, none⟩))
abbrev vS (g n c : Nat) : Value := .slice (some ⟨g, 0, none⟩) n c
theorem la {α : Type} {a b : List α} : (a ++ b).length = a.length + b.length := List.length_append
theorem lc {α : Type} {a : α} {b : List α} : (a :: b).length = b.length + 1 := List.length_cons
theorem ln {α : Type} : ([] : List α).length = 0 := List.length_nil
theorem lm {α β : Type} {a : List α} {f : α → β} : (a.map f).length = a.length := List.length_map f
theorem lt' {α : Type} {n : Nat} {a : List α} : (a.take n).length = min n a.length := List.length_take
theorem ld {α : Type} {n : Nat} {a : List α} : (a.drop n).length = a.length - n := List.length_drop
theorem ls {α : Type} {n : Nat} {a : List α} {x : α} : (a.set n x).length = a.length := List.length_set
theorem lr {α : Type} {n : Nat} {x : α} : (List.replicate n x).length = n := List.length_replicate
end Lp
/- Walks, printed by a program of mine. -/
set_option linter.unusedSimpArgs false
set_option linter.unusedVariables false
namespace Lp
open Go Go.RowKit Go.Proofs

namespace HdYtoanlikkhjohpaaDoorV5
end HdYtoanlikkhjohpaaDoorV5
open HdYtoanlikkhjohpaaDoorV5

set_option maxHeartbeats 4000000 in
set_option maxRecDepth 100000 in
theorem Kind_c (r : Int)  :
    CD Tryd.prog 20 [] [.v (.int .i32 r)] (isR (dI (zL r))) := by
  refine zD Tryd.func20 rfl (N := 51) rfl rfl (fun C => ?_)
  refine JD.keep [0] [(0, .v (.int .i32 r))] rfl (zf _ _ rfl rfl rfl (zc rfl (za rfl rfl (zd rfl) (zg rfl (ze (zf _ _ rfl rfl rfl (zK _ rfl rfl (zf _ _ rfl rfl rfl (JD.keep [0, 2] [(0, .v (.int .i32 r)), (2, dI 0)] rfl ?_)))))))))
  refine zac 3 ((decide (r < (0 : Int)) || decide (r = (65533 : Int)))) [] (fun _ hQ1 => ?_) ?_
  · skip
    by_cases hg2 : r < (0 : Int)
    · skip
      refine zc rfl (za rfl rfl (zb rfl) (za rfl rfl (zaM rfl rfl (decide_eq_true hg2)) (za rfl rfl (zb rfl) (zi rfl rfl rfl rfl rfl (by decide) (zi rfl rfl rfl rfl rfl (by decide) (za rfl rfl (zl rfl rfl) (za rfl rfl (zd rfl) (zg rfl ?_))))))))
      exact PD.sub ((3, dB (decide (r < (0 : Int)) || decide (r = (65533 : Int)))) :: [(0, .v (.int .i32 r)), (2, dI 0)]) ⟨sc rfl (Cv.eq (congrArg (fun b => D.v (.bool b)) (by first | (simp [hg2]; done) | (simp_all; done)))), sk rfl, sk rfl, trivial⟩ hQ1
    · skip
      refine zc rfl (za rfl rfl (zb rfl) (za rfl rfl (zaM rfl rfl (decide_eq_false hg2)) (za rfl rfl (zb rfl) (zh rfl rfl rfl rfl rfl (zb rfl) (zh rfl rfl rfl rfl rfl (zH rfl rfl rfl) (za rfl rfl (zm rfl rfl) (za rfl rfl (zd rfl) (zg rfl ?_))))))))
      exact PD.sub ((3, dB (decide (r < (0 : Int)) || decide (r = (65533 : Int)))) :: [(0, .v (.int .i32 r)), (2, dI 0)]) ⟨sc rfl (Cv.eq (congrArg (fun b => D.v (.bool b)) (by first | (simp [hg2]; done) | (simp_all; done)))), sk rfl, sk rfl, trivial⟩ hQ1
  · skip
    refine ze ?_
    refine zx _ _ rfl rfl rfl rfl (fun hc3 => ?_) (fun hc3 => ?_)
    · simp only [Bool.and_eq_true, Bool.or_eq_true, Bool.not_eq_true', Bool.not_eq_false', Bool.and_eq_false_iff, Bool.or_eq_false_iff, decide_eq_true_eq, decide_eq_false_iff_not, Decidable.not_not, ne_eq] at hc3
      refine zf _ _ rfl rfl rfl (zc rfl (za rfl rfl (zd rfl) (zg rfl (ze (zw rfl (zr (zt ?_)))))))
      exact zo Tryd.results20 (.cons (zB (zq rfl) (Cv.eq (congrArg (fun n => D.v (.int .i64 n)) (by unfold zL; (repeat (any_goals split)) <;> omega)))) .nil) rfl HSub.none ⟨rfl, rfl⟩
    · simp only [Bool.and_eq_true, Bool.or_eq_true, Bool.not_eq_true', Bool.not_eq_false', Bool.and_eq_false_iff, Bool.or_eq_false_iff, decide_eq_true_eq, decide_eq_false_iff_not, Decidable.not_not, ne_eq] at hc3
      refine zf _ _ rfl rfl rfl (JD.keep [0, 2] [(0, .v (.int .i32 r)), (2, dI 0)] rfl ?_)
      refine zac 10 (((((decide ((97 : Int) ≤ r) && decide (r ≤ (122 : Int))) || (decide ((65 : Int) ≤ r) && decide (r ≤ (90 : Int)))) || decide (r = (95 : Int))) || decide ((128 : Int) ≤ r))) [] (fun _ hQ4 => ?_) ?_
      · skip
        by_cases hg5 : (97 : Int) ≤ r
        · skip
          by_cases hg6 : r ≤ (122 : Int)
          · skip
            refine zc rfl (za rfl rfl (zb rfl) (za rfl rfl (z7 rfl rfl (decide_eq_true hg5)) (za rfl rfl (zb rfl) (zh rfl rfl rfl rfl rfl (zb rfl) (zh rfl rfl rfl rfl rfl (za3 rfl rfl (decide_eq_true hg6)) (za rfl rfl (zl rfl rfl) (za rfl rfl (zb rfl) (zi rfl rfl rfl rfl rfl (by decide) (zi rfl rfl rfl rfl rfl (by decide) (zi rfl rfl rfl rfl rfl (by decide) (zi rfl rfl rfl rfl rfl (by decide) (zi rfl rfl rfl rfl rfl (by decide) (zi rfl rfl rfl rfl rfl (by decide) (za rfl rfl (zl rfl rfl) (za rfl rfl (zb rfl) (zi rfl rfl rfl rfl rfl (by decide) (zi rfl rfl rfl rfl rfl (by decide) (za rfl rfl (zl rfl rfl) (za rfl rfl (zb rfl) (zi rfl rfl rfl rfl rfl (by decide) (zi rfl rfl rfl rfl rfl (by decide) (za rfl rfl (zl rfl rfl) (za rfl rfl (zd rfl) (zg rfl ?_))))))))))))))))))))))))
            exact PD.sub ((10, dB ((((decide ((97 : Int) ≤ r) && decide (r ≤ (122 : Int))) || (decide ((65 : Int) ≤ r) && decide (r ≤ (90 : Int)))) || decide (r = (95 : Int))) || decide ((128 : Int) ≤ r))) :: [(0, .v (.int .i32 r)), (2, dI 0)]) ⟨sc rfl (Cv.eq (congrArg (fun b => D.v (.bool b)) (by first | (simp [hg5, hg6]; done) | (simp_all; done)))), sk rfl, sk rfl, trivial⟩ hQ4
          · skip
            by_cases hg7 : (65 : Int) ≤ r
            · skip
              by_cases hg8 : r ≤ (90 : Int)
              · skip
                refine zc rfl (za rfl rfl (zb rfl) (za rfl rfl (z7 rfl rfl (decide_eq_true hg5)) (za rfl rfl (zb rfl) (zh rfl rfl rfl rfl rfl (zb rfl) (zh rfl rfl rfl rfl rfl (za3 rfl rfl (decide_eq_false hg6)) (za rfl rfl (zl rfl rfl) (za rfl rfl (zb rfl) (zh rfl rfl rfl rfl rfl (zb rfl) (zh rfl rfl rfl rfl rfl (z7 rfl rfl (decide_eq_true hg7)) (zh rfl rfl rfl rfl rfl (zb rfl) (zh rfl rfl rfl rfl rfl (zb rfl) (zh rfl rfl rfl rfl rfl (za3 rfl rfl (decide_eq_true hg8)) (zh rfl rfl rfl rfl rfl (zl rfl rfl) (za rfl rfl (zm rfl rfl) (za rfl rfl (zb rfl) (zi rfl rfl rfl rfl rfl (by decide) (zi rfl rfl rfl rfl rfl (by decide) (za rfl rfl (zl rfl rfl) (za rfl rfl (zb rfl) (zi rfl rfl rfl rfl rfl (by decide) (zi rfl rfl rfl rfl rfl (by decide) (za rfl rfl (zl rfl rfl) (za rfl rfl (zd rfl) (zg rfl ?_))))))))))))))))))))))))
                exact PD.sub ((10, dB ((((decide ((97 : Int) ≤ r) && decide (r ≤ (122 : Int))) || (decide ((65 : Int) ≤ r) && decide (r ≤ (90 : Int)))) || decide (r = (95 : Int))) || decide ((128 : Int) ≤ r))) :: [(0, .v (.int .i32 r)), (2, dI 0)]) ⟨sc rfl (Cv.eq (congrArg (fun b => D.v (.bool b)) (by first | (simp [hg5, hg6, hg7, hg8]; done) | (simp_all; done)))), sk rfl, sk rfl, trivial⟩ hQ4
              · skip
                by_cases hg9 : r = (95 : Int)
                · skip
                  refine zc rfl (za rfl rfl (zb rfl) (za rfl rfl (z7 rfl rfl (decide_eq_true hg5)) (za rfl rfl (zb rfl) (zh rfl rfl rfl rfl rfl (zb rfl) (zh rfl rfl rfl rfl rfl (za3 rfl rfl (decide_eq_false hg6)) (za rfl rfl (zl rfl rfl) (za rfl rfl (zb rfl) (zh rfl rfl rfl rfl rfl (zb rfl) (zh rfl rfl rfl rfl rfl (z7 rfl rfl (decide_eq_true hg7)) (zh rfl rfl rfl rfl rfl (zb rfl) (zh rfl rfl rfl rfl rfl (zb rfl) (zh rfl rfl rfl rfl rfl (za3 rfl rfl (decide_eq_false hg8)) (zh rfl rfl rfl rfl rfl (zl rfl rfl) (za rfl rfl (zm rfl rfl) (za rfl rfl (zb rfl) (zh rfl rfl rfl rfl rfl (zb rfl) (zh rfl rfl rfl rfl rfl (zH rfl rfl (decide_eq_true hg9)) (za rfl rfl (zm rfl rfl) (za rfl rfl (zb rfl) (zi rfl rfl rfl rfl rfl (by decide) (zi rfl rfl rfl rfl rfl (by decide) (za rfl rfl (zl rfl rfl) (za rfl rfl (zd rfl) (zg rfl ?_))))))))))))))))))))))))
                  exact PD.sub ((10, dB ((((decide ((97 : Int) ≤ r) && decide (r ≤ (122 : Int))) || (decide ((65 : Int) ≤ r) && decide (r ≤ (90 : Int)))) || decide (r = (95 : Int))) || decide ((128 : Int) ≤ r))) :: [(0, .v (.int .i32 r)), (2, dI 0)]) ⟨sc rfl (Cv.eq (congrArg (fun b => D.v (.bool b)) (by first | (simp [hg5, hg6, hg7, hg8, hg9]; done) | (simp_all; done)))), sk rfl, sk rfl, trivial⟩ hQ4
                · skip
                  refine zc rfl (za rfl rfl (zb rfl) (za rfl rfl (z7 rfl rfl (decide_eq_true hg5)) (za rfl rfl (zb rfl) (zh rfl rfl rfl rfl rfl (zb rfl) (zh rfl rfl rfl rfl rfl (za3 rfl rfl (decide_eq_false hg6)) (za rfl rfl (zl rfl rfl) (za rfl rfl (zb rfl) (zh rfl rfl rfl rfl rfl (zb rfl) (zh rfl rfl rfl rfl rfl (z7 rfl rfl (decide_eq_true hg7)) (zh rfl rfl rfl rfl rfl (zb rfl) (zh rfl rfl rfl rfl rfl (zb rfl) (zh rfl rfl rfl rfl rfl (za3 rfl rfl (decide_eq_false hg8)) (zh rfl rfl rfl rfl rfl (zl rfl rfl) (za rfl rfl (zm rfl rfl) (za rfl rfl (zb rfl) (zh rfl rfl rfl rfl rfl (zb rfl) (zh rfl rfl rfl rfl rfl (zH rfl rfl (decide_eq_false hg9)) (za rfl rfl (zm rfl rfl) (za rfl rfl (zb rfl) (zh rfl rfl rfl rfl rfl (zb rfl) (zh rfl rfl rfl rfl rfl (z7 rfl rfl rfl) (za rfl rfl (zm rfl rfl) (za rfl rfl (zd rfl) (zg rfl ?_))))))))))))))))))))))))
                  exact PD.sub ((10, dB ((((decide ((97 : Int) ≤ r) && decide (r ≤ (122 : Int))) || (decide ((65 : Int) ≤ r) && decide (r ≤ (90 : Int)))) || decide (r = (95 : Int))) || decide ((128 : Int) ≤ r))) :: [(0, .v (.int .i32 r)), (2, dI 0)]) ⟨sc rfl (Cv.eq (congrArg (fun b => D.v (.bool b)) (by first | (simp [hg5, hg6, hg7, hg8, hg9]; done) | (simp_all; done)))), sk rfl, sk rfl, trivial⟩ hQ4
            · skip
              by_cases hg10 : r = (95 : Int)
              · skip
                refine zc rfl (za rfl rfl (zb rfl) (za rfl rfl (z7 rfl rfl (decide_eq_true hg5)) (za rfl rfl (zb rfl) (zh rfl rfl rfl rfl rfl (zb rfl) (zh rfl rfl rfl rfl rfl (za3 rfl rfl (decide_eq_false hg6)) (za rfl rfl (zl rfl rfl) (za rfl rfl (zb rfl) (zh rfl rfl rfl rfl rfl (zb rfl) (zh rfl rfl rfl rfl rfl (z7 rfl rfl (decide_eq_false hg7)) (zh rfl rfl rfl rfl rfl (zb rfl) (zi rfl rfl rfl rfl rfl (by decide) (zi rfl rfl rfl rfl rfl (by decide) (zh rfl rfl rfl rfl rfl (zm rfl rfl) (za rfl rfl (zm rfl rfl) (za rfl rfl (zb rfl) (zh rfl rfl rfl rfl rfl (zb rfl) (zh rfl rfl rfl rfl rfl (zH rfl rfl (decide_eq_true hg10)) (za rfl rfl (zm rfl rfl) (za rfl rfl (zb rfl) (zi rfl rfl rfl rfl rfl (by decide) (zi rfl rfl rfl rfl rfl (by decide) (za rfl rfl (zl rfl rfl) (za rfl rfl (zd rfl) (zg rfl ?_))))))))))))))))))))))))
                exact PD.sub ((10, dB ((((decide ((97 : Int) ≤ r) && decide (r ≤ (122 : Int))) || (decide ((65 : Int) ≤ r) && decide (r ≤ (90 : Int)))) || decide (r = (95 : Int))) || decide ((128 : Int) ≤ r))) :: [(0, .v (.int .i32 r)), (2, dI 0)]) ⟨sc rfl (Cv.eq (congrArg (fun b => D.v (.bool b)) (by first | (simp [hg10, hg5, hg6, hg7]; done) | (simp_all; done)))), sk rfl, sk rfl, trivial⟩ hQ4
              · skip
                refine zc rfl (za rfl rfl (zb rfl) (za rfl rfl (z7 rfl rfl (decide_eq_true hg5)) (za rfl rfl (zb rfl) (zh rfl rfl rfl rfl rfl (zb rfl) (zh rfl rfl rfl rfl rfl (za3 rfl rfl (decide_eq_false hg6)) (za rfl rfl (zl rfl rfl) (za rfl rfl (zb rfl) (zh rfl rfl rfl rfl rfl (zb rfl) (zh rfl rfl rfl rfl rfl (z7 rfl rfl (decide_eq_false hg7)) (zh rfl rfl rfl rfl rfl (zb rfl) (zi rfl rfl rfl rfl rfl (by decide) (zi rfl rfl rfl rfl rfl (by decide) (zh rfl rfl rfl rfl rfl (zm rfl rfl) (za rfl rfl (zm rfl rfl) (za rfl rfl (zb rfl) (zh rfl rfl rfl rfl rfl (zb rfl) (zh rfl rfl rfl rfl rfl (zH rfl rfl (decide_eq_false hg10)) (za rfl rfl (zm rfl rfl) (za rfl rfl (zb rfl) (zh rfl rfl rfl rfl rfl (zb rfl) (zh rfl rfl rfl rfl rfl (z7 rfl rfl rfl) (za rfl rfl (zm rfl rfl) (za rfl rfl (zd rfl) (zg rfl ?_))))))))))))))))))))))))
                exact PD.sub ((10, dB ((((decide ((97 : Int) ≤ r) && decide (r ≤ (122 : Int))) || (decide ((65 : Int) ≤ r) && decide (r ≤ (90 : Int)))) || decide (r = (95 : Int))) || decide ((128 : Int) ≤ r))) :: [(0, .v (.int .i32 r)), (2, dI 0)]) ⟨sc rfl (Cv.eq (congrArg (fun b => D.v (.bool b)) (by first | (simp [hg10, hg5, hg6, hg7]; done) | (simp_all; done)))), sk rfl, sk rfl, trivial⟩ hQ4
        · skip
          by_cases hg11 : (65 : Int) ≤ r
          · skip
            by_cases hg12 : r ≤ (90 : Int)
            · skip
              refine zc rfl (za rfl rfl (zb rfl) (za rfl rfl (z7 rfl rfl (decide_eq_false hg5)) (za rfl rfl (zb rfl) (zi rfl rfl rfl rfl rfl (by decide) (zi rfl rfl rfl rfl rfl (by decide) (za rfl rfl (zm rfl rfl) (za rfl rfl (zb rfl) (zh rfl rfl rfl rfl rfl (zb rfl) (zh rfl rfl rfl rfl rfl (z7 rfl rfl (decide_eq_true hg11)) (zh rfl rfl rfl rfl rfl (zb rfl) (zh rfl rfl rfl rfl rfl (zb rfl) (zh rfl rfl rfl rfl rfl (za3 rfl rfl (decide_eq_true hg12)) (zh rfl rfl rfl rfl rfl (zl rfl rfl) (za rfl rfl (zm rfl rfl) (za rfl rfl (zb rfl) (zi rfl rfl rfl rfl rfl (by decide) (zi rfl rfl rfl rfl rfl (by decide) (za rfl rfl (zl rfl rfl) (za rfl rfl (zb rfl) (zi rfl rfl rfl rfl rfl (by decide) (zi rfl rfl rfl rfl rfl (by decide) (za rfl rfl (zl rfl rfl) (za rfl rfl (zd rfl) (zg rfl ?_))))))))))))))))))))))))
              exact PD.sub ((10, dB ((((decide ((97 : Int) ≤ r) && decide (r ≤ (122 : Int))) || (decide ((65 : Int) ≤ r) && decide (r ≤ (90 : Int)))) || decide (r = (95 : Int))) || decide ((128 : Int) ≤ r))) :: [(0, .v (.int .i32 r)), (2, dI 0)]) ⟨sc rfl (Cv.eq (congrArg (fun b => D.v (.bool b)) (by first | (simp [hg11, hg12, hg5]; done) | (simp_all; done)))), sk rfl, sk rfl, trivial⟩ hQ4
            · skip
              by_cases hg13 : r = (95 : Int)
              · skip
                refine zc rfl (za rfl rfl (zb rfl) (za rfl rfl (z7 rfl rfl (decide_eq_false hg5)) (za rfl rfl (zb rfl) (zi rfl rfl rfl rfl rfl (by decide) (zi rfl rfl rfl rfl rfl (by decide) (za rfl rfl (zm rfl rfl) (za rfl rfl (zb rfl) (zh rfl rfl rfl rfl rfl (zb rfl) (zh rfl rfl rfl rfl rfl (z7 rfl rfl (decide_eq_true hg11)) (zh rfl rfl rfl rfl rfl (zb rfl) (zh rfl rfl rfl rfl rfl (zb rfl) (zh rfl rfl rfl rfl rfl (za3 rfl rfl (decide_eq_false hg12)) (zh rfl rfl rfl rfl rfl (zl rfl rfl) (za rfl rfl (zm rfl rfl) (za rfl rfl (zb rfl) (zh rfl rfl rfl rfl rfl (zb rfl) (zh rfl rfl rfl rfl rfl (zH rfl rfl (decide_eq_true hg13)) (za rfl rfl (zm rfl rfl) (za rfl rfl (zb rfl) (zi rfl rfl rfl rfl rfl (by decide) (zi rfl rfl rfl rfl rfl (by decide) (za rfl rfl (zl rfl rfl) (za rfl rfl (zd rfl) (zg rfl ?_))))))))))))))))))))))))
                exact PD.sub ((10, dB ((((decide ((97 : Int) ≤ r) && decide (r ≤ (122 : Int))) || (decide ((65 : Int) ≤ r) && decide (r ≤ (90 : Int)))) || decide (r = (95 : Int))) || decide ((128 : Int) ≤ r))) :: [(0, .v (.int .i32 r)), (2, dI 0)]) ⟨sc rfl (Cv.eq (congrArg (fun b => D.v (.bool b)) (by first | (simp [hg11, hg12, hg13, hg5]; done) | (simp_all; done)))), sk rfl, sk rfl, trivial⟩ hQ4
              · skip
                refine zc rfl (za rfl rfl (zb rfl) (za rfl rfl (z7 rfl rfl (decide_eq_false hg5)) (za rfl rfl (zb rfl) (zi rfl rfl rfl rfl rfl (by decide) (zi rfl rfl rfl rfl rfl (by decide) (za rfl rfl (zm rfl rfl) (za rfl rfl (zb rfl) (zh rfl rfl rfl rfl rfl (zb rfl) (zh rfl rfl rfl rfl rfl (z7 rfl rfl (decide_eq_true hg11)) (zh rfl rfl rfl rfl rfl (zb rfl) (zh rfl rfl rfl rfl rfl (zb rfl) (zh rfl rfl rfl rfl rfl (za3 rfl rfl (decide_eq_false hg12)) (zh rfl rfl rfl rfl rfl (zl rfl rfl) (za rfl rfl (zm rfl rfl) (za rfl rfl (zb rfl) (zh rfl rfl rfl rfl rfl (zb rfl) (zh rfl rfl rfl rfl rfl (zH rfl rfl (decide_eq_false hg13)) (za rfl rfl (zm rfl rfl) (za rfl rfl (zb rfl) (zh rfl rfl rfl rfl rfl (zb rfl) (zh rfl rfl rfl rfl rfl (z7 rfl rfl rfl) (za rfl rfl (zm rfl rfl) (za rfl rfl (zd rfl) (zg rfl ?_))))))))))))))))))))))))
                exact PD.sub ((10, dB ((((decide ((97 : Int) ≤ r) && decide (r ≤ (122 : Int))) || (decide ((65 : Int) ≤ r) && decide (r ≤ (90 : Int)))) || decide (r = (95 : Int))) || decide ((128 : Int) ≤ r))) :: [(0, .v (.int .i32 r)), (2, dI 0)]) ⟨sc rfl (Cv.eq (congrArg (fun b => D.v (.bool b)) (by first | (simp [hg11, hg12, hg13, hg5]; done) | (simp_all; done)))), sk rfl, sk rfl, trivial⟩ hQ4
          · skip
            by_cases hg14 : r = (95 : Int)
            · skip
              refine zc rfl (za rfl rfl (zb rfl) (za rfl rfl (z7 rfl rfl (decide_eq_false hg5)) (za rfl rfl (zb rfl) (zi rfl rfl rfl rfl rfl (by decide) (zi rfl rfl rfl rfl rfl (by decide) (za rfl rfl (zm rfl rfl) (za rfl rfl (zb rfl) (zh rfl rfl rfl rfl rfl (zb rfl) (zh rfl rfl rfl rfl rfl (z7 rfl rfl (decide_eq_false hg11)) (zh rfl rfl rfl rfl rfl (zb rfl) (zi rfl rfl rfl rfl rfl (by decide) (zi rfl rfl rfl rfl rfl (by decide) (zh rfl rfl rfl rfl rfl (zm rfl rfl) (za rfl rfl (zm rfl rfl) (za rfl rfl (zb rfl) (zh rfl rfl rfl rfl rfl (zb rfl) (zh rfl rfl rfl rfl rfl (zH rfl rfl (decide_eq_true hg14)) (za rfl rfl (zm rfl rfl) (za rfl rfl (zb rfl) (zi rfl rfl rfl rfl rfl (by decide) (zi rfl rfl rfl rfl rfl (by decide) (za rfl rfl (zl rfl rfl) (za rfl rfl (zd rfl) (zg rfl ?_))))))))))))))))))))))))
              exact PD.sub ((10, dB ((((decide ((97 : Int) ≤ r) && decide (r ≤ (122 : Int))) || (decide ((65 : Int) ≤ r) && decide (r ≤ (90 : Int)))) || decide (r = (95 : Int))) || decide ((128 : Int) ≤ r))) :: [(0, .v (.int .i32 r)), (2, dI 0)]) ⟨sc rfl (Cv.eq (congrArg (fun b => D.v (.bool b)) (by first | (simp [hg11, hg14, hg5]; done) | (simp_all; done)))), sk rfl, sk rfl, trivial⟩ hQ4
            · skip
              refine zc rfl (za rfl rfl (zb rfl) (za rfl rfl (z7 rfl rfl (decide_eq_false hg5)) (za rfl rfl (zb rfl) (zi rfl rfl rfl rfl rfl (by decide) (zi rfl rfl rfl rfl rfl (by decide) (za rfl rfl (zm rfl rfl) (za rfl rfl (zb rfl) (zh rfl rfl rfl rfl rfl (zb rfl) (zh rfl rfl rfl rfl rfl (z7 rfl rfl (decide_eq_false hg11)) (zh rfl rfl rfl rfl rfl (zb rfl) (zi rfl rfl rfl rfl rfl (by decide) (zi rfl rfl rfl rfl rfl (by decide) (zh rfl rfl rfl rfl rfl (zm rfl rfl) (za rfl rfl (zm rfl rfl) (za rfl rfl (zb rfl) (zh rfl rfl rfl rfl rfl (zb rfl) (zh rfl rfl rfl rfl rfl (zH rfl rfl (decide_eq_false hg14)) (za rfl rfl (zm rfl rfl) (za rfl rfl (zb rfl) (zh rfl rfl rfl rfl rfl (zb rfl) (zh rfl rfl rfl rfl rfl (z7 rfl rfl rfl) (za rfl rfl (zm rfl rfl) (za rfl rfl (zd rfl) (zg rfl ?_))))))))))))))))))))))))
              exact PD.sub ((10, dB ((((decide ((97 : Int) ≤ r) && decide (r ≤ (122 : Int))) || (decide ((65 : Int) ≤ r) && decide (r ≤ (90 : Int)))) || decide (r = (95 : Int))) || decide ((128 : Int) ≤ r))) :: [(0, .v (.int .i32 r)), (2, dI 0)]) ⟨sc rfl (Cv.eq (congrArg (fun b => D.v (.bool b)) (by first | (simp [hg11, hg14, hg5]; done) | (simp_all; done)))), sk rfl, sk rfl, trivial⟩ hQ4
      · skip
        refine ze ?_
        refine zx _ _ rfl rfl rfl rfl (fun hc15 => ?_) (fun hc15 => ?_)
        · simp only [Bool.and_eq_true, Bool.or_eq_true, Bool.not_eq_true', Bool.not_eq_false', Bool.and_eq_false_iff, Bool.or_eq_false_iff, decide_eq_true_eq, decide_eq_false_iff_not, Decidable.not_not, ne_eq] at hc15
          refine zf _ _ rfl rfl rfl (zc rfl (za rfl rfl (zd rfl) (zg rfl (ze (zw rfl (zr (zt ?_)))))))
          exact zo Tryd.results20 (.cons (zB (zq rfl) (Cv.eq (congrArg (fun n => D.v (.int .i64 n)) (by unfold zL; (repeat (any_goals split)) <;> omega)))) .nil) rfl HSub.none ⟨rfl, rfl⟩
        · simp only [Bool.and_eq_true, Bool.or_eq_true, Bool.not_eq_true', Bool.not_eq_false', Bool.and_eq_false_iff, Bool.or_eq_false_iff, decide_eq_true_eq, decide_eq_false_iff_not, Decidable.not_not, ne_eq] at hc15
          refine zf _ _ rfl rfl rfl (JD.keep [0, 2] [(0, .v (.int .i32 r)), (2, dI 0)] rfl ?_)
          refine zac 33 ((decide ((48 : Int) ≤ r) && decide (r ≤ (57 : Int)))) [] (fun _ hQ16 => ?_) ?_
          · skip
            by_cases hg17 : (48 : Int) ≤ r
            · skip
              refine zc rfl (za rfl rfl (zb rfl) (za rfl rfl (z7 rfl rfl (decide_eq_true hg17)) (za rfl rfl (zb rfl) (zh rfl rfl rfl rfl rfl (zb rfl) (zh rfl rfl rfl rfl rfl (za3 rfl rfl rfl) (za rfl rfl (zl rfl rfl) (za rfl rfl (zd rfl) (zg rfl ?_))))))))
              exact PD.sub ((33, dB (decide ((48 : Int) ≤ r) && decide (r ≤ (57 : Int)))) :: [(0, .v (.int .i32 r)), (2, dI 0)]) ⟨sc rfl (Cv.eq (congrArg (fun b => D.v (.bool b)) (by first | (simp [hg17]; done) | (simp_all; done)))), sk rfl, sk rfl, trivial⟩ hQ16
            · skip
              refine zc rfl (za rfl rfl (zb rfl) (za rfl rfl (z7 rfl rfl (decide_eq_false hg17)) (za rfl rfl (zb rfl) (zi rfl rfl rfl rfl rfl (by decide) (zi rfl rfl rfl rfl rfl (by decide) (za rfl rfl (zm rfl rfl) (za rfl rfl (zd rfl) (zg rfl ?_))))))))
              exact PD.sub ((33, dB (decide ((48 : Int) ≤ r) && decide (r ≤ (57 : Int)))) :: [(0, .v (.int .i32 r)), (2, dI 0)]) ⟨sc rfl (Cv.eq (congrArg (fun b => D.v (.bool b)) (by first | (simp [hg17]; done) | (simp_all; done)))), sk rfl, sk rfl, trivial⟩ hQ16
          · skip
            refine ze ?_
            refine zx _ _ rfl rfl rfl rfl (fun hc18 => ?_) (fun hc18 => ?_)
            · simp only [Bool.and_eq_true, Bool.or_eq_true, Bool.not_eq_true', Bool.not_eq_false', Bool.and_eq_false_iff, Bool.or_eq_false_iff, decide_eq_true_eq, decide_eq_false_iff_not, Decidable.not_not, ne_eq] at hc18
              refine zf _ _ rfl rfl rfl (zc rfl (za rfl rfl (zd rfl) (zg rfl (ze (zw rfl (zr (zt ?_)))))))
              exact zo Tryd.results20 (.cons (zB (zq rfl) (Cv.eq (congrArg (fun n => D.v (.int .i64 n)) (by unfold zL; (repeat (any_goals split)) <;> omega)))) .nil) rfl HSub.none ⟨rfl, rfl⟩
            · simp only [Bool.and_eq_true, Bool.or_eq_true, Bool.not_eq_true', Bool.not_eq_false', Bool.and_eq_false_iff, Bool.or_eq_false_iff, decide_eq_true_eq, decide_eq_false_iff_not, Decidable.not_not, ne_eq] at hc18
              refine zf _ _ rfl rfl rfl (JD.keep [0, 2] [(0, .v (.int .i32 r)), (2, dI 0)] rfl ?_)
              refine zac 40 (((decide (r = (32 : Int)) || decide (r = (9 : Int))) || decide (r = (10 : Int)))) [] (fun _ hQ19 => ?_) ?_
              · skip
                by_cases hg20 : r = (32 : Int)
                · skip
                  refine zc rfl (za rfl rfl (zb rfl) (za rfl rfl (zH rfl rfl (decide_eq_true hg20)) (za rfl rfl (zb rfl) (zi rfl rfl rfl rfl rfl (by decide) (zi rfl rfl rfl rfl rfl (by decide) (za rfl rfl (zl rfl rfl) (za rfl rfl (zb rfl) (zi rfl rfl rfl rfl rfl (by decide) (zi rfl rfl rfl rfl rfl (by decide) (za rfl rfl (zl rfl rfl) (za rfl rfl (zd rfl) (zg rfl ?_))))))))))))
                  exact PD.sub ((40, dB ((decide (r = (32 : Int)) || decide (r = (9 : Int))) || decide (r = (10 : Int)))) :: [(0, .v (.int .i32 r)), (2, dI 0)]) ⟨sc rfl (Cv.eq (congrArg (fun b => D.v (.bool b)) (by first | (simp [hg20]; done) | (simp_all; done)))), sk rfl, sk rfl, trivial⟩ hQ19
                · skip
                  by_cases hg21 : r = (9 : Int)
                  · skip
                    refine zc rfl (za rfl rfl (zb rfl) (za rfl rfl (zH rfl rfl (decide_eq_false hg20)) (za rfl rfl (zb rfl) (zh rfl rfl rfl rfl rfl (zb rfl) (zh rfl rfl rfl rfl rfl (zH rfl rfl (decide_eq_true hg21)) (za rfl rfl (zm rfl rfl) (za rfl rfl (zb rfl) (zi rfl rfl rfl rfl rfl (by decide) (zi rfl rfl rfl rfl rfl (by decide) (za rfl rfl (zl rfl rfl) (za rfl rfl (zd rfl) (zg rfl ?_))))))))))))
                    exact PD.sub ((40, dB ((decide (r = (32 : Int)) || decide (r = (9 : Int))) || decide (r = (10 : Int)))) :: [(0, .v (.int .i32 r)), (2, dI 0)]) ⟨sc rfl (Cv.eq (congrArg (fun b => D.v (.bool b)) (by first | (simp [hg20, hg21]; done) | (simp_all; done)))), sk rfl, sk rfl, trivial⟩ hQ19
                  · skip
                    refine zc rfl (za rfl rfl (zb rfl) (za rfl rfl (zH rfl rfl (decide_eq_false hg20)) (za rfl rfl (zb rfl) (zh rfl rfl rfl rfl rfl (zb rfl) (zh rfl rfl rfl rfl rfl (zH rfl rfl (decide_eq_false hg21)) (za rfl rfl (zm rfl rfl) (za rfl rfl (zb rfl) (zh rfl rfl rfl rfl rfl (zb rfl) (zh rfl rfl rfl rfl rfl (zH rfl rfl rfl) (za rfl rfl (zm rfl rfl) (za rfl rfl (zd rfl) (zg rfl ?_))))))))))))
                    exact PD.sub ((40, dB ((decide (r = (32 : Int)) || decide (r = (9 : Int))) || decide (r = (10 : Int)))) :: [(0, .v (.int .i32 r)), (2, dI 0)]) ⟨sc rfl (Cv.eq (congrArg (fun b => D.v (.bool b)) (by first | (simp [hg20, hg21]; done) | (simp_all; done)))), sk rfl, sk rfl, trivial⟩ hQ19
              · skip
                refine ze ?_
                refine zx _ _ rfl rfl rfl rfl (fun hc22 => ?_) (fun hc22 => ?_)
                · simp only [Bool.and_eq_true, Bool.or_eq_true, Bool.not_eq_true', Bool.not_eq_false', Bool.and_eq_false_iff, Bool.or_eq_false_iff, decide_eq_true_eq, decide_eq_false_iff_not, Decidable.not_not, ne_eq] at hc22
                  refine zf _ _ rfl rfl rfl (zc rfl (za rfl rfl (zd rfl) (zg rfl (ze (zw rfl (zr (zt ?_)))))))
                  exact zo Tryd.results20 (.cons (zB (zq rfl) (Cv.eq (congrArg (fun n => D.v (.int .i64 n)) (by unfold zL; (repeat (any_goals split)) <;> omega)))) .nil) rfl HSub.none ⟨rfl, rfl⟩
                · simp only [Bool.and_eq_true, Bool.or_eq_true, Bool.not_eq_true', Bool.not_eq_false', Bool.and_eq_false_iff, Bool.or_eq_false_iff, decide_eq_true_eq, decide_eq_false_iff_not, Decidable.not_not, ne_eq] at hc22
                  refine zA rfl (zJ (ze (zf _ _ rfl rfl rfl (zc rfl (za rfl rfl (zd rfl) (zg rfl (ze (zw rfl ?_))))))))
                  exact zo Tryd.results20 (.cons (zB (zq rfl) (Cv.eq (congrArg (fun n => D.v (.int .i64 n)) (by unfold zL; (repeat (any_goals split)) <;> omega)))) .nil) rfl HSub.none ⟨rfl, rfl⟩

set_option maxHeartbeats 4000000 in
set_option maxRecDepth 100000 in
theorem Name_c (s : ByteArray)  :
    CD Tryd.prog 34 [] [.s s] (isR (dB (zb7 s))) := by
  refine zD Tryd.func34 rfl (N := 32) rfl rfl (fun C => ?_)
  refine JD.keep [0] [(0, .s s)] rfl ?_
  refine JD.bd 0 rfl (fun bd0 => ?_)
  have sz0 : s.size ≤ 9223372036854775807 := bd0
  refine zf _ _ rfl rfl rfl (zc rfl (za rfl rfl (zd rfl) (zg rfl (ze (zf _ _ rfl rfl rfl (zc rfl (za rfl rfl (zd rfl) (zg rfl (ze (zf _ _ rfl rfl rfl (zf _ _ rfl rfl rfl (zc rfl (za rfl rfl (zb rfl) (zk rfl rfl (zbZ rfl Tryd.runUnderlying9) ?_))))))))))))))
  rintro _ _ ⟨g1, rfl, rfl⟩
  refine zg rfl (ze (zK _ rfl rfl (zaO (fun (g : Nat × Nat) => [(8, dP g1 0), (3, dN g.2)]) (fun (g : Nat × Nat) => [.it g1 s g.1]) (fun (g : Nat × Nat) => (g.1 ≤ s.size) ∧ (g.2 ≤ g.1) ∧ (zbN 0 (zab s) = zbN g.2 (zaN s g.1))) (fun (g : Nat × Nat) => s.size - g.1) _ (0, 0) rfl rfl ⟨sk rfl, sk rfl, trivial⟩ HSub.rfl' ⟨Nat.zero_le _, Nat.le_refl _, rfl⟩ ?_)))
  rintro ⟨p, n⟩ ⟨hp, hn, hf⟩
  replace hp : p ≤ s.size := hp
  replace hn : n ≤ p := hn
  replace hf : zbN 0 (zab s) = zbN n (zaN s p) := hf
  refine JD.keep [8, 3] [(8, dP g1 0), (3, dN n)] rfl (JD.norm [.it g1 s p] rfl ?_)
  rcases Nat.lt_or_ge p s.size with hlt | hge
  · skip
    have hrune := zaS hlt
    have hrl := zbJ s p
    have hdw := zav s p hlt
    have hdp := zS s p
    refine zf _ _ rfl rfl rfl (zc rfl (zk rfl rfl (zbD (i := 0) rfl rfl hlt) ?_))
    rintro _ _ ⟨rfl, rfl⟩
    refine OpsD.norm [.it g1 s (p + decW s p)] rfl (za rfl rfl (zC rfl rfl) (zg rfl (ze (zf _ _ rfl rfl rfl (zaW _ rfl rfl rfl (zA rfl (ze (zK _ rfl rfl (zf _ _ rfl rfl rfl (zc rfl (za rfl rfl (zC rfl rfl) (za rfl rfl (zd rfl) (zg rfl (ze (zf _ _ rfl rfl rfl (zf _ _ rfl rfl rfl (zc rfl (za rfl rfl (zb rfl) (zk rfl rfl (zy [] _ [] rfl rfl (.cons ArgC.id .nil) zu Tryd.call20 (Kind_c ((decR s p : Nat) : Int)) (.inl rfl)) ?_)))))))))))))))))))
    rintro _ _ ⟨_, ⟨rfl, rfl⟩, rfl⟩
    refine OpsD.norm [.it g1 s (p + decW s p)] rfl (za rfl rfl (zd rfl) (zg rfl (ze (zf _ _ rfl rfl rfl (JD.keep [3, 5, 6, 8, 9, 10, 11, 12, 13] [(3, dN n), (5, .v (.int .i32 ((decR s p : Nat) : Int))), (6, dI (zL ((decR s p : Nat) : Int))), (8, dP g1 0), (9, .tup [dB true, dN p, .v (.int .i32 ((decR s p : Nat) : Int))]), (10, dB true), (11, .v (.int .i32 ((decR s p : Nat) : Int))), (12, .v (.int .i32 ((decR s p : Nat) : Int))), (13, dI (zL ((decR s p : Nat) : Int)))] rfl ?_)))))
    refine zac 23 ((decide (zL ((decR s p : Nat) : Int) ≠ (1 : Int)) && (decide (zL ((decR s p : Nat) : Int) ≠ (2 : Int)) || decide (((n : Nat) : Int) = (0 : Int))))) [.it g1 s (p + decW s p)] (fun _ hQ2 => ?_) ?_
    · skip
      by_cases hg3 : zL ((decR s p : Nat) : Int) ≠ (1 : Int)
      · skip
        by_cases hg4 : zL ((decR s p : Nat) : Int) ≠ (2 : Int)
        · skip
          refine zc rfl (za rfl rfl (zb rfl) (za rfl rfl (zcp rfl rfl (decide_eq_true hg3)) (za rfl rfl (zb rfl) (zh rfl rfl rfl rfl rfl (zb rfl) (zh rfl rfl rfl rfl rfl (zcp rfl rfl (decide_eq_true hg4)) (zh rfl rfl rfl rfl rfl (zb rfl) (zi rfl rfl rfl rfl rfl (by decide) (zi rfl rfl rfl rfl rfl (by decide) (zh rfl rfl rfl rfl rfl (zl rfl rfl) (za rfl rfl (zl rfl rfl) (zg rfl ?_)))))))))))
          exact PD.sub ((23, dB (decide (zL ((decR s p : Nat) : Int) ≠ (1 : Int)) && (decide (zL ((decR s p : Nat) : Int) ≠ (2 : Int)) || decide (((n : Nat) : Int) = (0 : Int))))) :: [(3, dN n), (5, .v (.int .i32 ((decR s p : Nat) : Int))), (6, dI (zL ((decR s p : Nat) : Int))), (8, dP g1 0), (9, .tup [dB true, dN p, .v (.int .i32 ((decR s p : Nat) : Int))]), (10, dB true), (11, .v (.int .i32 ((decR s p : Nat) : Int))), (12, .v (.int .i32 ((decR s p : Nat) : Int))), (13, dI (zL ((decR s p : Nat) : Int)))]) ⟨sc rfl (Cv.eq (congrArg (fun b => D.v (.bool b)) (by first | (simp [hg3, hg4]; done) | (simp_all; done)))), sk rfl, sk rfl, sk rfl, sk rfl, sk rfl, sk rfl, sk rfl, sk rfl, sk rfl, trivial⟩ hQ2
        · skip
          refine zc rfl (za rfl rfl (zb rfl) (za rfl rfl (zcp rfl rfl (decide_eq_true hg3)) (za rfl rfl (zb rfl) (zh rfl rfl rfl rfl rfl (zb rfl) (zh rfl rfl rfl rfl rfl (zcp rfl rfl (decide_eq_false hg4)) (zh rfl rfl rfl rfl rfl (zb rfl) (zh rfl rfl rfl rfl rfl (zb rfl) (zh rfl rfl rfl rfl rfl (zH rfl rfl rfl) (zh rfl rfl rfl rfl rfl (zm rfl rfl) (za rfl rfl (zl rfl rfl) (zg rfl ?_)))))))))))
          exact PD.sub ((23, dB (decide (zL ((decR s p : Nat) : Int) ≠ (1 : Int)) && (decide (zL ((decR s p : Nat) : Int) ≠ (2 : Int)) || decide (((n : Nat) : Int) = (0 : Int))))) :: [(3, dN n), (5, .v (.int .i32 ((decR s p : Nat) : Int))), (6, dI (zL ((decR s p : Nat) : Int))), (8, dP g1 0), (9, .tup [dB true, dN p, .v (.int .i32 ((decR s p : Nat) : Int))]), (10, dB true), (11, .v (.int .i32 ((decR s p : Nat) : Int))), (12, .v (.int .i32 ((decR s p : Nat) : Int))), (13, dI (zL ((decR s p : Nat) : Int)))]) ⟨sc rfl (Cv.eq (congrArg (fun b => D.v (.bool b)) (by first | (simp [hg3, hg4]; done) | (simp_all; done)))), sk rfl, sk rfl, sk rfl, sk rfl, sk rfl, sk rfl, sk rfl, sk rfl, sk rfl, trivial⟩ hQ2
      · skip
        refine zc rfl (za rfl rfl (zb rfl) (za rfl rfl (zcp rfl rfl (decide_eq_false hg3)) (za rfl rfl (zb rfl) (zi rfl rfl rfl rfl rfl (by decide) (zi rfl rfl rfl rfl rfl (by decide) (zi rfl rfl rfl rfl rfl (by decide) (zi rfl rfl rfl rfl rfl (by decide) (zi rfl rfl rfl rfl rfl (by decide) (zi rfl rfl rfl rfl rfl (by decide) (za rfl rfl (zm rfl rfl) (zg rfl ?_)))))))))))
        exact PD.sub ((23, dB (decide (zL ((decR s p : Nat) : Int) ≠ (1 : Int)) && (decide (zL ((decR s p : Nat) : Int) ≠ (2 : Int)) || decide (((n : Nat) : Int) = (0 : Int))))) :: [(3, dN n), (5, .v (.int .i32 ((decR s p : Nat) : Int))), (6, dI (zL ((decR s p : Nat) : Int))), (8, dP g1 0), (9, .tup [dB true, dN p, .v (.int .i32 ((decR s p : Nat) : Int))]), (10, dB true), (11, .v (.int .i32 ((decR s p : Nat) : Int))), (12, .v (.int .i32 ((decR s p : Nat) : Int))), (13, dI (zL ((decR s p : Nat) : Int)))]) ⟨sc rfl (Cv.eq (congrArg (fun b => D.v (.bool b)) (by first | (simp [hg3]; done) | (simp_all; done)))), sk rfl, sk rfl, sk rfl, sk rfl, sk rfl, sk rfl, sk rfl, sk rfl, sk rfl, trivial⟩ hQ2
    · skip
      refine ze ?_
      refine zx _ _ rfl rfl rfl rfl (fun hc5 => ?_) (fun hc5 => ?_)
      · simp only [Bool.and_eq_true, Bool.or_eq_true, Bool.not_eq_true', Bool.not_eq_false', Bool.and_eq_false_iff, Bool.or_eq_false_iff, decide_eq_true_eq, decide_eq_false_iff_not, Decidable.not_not, ne_eq] at hc5
        refine zf _ _ rfl rfl rfl (zc rfl (za rfl rfl (zd rfl) (zg rfl (ze (zw rfl (zt (zr (zao (zr (zt ?_))))))))))
        exact zo Tryd.results34 (.cons (zB (zq rfl) (Cv.eq (congrArg (fun b => D.v (.bool b)) (by unfold zb7; rw [hf, hrune]; rw [nameR_bad (by omega)])))) .nil) rfl HSub.none ⟨rfl, rfl⟩
      · simp only [Bool.and_eq_true, Bool.or_eq_true, Bool.not_eq_true', Bool.not_eq_false', Bool.and_eq_false_iff, Bool.or_eq_false_iff, decide_eq_true_eq, decide_eq_false_iff_not, Decidable.not_not, ne_eq] at hc5
        refine zA rfl (ze (zc rfl (za rfl rfl (zb rfl) (za rfl rfl (zbV (c := ((n + 1 : Nat) : Int)) rfl rfl (zaT (by omega) (by omega))) (za rfl rfl (zd rfl) (zg rfl (zJ ?_)))))))
        exact zam (p + decW s p, n + 1) ⟨sk rfl, sk rfl, trivial⟩ HSub.rfl' ⟨by have := zav s p hlt; omega, by omega, by rw [hf, hrune, nameR_next (by omega)]⟩ (by have := zS s p; omega)
  · skip
    have hrune := za7 hge
    refine zf _ _ rfl rfl rfl (zc rfl (za rfl rfl (zbU (i := 0) rfl rfl hge) (za rfl rfl (zC rfl rfl) (zg rfl (ze (zf _ _ rfl rfl rfl (zaj _ rfl rfl rfl (zaJ rfl (zY (zX (zP (ze (zf _ _ rfl rfl rfl (JD.keep [3] [(3, dN n)] rfl ?_))))))))))))))
    refine zac 2 ((decide ((1 : Int) ≤ ((n : Nat) : Int)) && decide (((n : Nat) : Int) ≤ (30 : Int)))) [.it g1 s p] (fun _ hQ6 => ?_) ?_
    · skip
      by_cases hg7 : (1 : Int) ≤ ((n : Nat) : Int)
      · skip
        refine zc rfl (za rfl rfl (zb rfl) (za rfl rfl (z7 rfl rfl (decide_eq_true hg7)) (za rfl rfl (zb rfl) (zh rfl rfl rfl rfl rfl (zb rfl) (zh rfl rfl rfl rfl rfl (za3 rfl rfl rfl) (za rfl rfl (zl rfl rfl) (za rfl rfl (zd rfl) (zg rfl ?_))))))))
        exact PD.sub ((2, dB (decide ((1 : Int) ≤ ((n : Nat) : Int)) && decide (((n : Nat) : Int) ≤ (30 : Int)))) :: [(3, dN n)]) ⟨sc rfl (Cv.eq (congrArg (fun b => D.v (.bool b)) (by first | (simp [hg7]; done) | (simp_all; done)))), sk rfl, trivial⟩ hQ6
      · skip
        refine zc rfl (za rfl rfl (zb rfl) (za rfl rfl (z7 rfl rfl (decide_eq_false hg7)) (za rfl rfl (zb rfl) (zi rfl rfl rfl rfl rfl (by decide) (zi rfl rfl rfl rfl rfl (by decide) (za rfl rfl (zm rfl rfl) (za rfl rfl (zd rfl) (zg rfl ?_))))))))
        exact PD.sub ((2, dB (decide ((1 : Int) ≤ ((n : Nat) : Int)) && decide (((n : Nat) : Int) ≤ (30 : Int)))) :: [(3, dN n)]) ⟨sc rfl (Cv.eq (congrArg (fun b => D.v (.bool b)) (by first | (simp [hg7]; done) | (simp_all; done)))), sk rfl, trivial⟩ hQ6
    · skip
      refine ze (zw rfl ?_)
      exact zo Tryd.results34 (.cons (zB (zq rfl) (Cv.eq (congrArg (fun b => D.v (.bool b)) (by unfold zb7; rw [hf, hrune]; simp only [zbN]; congr 1 <;> exact decide_eq_decide.2 (by omega))))) .nil) rfl HSub.none ⟨rfl, rfl⟩
end Lp
