/-
  Tables that the program reads; numbers to texts and back, by the library's own contracts.
-/
import Derived.Lib.QuietBelow
import Derived.Lib.SmallJoins
import Derived.Test.YtoanlikkhjohpaaDoorRows
import Derived.ProofKit
import Derived.LaidMore
import Derived.OpenShut
import Derived.Stop.Joined
import Derived.Test.YtoanlikkhjohpaaDoorProg
import Derived.Test.YtoanlikkhjohpaaDoorPLex
set_option linter.unusedVariables false
namespace Lp
open Go Go.RowKit Go.Proofs
/-- a call that only makes new blocks -/
theorem cd_ext {P : Program} {f : FuncId} {H : List Hp} {ds : List D} {R : D → List Hp → Prop} (h : ∀ w F vs, D.repA w F ds vs → (∀ x ∈ H, x.ok w F) → Calls P f vs.toArray w (Ret fun res w' => Ext w w' ∧ ∃ r, R r H ∧ D.rep w' F r res)) : CD P f H ds R :=
  ⟨fun w F vs hvs hF hH => (h w F vs hvs hH.ok).mono fun e w' he => by
    obtain ⟨v, rfl, E, r, hR, hr⟩ := he
    have k : Keep w F w' F := ⟨fun _ h => h, fun b hb hlt => E.block b hlt (.inr (Nat.zero_le _))⟩
    refine ⟨v, rfl, F, r, H, hR, hr, ⟨E.size, E.os, E.tape, E.output, fun b hb _ => E.block b hb (.inr (Nat.zero_le _)), fun _ h => h, fun _ h => .inl h, fun b hb => Nat.lt_of_lt_of_le (hF b hb) E.size, ⟨hH.apart, fun x hx => ?_, fun g hg => ⟨.inr hg, (hH.mine g hg).2⟩⟩⟩⟩
    have ok := hH.ok x hx
    exact Hp.keep ok k (fun g hg => E.block g (Hp.lt ok hg) (.inr (Nat.zero_le _)))⟩
theorem tab_of {P : Program} {w : World} {name : String} {g : Nat} {k : IntKind} {zs : List Int} {T : TypeId} {fr : Nat × Nat} (hg : P.globalNamed name = some g) (h : w.heap[g]? = some (.cells (zs.map fun z => Value.int k z).toArray T fr)) : Lib.TabIs P w name k zs := by
  unfold Lib.TabIs World.var?
  rw [hg]
  show (match w.heap[g]? with | some (.cells cs _ _) => some cs | _ => none) = _
  rw [h]
theorem ext_below {w w' : World} (h : Below w.heap.size w w') : Ext w w' := ⟨h.os, h.tape, h.output, h.size, fun k hk _ => h.block k hk⟩
def zbV : Array Value := (Lib.pow10Tab.map fun z => Value.int .u64 z).toArray
abbrev HPow : Hp := .tab 3 zbV
abbrev HErr (ev : Value) : Hp := .tab 2 #[ev]
def EvOk (ev : Value) : Prop := ev = .nilIface ∨ ∃ te pe, ev = .iface te pe
theorem digL_dec : ∀ n : Nat, digL n = Lib.decDigits n := by
  intro n
  induction n using Nat.strongRecOn with
  | _ n ih =>
    unfold digL Lib.decDigits
    split
    · rfl
    · rw [ih (n / 10) (by omega)]
theorem digL_len : ∀ n : Nat, (digL n).length ≤ n + 1 := by
  intro n
  induction n using Nat.strongRecOn with
  | _ n ih =>
    unfold digL
    split
    · simp
    · rw [List.length_append]; have := ih (n / 10) (by omega); simp only [List.length_cons, List.length_nil]; omega
theorem digB_size (n : Nat) : (digB n).size ≤ n + 1 := by unfold digB; rw [zaJ]; exact digL_len n
theorem itoa_c (n : Nat) (hn : n ≤ 1000000000000) : CD Tryd.prog 36 [HPow] [dN n] (fun r H' => r = .s (digB n) ∧ H' = [HPow]) :=
  cd_ext fun w F vs hvs hok => by
    obtain ⟨u, us, rfl, hu, hus⟩ := hvs
    have hu : u = _ := hu
    have hus : us = [] := hus
    subst hu; subst hus
    obtain ⟨hF, T, fr, hh⟩ := hok _ List.mem_cons_self
    refine (Any.strconv_Itoa Tryd.laysM171 (n : Int) (by omega) (by omega) w (tab_of (by kernel_rfl) hh)).mono fun e w' he => ?_
    obtain ⟨rfl, k, os, rfl⟩ := he
    refine ⟨_, rfl, ext_below (below_regrown w (w.drawn + k) os), .s (digB n), ⟨rfl, rfl⟩, ?_, ?_⟩
    · show Value.string _ = Value.string _
      congr 1
      show _ = mkB (digL n)
      unfold mkB Lib.itoa
      rw [if_neg (by omega), digL_dec]; rfl
    · have := digB_size n; unfold maxLen; omega
/-! ### digits -/
def Digs (l : List UInt8) : Prop := ∀ b ∈ l, 48 ≤ b.toNat ∧ b.toNat ≤ 57
theorem parse_no : ∀ (l : List UInt8) (acc : Nat), Digs l → (∃ u, Lib.parseUint10 acc l = .ok u) ∨ Lib.parseUint10 acc l = .range
  | [], acc, _ => .inl ⟨_, rfl⟩
  | c :: r, acc, h => by
    have hc := h c List.mem_cons_self
    unfold Lib.parseUint10
    rw [if_pos hc]
    split
    · exact .inr rfl
    · split
      · exact .inr rfl
      · exact parse_no r _ (fun b hb => h b (List.mem_cons_of_mem _ hb))
theorem parse_ok : ∀ (l : List UInt8) (acc k : Nat), Digs l → acc < 10 ^ k → l.length + k ≤ 13 → Lib.parseUint10 acc l = .ok (l.foldl (fun n b => 10 * n + (b.toNat - 48)) acc) ∧ l.foldl (fun n b => 10 * n + (b.toNat - 48)) acc < 10 ^ 13
  | [], acc, k, _, ha, hl => ⟨rfl, Nat.lt_of_lt_of_le ha (Nat.pow_le_pow_right (by omega) (by simpa using hl))⟩
  | c :: r, acc, k, h, ha, hl => by
    have hc := h c List.mem_cons_self
    have hk : 10 ^ k ≤ 10 ^ 13 := Nat.pow_le_pow_right (by omega) (by omega)
    have h13 : (10 : Nat) ^ 13 = 10000000000000 := by decide
    have ih := parse_ok r (10 * acc + (c.toNat - 48)) (k + 1) (fun b hb => h b (List.mem_cons_of_mem _ hb)) (by rw [Nat.pow_succ]; omega) (by simp only [List.length_cons] at hl; omega)
    unfold Lib.parseUint10
    rw [if_pos hc, if_neg (by omega), if_neg (by omega), Nat.mul_comm acc 10]
    exact ih
theorem atoi_ok {l : List UInt8} (h : Digs l) (hne : l ≠ []) (hl : l.length ≤ 13) : Lib.atoiAll l = .ok (digV l : Int) := by
  cases l with
  | nil => exact absurd rfl hne
  | cons c r =>
    have hc := h c List.mem_cons_self
    obtain ⟨h1, h2⟩ := parse_ok (c :: r) 0 0 h (by decide) (by omega)
    have h13 : (10 : Nat) ^ 13 = 10000000000000 := by decide
    rw [Lib.atoiAll_plain c r (by omega) (by omega)]
    unfold Lib.parseMag
    rw [if_neg (by simp), h1]
    unfold Lib.signless
    simp only []
    rw [if_neg (by omega)]; rfl
theorem atoi_no {l : List UInt8} (h : Digs l) (hne : l ≠ []) : (∃ v, Lib.atoiAll l = .ok v) ∨ Lib.atoiAll l = .range := by
  cases l with
  | nil => exact absurd rfl hne
  | cons c r =>
    have hc := h c List.mem_cons_self
    have hp := parse_no (c :: r) 0 h
    rw [Lib.atoiAll_plain c r (by omega) (by omega)]
    unfold Lib.parseMag
    rw [if_neg (by simp)]
    unfold Lib.signless
    rcases hp with ⟨u, e⟩ | e
    · rw [e]
      simp only []
      split
      · first | exact .inr rfl | exact .inl ⟨_, rfl⟩
      · first | exact .inl ⟨_, rfl⟩ | exact .inr rfl
    · rw [e]; exact .inr rfl
theorem atoi_c (s : ByteArray) (ev : Value) (hev : EvOk ev) (hd : Digs (bl8 s)) (hne : bl8 s ≠ []) (hs : s.size ≤ 1000000) : CD Tryd.prog 35 [HErr ev] [.s s] (fun r H' => ∃ v x, r = .tup [dI v, x] ∧ H' = [HErr ev] ∧ (s.size ≤ 13 → v = (digV (bl8 s) : Int) ∧ x = .v .nilIface) ∧ -9223372036854775808 ≤ v ∧ v ≤ 9223372036854775807) :=
  cd_ext fun w F vs hvs hok => by
    obtain ⟨u, us, rfl, hu, hus⟩ := hvs
    obtain ⟨hu, hm⟩ := hu
    have hus : us = [] := hus
    subst hu; subst hus
    rcases atoi_no hd hne with ⟨v, ha⟩ | ha
    · skip
      have hb := Lib.atoiAll_bounds ha
      refine (Any.strconv_Atoi_ok Tryd.laysC172 s (by omega) v ha w).mono fun e w' he => ?_
      obtain ⟨rfl, hw⟩ := he
      refine ⟨_, rfl, ?_, .tup [dI v, .v .nilIface], ⟨v, _, rfl, rfl, fun h13 => ⟨?_, rfl⟩, hb.1, hb.2⟩, ⟨_, rfl, _, _, rfl, rfl, _, _, rfl, rfl, rfl⟩⟩
      · rcases hw with rfl | ⟨t, rfl⟩
        · exact Ext.rfl'
        · exact ext_below (Joins.below_bytesWorld _ w _ t (Nat.le_refl _))
      · have := atoi_ok hd hne (by rw [zW]; exact h13)
        rw [this] at ha; injection ha with ha; exact ha.symm
    · skip
      have hb := Lib.atoiSat_bounds (bl8 s)
      obtain ⟨hF, T, fr, hh⟩ := hok _ List.mem_cons_self
      have hcell : w.cell? ⟨2, 0, none⟩ = some ev := by
        unfold World.cell?
        rw [hh]; rfl
      refine (Any.strconv_Atoi_range Tryd.laysC172 s (by omega) ha ev w hcell hev).mono fun e w' he => ?_
      obtain ⟨N, rfl, _, _, hbel⟩ := he
      refine ⟨_, rfl, ext_below hbel, .tup [dI (Lib.atoiSat (bl8 s)), .any], ⟨_, _, rfl, rfl, fun h13 => ?_, hb.1, hb.2⟩, ⟨_, rfl, _, _, rfl, rfl, _, _, rfl, rfl, rfl⟩⟩
      have := atoi_ok hd hne (by rw [zW]; exact h13)
      rw [this] at ha; cases ha
end Lp
/-
  What the tables hold when a tied law begins.
-/
set_option linter.unusedVariables false
namespace Lp
open Go Go.RowKit Go.Proofs
theorem laid_ints {H : Type} {enc : TypeId × Value → H} {P : Program} {w : World} {base : Nat} {spare : Nat → Bool} {held : Bool} {fuel n : Nat} {t e : TypeId} {k : IntKind} {cs : List Value} {zs : List Int} {q : List MemPlace}
    (hu : P.underlying t = some (.array n e)) (he : P.underlying e = some (.int k)) (hc : P.cellsOf e = 1) (hct : P.cellsOf t = n) (h : DataW.trod enc P w base spare held fuel t cs = some (.agg (zs.map fun z => .lit (.int k z)), q)) : cs = zs.map (Value.int k) := by
  obtain ⟨xs, m, rfl, hx, hlen, hn, hel⟩ := DataW.trod_array hu h
  have hx1 : zs.map (fun z => (DataW.lit (.int k z) : DataW H)) = xs.map (fun x => x.1) := by
    have := congrArg Prod.fst hx
    injection this
  have hl := congrArg List.length hx1
  rw [List.length_map, List.length_map] at hl
  apply List.ext_getElem?
  intro i
  rcases Nat.lt_or_ge i n with hi | hi
  · have h1 := hel i hi
    rw [hc, Nat.mul_one, List.getElem?_eq_getElem (by omega)] at h1
    obtain ⟨z, e1, e2, _⟩ := DataW.trod_int he h1
    have a1 : cs[i]? = some (.int k z) := by
      have := congrArg (fun l => l[0]?) e1
      simp only [List.getElem?_take, List.getElem?_drop] at this
      simpa using this
    have a2 : zs[i]? = some z := by
      have := congrArg (fun l => l[i]?) hx1
      simp only [List.getElem?_map] at this
      rw [List.getElem?_eq_getElem (show i < xs.length by omega), e2] at this
      cases e3 : zs[i]? with
      | none => rw [e3] at this; cases this
      | some y => rw [e3] at this; injection this with this; injection this with this; injection this with _ this; rw [this]
    rw [a1, List.getElem?_map, a2]; rfl
  · rw [List.getElem?_eq_none (by omega), List.getElem?_eq_none (by rw [List.length_map]; omega)]
theorem laid_iface {H : Type} {enc : TypeId × Value → H} {P : Program} {w : World} {base : Nat} {spare : Nat → Bool} {held : Bool} {fuel : Nat} {t : TypeId} {cs : List Value} {x : DataW H × List MemPlace} {ms : TypeDesc}
    (hu : P.underlying t = some ms) (hm : ∃ mm, ms = .interface mm) (h : DataW.trod enc P w base spare held fuel t cs = some x) : ∃ ev, cs = [ev] ∧ EvOk ev := by
  obtain ⟨mm, rfl⟩ := hm
  cases fuel with
  | zero => exact absurd h (by show ¬ (none = some x); simp)
  | succ fuel =>
    rw [DataW.trod_step] at h
    unfold DataW.trodStep at h
    rw [hu] at h
    split at h <;> simp_all [EvOk]
theorem var_heap {P : Program} {w : World} {name : String} {g : Nat} {cs : Array Value} (hg : P.globalNamed name = some g) (h : World.var? P w name = some cs) : ∃ T fr, w.heap[g]? = some (.cells cs T fr) := by
  unfold World.var? at h
  rw [hg] at h
  have h : (match w.heap[g]? with | some (.cells cs _ _) => some cs | _ => none) = some cs := h
  split at h
  · rename_i a b c e; injection h with h; subst h; exact ⟨_, _, e⟩
  · cases h
theorem of_laid {W : World} (h : laidMetH Tryd.prog Go.Proofs.YtoanlikkhjohpaaDoor.Rows.lexBlanksRow.laid W) : ∃ ev, EvOk ev ∧ (∃ T fr, W.heap[3]? = some (.cells zbV T fr)) ∧ (∃ T fr, W.heap[2]? = some (.cells #[ev] T fr)) := by
  rw [MakeChecks.laidMetH_plain _ _ _ (by kernel_rfl)] at h
  obtain ⟨ps, ⟨g0, t0, cs0, f0, p0, q0, hg0, ht0, hv0, hd0, ⟨g1, t1, cs1, f1, p1, q1, hg1, ht1, hv1, hd1, ⟨g2, t2, cs2, f2, p2, q2, hg2, ht2, hv2, hd2, ⟨g3, t3, cs3, f3, p3, q3, hg3, ht3, hv3, hd3, _⟩, _⟩, _⟩, _⟩, _, _⟩ := h
  obtain rfl : 3 = g2 := Option.some.inj ((show Tryd.prog.globalNamed _ = some 3 by kernel_rfl).symm.trans hg2)
  obtain rfl : 2 = g3 := Option.some.inj ((show Tryd.prog.globalNamed _ = some 2 by kernel_rfl).symm.trans hg3)
  have a2 : Tryd.prog.globals[3]?.map (·.type) = some t2 := ht2
  have a3 : Tryd.prog.globals[2]?.map (·.type) = some t3 := ht3
  obtain rfl := Option.some.inj ((show Tryd.prog.globals[3]?.map (·.type) = some 101 by kernel_rfl).symm.trans a2)
  obtain rfl := Option.some.inj ((show Tryd.prog.globals[2]?.map (·.type) = some 53 by kernel_rfl).symm.trans a3)
  obtain ⟨ev, e3, hev⟩ := laid_iface Tryd.underlying53 ⟨_, rfl⟩ hd3
  have e2 := laid_ints (n := 20) (e := 84) (zs := Lib.pow10Tab) (by kernel_rfl) (by kernel_rfl) (by kernel_rfl) (by kernel_rfl) hd2
  refine ⟨ev, hev, ?_, ?_⟩
  · have := var_heap hg2 hv2
    rwa [show cs2 = zbV from Array.toList_inj.1 (by rw [e2]; simp [zbV])] at this
  · have := var_heap hg3 hv3
    rwa [show cs3 = #[ev] from Array.toList_inj.1 (by rw [e3])] at this
/-- a law beside the tables -/
theorem CD.lawT {f : FuncId} {ds : List D} {ev : Value} (h : CD Tryd.prog f [HPow, HErr ev] ds (fun r H' => r = .v (.bool true) ∧ H' = [HPow, HErr ev])) {W : World} {vs : List Value} (hr : D.repA W (FA W) ds vs)
    (h1 : ∃ T fr, W.heap[3]? = some (.cells zbV T fr)) (h2 : ∃ T fr, W.heap[2]? = some (.cells #[ev] T fr)) :
    Calls Tryd.prog f vs.toArray W (Ret fun u w' => Ext W w' ∧ u = .bool true) := by
  have hno : ∀ b, ¬ blks [HPow, HErr ev] b := fun b ⟨x, hx, hb⟩ => by
    rcases List.mem_cons.1 hx with rfl | hx
    · exact hb
    · rw [List.mem_singleton.1 hx] at hb; exact hb
  have hlt : ∀ {g : Nat} {o : Obj}, W.heap[g]? = some o → g < W.heap.size := fun h => by
    rcases Nat.lt_or_ge _ W.heap.size with h' | h'
    · exact h'
    · rw [Array.getElem?_eq_none h'] at h; cases h
  obtain ⟨T1, f1, e1⟩ := h1
  obtain ⟨T2, f2, e2⟩ := h2
  have hk : HOk W (FA W) (fun _ => True) [HPow, HErr ev] := ⟨by
      refine List.Pairwise.cons (fun y _ g hg => ?_) (List.Pairwise.cons (fun y hy => absurd hy (by simp)) .nil)
      exact absurd hg (fun e => e), fun x hx => by
      rcases List.mem_cons.1 hx with rfl | hx
      · exact ⟨hlt e1, T1, f1, e1⟩
      · rw [List.mem_singleton.1 hx]; exact ⟨hlt e2, T2, f2, e2⟩, fun g hg => absurd hg (hno g)⟩
  refine (h.out W (FA W) vs hr (fun _ h => h) hk).mono ?_
  rintro e w' ⟨u, rfl, F', d', H', ⟨rfl, rfl⟩, hrep, g⟩
  have hrep : u = .bool true := hrep
  exact ⟨u, rfl, ⟨g.os, g.tape, g.output, g.size, fun b hb _ => g.frame b hb (hno b)⟩, hrep⟩
section
variable {H : Type} {enc : TypeId × Value → H} {w : World} {held : Bool} {sp : Nat → Bool} {n : Nat}
theorem in_int {cs : List Value} {y : DataW H × List MemPlace} (h : DataW.trod enc Tryd.prog w 0 sp held n 3 cs = some y) : ∃ d : Int, InD w 1 (.v (.int .i64 d)) cs := by
  obtain ⟨i, e1, _, _⟩ := DataW.trod_int (by kernel_rfl) h
  exact ⟨i, by rw [e1]; exact InD.one rfl rfl⟩
theorem in_str {cs : List Value} {y : DataW H × List MemPlace} (h : DataW.trod enc Tryd.prog w 0 sp held n 9 cs = some y) : ∃ d : ByteArray, InD w 1 (.s d) cs := by
  obtain ⟨s0, e0, _, k0⟩ := DataW.trod_string (by kernel_rfl) h
  exact ⟨s0, by rw [e0]; exact InD.one ⟨rfl, k0⟩ rfl⟩
end
end Lp
/-
  The program draws the order of what Go leaves open.
-/
namespace Lp
open Go Go.RowKit Go.Proofs
theorem mixed : Tryd.prog.follows .mixedOrders = true := by kernel_rfl
/-- short words for ways through code -/
abbrev T' : Bool := true
abbrev F' : Bool := false
abbrev dZ : D := .v (.slice none 0 0)
abbrev dP (g o : Nat) : D := .v (.pointer (some ⟨g, o, none⟩))
abbrev vS (g n c : Nat) : Value := .slice (some ⟨g, 0, none⟩) n c
theorem la {α : Type} {a b : List α} : (a ++ b).length = a.length + b.length := List.length_append
theorem lc {α : Type} {a : α} {b : List α} : (a :: b).length = b.length + 1 := List.length_cons
theorem ln {α : Type} : ([] : List α).length = 0 := List.length_nil
theorem lm {α β : Type} {a : List α} {f : α → β} : (a.map f).length = a.length := List.length_map f
theorem lt' {α : Type} {n : Nat} {a : List α} : (a.take n).length = min n a.length := List.length_take
theorem ld {α : Type} {n : Nat} {a : List α} : (a.drop n).length = a.length - n := List.length_drop
theorem ls {α : Type} {n : Nat} {a : List α} {x : α} : (a.set n x).length = a.length := List.length_set
theorem lr {α : Type} {n : Nat} {x : α} : (List.replicate n x).length = n := List.length_replicate
end Lp
