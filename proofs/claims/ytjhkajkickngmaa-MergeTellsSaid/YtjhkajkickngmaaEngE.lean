/-
  THE ENGINE, fourth part: the rules of the operations.
-/
import Derived.Maps.AppendAt
import Derived.Test.YtjhkajkickngmaaEngR
namespace Lp
open Go Go.RowKit

def opvs (l : Kn) : List Operand → Option (List Value)
  | [] => some []
  | x :: r => match opv l x, opvs l r with
    | some v, some vs => some (v :: vs)
    | _, _ => none

theorem Knows.ops {ρ : Env} {l : Kn} (h : Knows ρ l) : ∀ {xs : List Operand} {vs : List Value}, opvs l xs = some vs → xs.map (ev ρ) = vs
  | [], vs, e => by simp [opvs] at e; simp [e]
  | x :: r, vs, e => by
    unfold opvs at e
    cases h1 : opv l x with
    | none => simp [h1] at e
    | some v =>
      cases h2 : opvs l r with
      | none => simp [h1, h2] at e
      | some us =>
        simp [h1, h2] at e
        subst e
        simp [h.op h1, h.ops h2]

section rules
variable {P : Program} {ty : TypeId} {ρ : Env} {w : World} {K : Value → World → Prop} {l : Kn}

theorem EOp.of_run {op : Op} {v : Value} {w' : World} (hr : (execOp (ev ρ) (mkOper op ty)).run P w = .ok (.value v) w') (h : K v w') : EOp P op ty ρ w K := by
  refine ⟨?_⟩; unfold EOpD; rw [hr]; exact h
theorem EOp.of_skip {op : Op} {w' : World} (hr : (execOp (ev ρ) (mkOper op ty)).run P w = .ok .skip w') (h : K undef w') : EOp P op ty ρ w K := by
  refine ⟨?_⟩; unfold EOpD; rw [hr]; exact h

/-- Where the instruction is run by itself. -/
theorem run_v {s : Sem Value} {v : Value} {w w' : World} (h : s.run P w = .ok v w') : (do pure (Next.value (← s)) : Sem Next).run P w = .ok (.value v) w' := by
  simp [h]
theorem run_u {s : Sem Unit} {w w' : World} (h : s.run P w = .ok () w') : (do s; pure Next.skip : Sem Next).run P w = .ok .skip w' := by
  simp [h]

theorem e_move {x : Operand} {v : Value} (hk : Knows ρ l) (hx : opv l x = some v) (h : K v w) : EOp P (.move x) ty ρ w K :=
  EOp.of_run (v := v) (w' := w) (by simp [execOp, mkOper, hk.op hx]) h
theorem e_assign {x : Operand} {v : Value} (hk : Knows ρ l) (hx : opv l x = some v) (h : K v w) : EOp P (.assign x) ty ρ w K :=
  EOp.of_run (v := v) (w' := w) (by simp [execOp, mkOper, hk.op hx]) h
theorem e_pick_t {c x y : Operand} {v : Value} (hk : Knows ρ l) (hc : opv l c = some (.bool true)) (hx : opv l x = some v) (h : K v w) : EOp P (.pick c x y) ty ρ w K :=
  EOp.of_run (v := v) (w' := w) (by simp [execOp, mkOper, hk.op hc, asBool, hk.op hx]) h
theorem e_pick_f {c x y : Operand} {v : Value} (hk : Knows ρ l) (hc : opv l c = some (.bool false)) (hy : opv l y = some v) (h : K v w) : EOp P (.pick c x y) ty ρ w K :=
  EOp.of_run (v := v) (w' := w) (by simp [execOp, mkOper, hk.op hc, asBool, hk.op hy]) h

/-- A new block. -/
structure New (w w' : World) (g : Nat) (t : TypeId) (cs : List Value) : Prop where
  num : g = w.heap.size
  box : Box w' g t cs
  ext : Ext w w'
  size : w'.heap.size = w.heap.size + 1

theorem New.mk' (w : World) (t : TypeId) (cs : Array Value) : New w (w.alloc (.cells cs t)) w.heap.size t cs.toList :=
  ⟨rfl, by have := Box.new w t cs.toList; simpa using this, Ext.alloc _ _, by simp⟩

theorem e_alloc {t : TypeId} {z : Value} (hz : ∀ w, (zeroValue t).run P w = .ok z w) (h : ∀ g w', New w w' g t z.cells.toList → K (.pointer (some ⟨g, 0, none⟩)) w') : EOp P (.alloc t) ty ρ w K :=
  EOp.of_run (v := .pointer (some ⟨w.heap.size, 0, none⟩)) (w' := w.alloc (.cells z.cells t))
    (run_v (by simp [Instr.alloc, hz, newVar, newRow])) (h _ _ (New.mk' w t z.cells))
theorem e_box {t : TypeId} {x : Operand} {v : Value} (hk : Knows ρ l) (hx : opv l x = some v) (h : ∀ g w', New w w' g t v.cells.toList → K (.pointer (some ⟨g, 0, none⟩)) w') : EOp P (.box t x) ty ρ w K :=
  EOp.of_run (v := .pointer (some ⟨w.heap.size, 0, none⟩)) (w' := w.alloc (.cells v.cells t))
    (run_v (by simp [Instr.box, hk.op hx, newVar, newRow])) (h _ _ (New.mk' w t v.cells))

theorem e_load1 {t : TypeId} {x : Operand} {b o : Nat} {v : Value} (hk : Knows ρ l) (hx : opv l x = some (.pointer (some ⟨b, o, none⟩))) (hg : ∀ w, (isAgg t).run P w = .ok false w)
    (hc : w.cell? ⟨b, o, none⟩ = some v) (h : K v w) : EOp P (.load t x) ty ρ w K :=
  EOp.of_run (v := v) (w' := w) (run_v (by simp [Instr.loadAt, hk.op hx, Instr.sureAddr, loadVar, hg, hc])) h
theorem e_loadA {t : TypeId} {x : Operand} {b o : Nat} {cs : List Value} (hk : Knows ρ l) (hx : opv l x = some (.pointer (some ⟨b, o, none⟩))) (hg : ∀ w, (isAgg t).run P w = .ok true w)
    (hs : ∀ w, (Go.sizeOf t).run P w = .ok cs.length w) (hc : At w b o cs) (h : K (.agg cs.toArray) w) : EOp P (.load t x) ty ρ w K :=
  EOp.of_run (v := .agg cs.toArray) (w' := w) (run_v (by
    have := run_loadCells P w b o cs hc
    simp [Instr.loadAt, hk.op hx, Instr.sureAddr, loadVar, hg, hs, this])) h

def AllOne : List Value → Prop
  | [] => True
  | v :: r => v.oneCell' = true ∧ AllOne r
theorem AllOne.all : ∀ {vs : List Value}, AllOne vs → ∀ u ∈ vs, u.oneCell' = true
  | [], _, u, hu => by cases hu
  | v :: r, ⟨h1, h2⟩, u, hu => by
    cases hu with
    | head => exact h1
    | tail _ hm => exact AllOne.all h2 u hm

theorem e_store {t : TypeId} {x y : Operand} {g o : Nat} {v : Value} {T : TypeId} {cs : List Value} (hk : Knows ρ l) (hx : opv l x = some (.pointer (some ⟨g, o, none⟩))) (hy : opv l y = some v)
    (hs : ∀ w, (Go.sizeOf t).run P w = .ok v.cells.size w) (hB : Box w g T cs) (ho : o + v.cells.toList.length ≤ cs.length) (h1 : AllOne v.cells.toList)
    (h : ∀ w', Box w' g T (spl cs o v.cells.toList) → Upd g (g + 1) w w' → w'.heap.size = w.heap.size → K undef w') : EOp P (.store t x y) ty ρ w K := by
  obtain ⟨w', e1, e2, e3, e4⟩ := run_storeCells P g T v.cells.toList w cs o 0 hB (by simpa using ho) h1.all
  refine EOp.of_skip (w' := w') (run_u ?_) (h w' e2 e3 e4)
  simp [Instr.storeAt, hk.op hx, hk.op hy, Instr.sureAddr, storeVar, hs, e1]

theorem e_nilCheck {x : Operand} {a : Addr} (hk : Knows ρ l) (hx : opv l x = some (.pointer (some a))) (h : K (.pointer (some a)) w) : EOp P (.nilCheck x) ty ρ w K :=
  EOp.of_run (v := .pointer (some a)) (w' := w) (by simp [execOp, mkOper, hk.op hx]) h

theorem e_fieldAddr {s f : Nat} {x : Operand} {p q : Addr} (hk : Knows ρ l) (hx : opv l x = some (.pointer (some p)))
    (hf : ∀ w, (Instr.fieldAt s (.pointer (some p)) f).run P w = .ok (.pointer (some q)) w) (h : K (.pointer (some q)) w) : EOp P (.fieldAddr s x f) ty ρ w K :=
  EOp.of_run (v := .pointer (some q)) (w' := w) (run_v (by rw [hk.op hx]; exact hf w)) h

theorem e_indexAddr {t e : TypeId} {z : Nat} {x i : Operand} {v : Value} {kd : IntKind} {n : Int} {k : Nat} (hk : Knows ρ l) (hx : opv l x = some v) (hi : opv l i = some (.int kd n))
    (ht : ∀ w, (underlying t).run P w = .ok (.slice e) w) (hs : ∀ w, (Go.sizeOf e).run P w = .ok z w) (hv : Has v k) (hn : n = (k : Int)) (h : K (.pointer (some ⟨bl v, of_ v + k * z, none⟩)) w) : EOp P (.indexAddr t x i) ty ρ w K := by
  obtain ⟨b, o, m, c, rfl, hlt⟩ := hv
  subst hn
  refine EOp.of_run (v := .pointer (some ⟨b, o + k * z, none⟩)) (w' := w) (run_v ?_) h
  have ha : (⟨b, o, none⟩ : Addr).add (k * z) = ⟨b, o + k * z, none⟩ := by
    unfold Addr.add; split
    · rename_i h0; rw [h0]; rfl
    · rfl
  simp [Instr.indexAt, hk.op hx, hk.op hi, asIntOf, ht, hs, hlt, ha]

theorem e_slice {t e : TypeId} {z : Nat} {x : Operand} {lo hi : Option Operand} {v : Value} {lv hv : Option Value} {n a b : Nat} (hk : Knows ρ l) (hx : opv l x = some v)
    (hlo : lo.map (ev ρ) = lv) (hhi : hi.map (ev ρ) = hv) (hla : (lv = none ∧ 0 = a) ∨ (∃ kd, lv = some (.int kd (a : Int)))) (hhb : (hv = none ∧ n = b) ∨ (∃ kd, hv = some (.int kd (b : Int))))
    (ht : ∀ w, (underlying t).run P w = .ok (.slice e) w) (hs : ∀ w, (Go.sizeOf e).run P w = .ok z w) (hL : ∃ A c, v = .slice A n c ∧ b ≤ c) (hab : a ≤ b) (h : K (cut z v a b) w) :
    EOp P (.slice t x lo hi none) ty ρ w K := by
  obtain ⟨A, c, rfl, hnc⟩ := hL
  refine EOp.of_run (v := cut z (.slice A n c) a b) (w' := w) (run_v ?_) h
  have e1 : Instr.sliceAt t (ev ρ x) (lo.map (ev ρ)) (hi.map (ev ρ)) (none.map (ev ρ)) = Instr.sliceAt t (.slice A n c) lv hv none := by rw [hk.op hx, hlo, hhi]; rfl
  rw [e1]
  rcases hla with ⟨p1, p2⟩ | ⟨kd, p1⟩ <;> rcases hhb with ⟨q1, q2⟩ | ⟨kd', q1⟩ <;> rw [p1, q1]
  · subst p2; subst q2; simp [Instr.sliceAt, Instr.slice, Instr.sliceBounds, ht, hs, cut]
  · subst p2
    have e3 : (b : Int) ≤ c := by omega
    simp [Instr.sliceAt, Instr.slice, Instr.sliceBounds, Instr.sliceBound, asIntOf, ht, hs, cut, hnc]
  · subst q2
    simp [Instr.sliceAt, Instr.slice, Instr.sliceBounds, Instr.sliceBound, asIntOf, ht, hs, cut, hab]
  · have e3 : (b : Int) ≤ c := by omega
    simp [Instr.sliceAt, Instr.slice, Instr.sliceBounds, Instr.sliceBound, asIntOf, ht, hs, cut, hab, hnc]

/-! integers -/
theorem e_bin {op : BinOp} {t t' : TypeId} {x y : Operand} {u v r : Value} (hk : Knows ρ l) (hx : opv l x = some u) (hy : opv l y = some v)
    (hr : ∀ w, (do eqGuard op t x y u v; binOp op t u v : Sem Value).run P w = .ok r w) (h : K r w) : EOp P (.binOp op t x y t') ty ρ w K :=
  EOp.of_run (v := r) (w' := w) (by
    have := run_v (hr w)
    simpa [execOp, mkOper, hk.op hx, hk.op hy] using this) h

theorem e_add {t t' : TypeId} {x y : Operand} {k : IntKind} {a b c : Int} (hk : Knows ρ l) (hx : opv l x = some (.int k a)) (hy : opv l y = some (.int k b)) (hw : k.wrap (a + b) = c) (h : K (.int k c) w) : EOp P (.binOp .add t x y t') ty ρ w K :=
  e_bin hk hx hy (fun w => by simp [eqGuard_add, binOp_add, Op.intArith, hw]) h
theorem e_sub {t t' : TypeId} {x y : Operand} {k : IntKind} {a b c : Int} (hk : Knows ρ l) (hx : opv l x = some (.int k a)) (hy : opv l y = some (.int k b)) (hw : k.wrap (a - b) = c) (h : K (.int k c) w) : EOp P (.binOp .sub t x y t') ty ρ w K :=
  e_bin hk hx hy (fun w => by simp [eqGuard_sub, binOp_sub, Op.intArith, hw]) h
theorem e_mul {t t' : TypeId} {x y : Operand} {k : IntKind} {a b c : Int} (hk : Knows ρ l) (hx : opv l x = some (.int k a)) (hy : opv l y = some (.int k b)) (hw : k.wrap (a * b) = c) (h : K (.int k c) w) : EOp P (.binOp .mul t x y t') ty ρ w K :=
  e_bin hk hx hy (fun w => by simp [eqGuard_mul, binOp_mul, Op.intArith, hw]) h
theorem e_quo {t t' : TypeId} {x y : Operand} {k : IntKind} {a b c : Int} (hk : Knows ρ l) (hx : opv l x = some (.int k a)) (hy : opv l y = some (.int k b)) (hb : b ≠ 0) (hw : k.wrap (a.tdiv b) = c) (h : K (.int k c) w) : EOp P (.binOp .quo t x y t') ty ρ w K :=
  e_bin hk hx hy (fun w => by simp [eqGuard_quo, binOp_quo, Op.intDiv, hw, hb]) h
theorem e_lss {t t' : TypeId} {x y : Operand} {k : IntKind} {a b : Int} (hk : Knows ρ l) (hx : opv l x = some (.int k a)) (hy : opv l y = some (.int k b)) {c : Bool} (hc : (decide (a < b)) = c) (h : K (.bool c) w) : EOp P (.binOp .lss t x y t') ty ρ w K :=
  e_bin hk hx hy (fun w => by simp [eqGuard_lss, binOp_lss]) (hc ▸ h)
theorem e_leq {t t' : TypeId} {x y : Operand} {k : IntKind} {a b : Int} (hk : Knows ρ l) (hx : opv l x = some (.int k a)) (hy : opv l y = some (.int k b)) {c : Bool} (hc : (decide (a ≤ b)) = c) (h : K (.bool c) w) : EOp P (.binOp .leq t x y t') ty ρ w K :=
  e_bin hk hx hy (fun w => by simp [eqGuard_leq, binOp_leq]) (hc ▸ h)
theorem e_gtr {t t' : TypeId} {x y : Operand} {k : IntKind} {a b : Int} (hk : Knows ρ l) (hx : opv l x = some (.int k a)) (hy : opv l y = some (.int k b)) {c : Bool} (hc : (decide (b < a)) = c) (h : K (.bool c) w) : EOp P (.binOp .gtr t x y t') ty ρ w K :=
  e_bin hk hx hy (fun w => by simp [eqGuard_gtr, binOp_gtr]) (hc ▸ h)
theorem e_geq {t t' : TypeId} {x y : Operand} {k : IntKind} {a b : Int} (hk : Knows ρ l) (hx : opv l x = some (.int k a)) (hy : opv l y = some (.int k b)) {c : Bool} (hc : (decide (b ≤ a)) = c) (h : K (.bool c) w) : EOp P (.binOp .geq t x y t') ty ρ w K :=
  e_bin hk hx hy (fun w => by simp [eqGuard_geq, binOp_geq]) (hc ▸ h)
theorem e_eql {t t' : TypeId} {x y : Operand} {k : IntKind} {a b : Int} (hk : Knows ρ l) (hx : opv l x = some (.int k a)) (hy : opv l y = some (.int k b)) {c : Bool} (hc : (decide (a = b)) = c) (h : K (.bool c) w) : EOp P (.binOp .eql t x y t') ty ρ w K :=
  e_bin hk hx hy (fun w => by simp [eqGuard_at_int, binOp_eql]; exact Bool.beq_eq_decide_eq a b) (hc ▸ h)
theorem e_neq {t t' : TypeId} {x y : Operand} {k : IntKind} {a b : Int} (hk : Knows ρ l) (hx : opv l x = some (.int k a)) (hy : opv l y = some (.int k b)) {c : Bool} (hc : (decide (a ≠ b)) = c) (h : K (.bool c) w) : EOp P (.binOp .neq t x y t') ty ρ w K :=
  e_bin hk hx hy (fun w => by simp [eqGuard_at_int, binOp_neq, bne]; exact Bool.beq_eq_decide_eq a b) (hc ▸ h)

/-! strings -/
theorem toList_beq (s t : ByteArray) : (s.toList == t.toList) = decide (s = t) := by
  rw [Bool.eq_iff_iff]; simp only [beq_iff_eq, decide_eq_true_eq]
  constructor
  · intro h
    have h' : s.data.toList = t.data.toList := by rw [← ByteArray.toList_eq, ← ByteArray.toList_eq]; exact h
    exact ByteArray.ext (Array.ext' h')
  · rintro rfl; rfl

theorem e_not {t : TypeId} {x : Operand} {b : Bool} (hk : Knows ρ l) (hx : opv l x = some (.bool b)) (h : K (.bool (!b)) w) : EOp P (.unOp .not t x) ty ρ w K :=
  EOp.of_run (v := .bool (!b)) (w' := w) (by simp [execOp, mkOper, hk.op hx, Op.unary]) h
/-! builtins -/
theorem e_len {t : TypeId} {e : TypeId} {x : Operand} {v : Value} {n : Nat} (hk : Knows ρ l) (hx : opv l x = some v) (ht : ∀ w, (underlying t).run P w = .ok (.slice e) w) (hv : Len v n) (h : K (.int .i64 n) w) :
    EOp P (.call { callee := .builtin .len, args := #[x], argTypes := #[t] }) ty ρ w K := by
  obtain ⟨A, c, rfl⟩ := hv
  exact EOp.of_run (v := .int .i64 n) (w' := w) (by simp [execOp, mkOper, resolve, invoke, builtin, hk.op hx, Builtin.len_, ht, goInt]) h
theorem e_len_str {t : TypeId} {x : Operand} {s : ByteArray} (hk : Knows ρ l) (hx : opv l x = some (.string s)) (ht : ∀ w, (underlying t).run P w = .ok .string w) (h : K (.int .i64 s.size) w) :
    EOp P (.call { callee := .builtin .len, args := #[x], argTypes := #[t] }) ty ρ w K := by
  exact EOp.of_run (v := .int .i64 s.size) (w' := w) (by simp [execOp, mkOper, resolve, invoke, builtin, hk.op hx, Builtin.len_, ht, goInt]) h

/-! calls -/
abbrev Ret (R : Value → World → Prop) : Ending → World → Prop := fun e w' => ∃ v, e = .returned v ∧ R v w'

theorem e_call {f : FuncId} {args : Array Operand} {ats : Array TypeId} {vs : List Value} {R : Value → World → Prop} (hk : Knows ρ l) (hargs : opvs l args.toList = some vs)
    (hc : ∀ args w, (callFunc f args).run P w = .ok (.enter f args) w) (hcall : Calls P f vs.toArray w (Ret R)) (h : ∀ v w', R v w' → K v w') :
    EOp P (.call { callee := .value (.func f), args := args, argTypes := ats }) ty ρ w K := by
  have e1 : args.map (ev ρ) = vs.toArray := by
    apply Array.ext'; rw [Array.toList_map, hk.ops hargs]
  refine ⟨?_⟩
  unfold EOpD
  have e2 : (execOp (ev ρ) (mkOper (.call { callee := .value (.func f), args := args, argTypes := ats }) ty)).run P w = .ok (.enter f vs.toArray) w := by
    simp [execOp, mkOper, resolve, ev, Deferred.ofValue, invoke, hc, e1]
  rw [e2]
  exact hcall.mono fun e w' ⟨v, he, hv⟩ => ⟨v, he, h v w' hv⟩

/-- A call of a function value that is known. -/
theorem e_callv {f : FuncId} {x : Operand} {args : Array Operand} {ats : Array TypeId} {fs cs : Array Value} {vs us : List Value} {R : Value → World → Prop} (hk : Knows ρ l) (hx : opv l x = some (.func (.func f) fs cs)) (hargs : opvs l args.toList = some vs) (hus : fs.toList ++ vs ++ cs.toList = us)
    (hc : ∀ args w, (callFunc f args).run P w = .ok (.enter f args) w) (hcall : Calls P f us.toArray w (Ret R)) (h : ∀ v w', R v w' → K v w') :
    EOp P (.call { callee := .value x, args := args, argTypes := ats }) ty ρ w K := by
  have e1 : args.map (ev ρ) = vs.toArray := by
    apply Array.ext'; rw [Array.toList_map, hk.ops hargs]
  have e3 : fs ++ vs.toArray ++ cs = us.toArray := by
    apply Array.ext'; simp [← hus]
  refine ⟨?_⟩
  unfold EOpD
  have e2 : (execOp (ev ρ) (mkOper (.call { callee := .value x, args := args, argTypes := ats }) ty)).run P w = .ok (.enter f us.toArray) w := by
    rw [← e3]
    simp [execOp, mkOper, resolve, hk.op hx, Deferred.ofValue, invoke, hc, e1]
  rw [e2]
  exact hcall.mono fun e w' ⟨v, he, hv⟩ => ⟨v, he, h v w' hv⟩

/-! interfaces, tuples -/
theorem e_mkIface {t : TypeId} {x : Operand} {v : Value} (hk : Knows ρ l) (hx : opv l x = some v) (hm : ∀ w, (Instr.makeInterface t v).run P w = .ok (.iface t v) w) (h : K (.iface t v) w) : EOp P (.makeInterface t x) ty ρ w K :=
  EOp.of_run (v := .iface t v) (w' := w) (run_v (by rw [hk.op hx]; exact hm w)) h
theorem e_assert {t T : TypeId} {x : Operand} {u v : Value} (hk : Knows ρ l) (hx : opv l x = some u) (hm : ∀ w, (Instr.typeAssert u t T true).run P w = .ok v w) (h : K v w) : EOp P (.typeAssert x t T true) ty ρ w K :=
  EOp.of_run (v := v) (w' := w) (run_v (by rw [hk.op hx]; exact hm w)) h
theorem e_extract {x : Operand} {vs : Array Value} {i : Nat} {v : Value} (hk : Knows ρ l) (hx : opv l x = some (.tuple vs)) (hv : vs[i]? = some v) (h : K v w) : EOp P (.extract x i) ty ρ w K :=
  EOp.of_run (v := v) (w' := w) (run_v (by rw [hk.op hx]; simp [Instr.extract, hv])) h
theorem e_build {t : TypeId} {ps : Array (Nat × Operand)} {qs : Array (Nat × Value)} {v : Value} (hp : ps.map (fun p => (p.1, ev ρ p.2)) = qs) (hr : ∀ w, (Instr.build t qs).run P w = .ok v w) (h : K v w) : EOp P (.build t ps) ty ρ w K :=
  EOp.of_run (v := v) (w' := w) (run_v (by
    have e : (ps.map fun (i, x) => (i, ev ρ x)) = qs := hp
    rw [e]; exact hr w)) h
end rules
end Lp
