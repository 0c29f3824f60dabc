/-
  BYTES: rows of bytes, texts appended to them; a strings.Builder.
-/
import Derived.Test.YtjhkajkickngmaaDG
import Derived.Lib.AppendStr
import Derived.Lib.UnsafeStr
set_option linter.unusedVariables false
namespace Lp
open Go Go.RowKit
open Go.Lib (strCells strCells_eq byteCells byteCells_length run_append_own_string)

abbrev dU8 (b : UInt8) : D := .v (.int .u8 (b.toNat : Int))
theorem u8_eq {n : Int} {m : Nat} (h : n = (m : Int)) (hm : m < 256) : D.v (.int .u8 n) = dU8 (UInt8.ofNat m) := by
  have : (UInt8.ofNat m).toNat = m := by simp [UInt8.toNat_ofNat']; omega
  unfold dU8; rw [this, h]

theorem newRow_at {P : Program} {E : TypeId} {c : Array Value} {a : Addr} {w w1 : World} (h : (newRow E c).run P w = .ok a w1) : a = ⟨w.heap.size, 0, none⟩ := by
  simp [newRow] at h
  exact h.1.symm
theorem append_moved_s {P : Program} {w w' : World} {t u ty E n cap : Nat} {A : Option Addr} {s : ByteArray} {v' : Value} {i : TypeInfo} (ht : P.underlying t = some (.slice E)) (hu : P.underlying u = some .string) (hi : P.info? E = some i) (hn : cap < n + s.size) (hm : n + s.size ≤ maxLen)
    (h : (Builtin.append_ #[t, u] ty #[.slice A n cap, .string s]).run P w = .ok v' w') : Ext w w' ∧ v'.ownBlock = some w.heap.size := by
  simp [Builtin.append_, run_underlying ht, run_underlying hu, Go.sizeOf, typeInfo, hi, Builtin.lenOf, show ¬ n + s.size ≤ cap by omega] at h
  have fin : ∀ {W : World} {k : Nat} {f : Addr → World → Result Value}, Ext w W → W.heap.size = w.heap.size → (∀ a w1 v w2, f a w1 = .ok v w2 → w2 = w1 ∧ v.ownBlock = some a.block) → ((Sem.run P (Builtin.firstCells i.size n (Value.slice A n cap)) W).andThen fun a w' =>
                (Sem.run P (Builtin.firstCells i.size s.size (.string s)) w').andThen fun a_1 w' =>
                  (Sem.run P (zeroValue E) w').andThen fun a_2 w' =>
                    (Sem.run P (newRow E (a ++ (a_1 ++ Builtin.zeroCells a_2.cells k))) w').andThen f) = .ok v' w' → Ext w w' ∧ v'.ownBlock = some w.heap.size := by
    intro W k f hE hsz hf h
    obtain ⟨a, w1, h1, h⟩ := then_ok h
    obtain ⟨a1, w2, h2, h⟩ := then_ok h
    obtain ⟨a2, w3, h3, h⟩ := then_ok h
    obtain ⟨a3, w4, h4, h⟩ := then_ok h
    have e1 := firstCells_same h1
    have e2 : w2 = w1 := by simp [Builtin.firstCells] at h2; exact h2.2.symm
    have e3 := zero_same h3
    have e4 := newRow_ext h4
    have e5 := newRow_at h4
    have e6 := hf _ _ _ _ h
    subst e1; subst e2; subst e3
    rw [e6.1]
    exact ⟨hE.trans e4, by rw [e6.2, e5, hsz]⟩
  have hcond : ¬ (9223372036854775807 < (n : Int) + (s.size : Int) ∧ i.bytes = 0) := by
    rintro ⟨h1, _⟩; unfold maxLen at hm; omega
  rw [if_neg hcond] at h
  split at h
  · obtain ⟨_, _, h, _⟩ := then_ok h; obtain ⟨_, _, _, h⟩ := then_ok h; cases h
  · split at h
    · refine fin (W := w) (k := 0) (f := fun a w' => Result.ok (.slice (some a) (n + s.size) 0) w') Ext.rfl' rfl (fun _ _ _ _ h => by cases h; exact ⟨rfl, rfl⟩) ?_
      simpa [Builtin.firstCells] using h
    · refine fin (W := w.drew) (k := (Question.appendCap (n + s.size) cap E).cut (w.tape w.drawn (Question.appendCap (n + s.size) cap E)) - (n + s.size)) (f := fun a w' => Result.ok (.slice (some a) (n + s.size) ((Question.appendCap (n + s.size) cap E).cut (w.tape w.drawn (Question.appendCap (n + s.size) cap E)))) w') (Ext.drew w) rfl (fun _ _ _ _ h => by cases h; exact ⟨rfl, rfl⟩) ?_
      simpa [Builtin.firstCells] using h
theorem append_inplace_s {P : Program} {w w' : World} {t u ty E n cap : Nat} {A : Option Addr} {s : ByteArray} {v' : Value} {i : TypeInfo} (ht : P.underlying t = some (.slice E)) (hu : P.underlying u = some .string) (hi : P.info? E = some i) (hn : n + s.size ≤ cap)
    (h : (Builtin.append_ #[t, u] ty #[.slice A n cap, .string s]).run P w = .ok v' w') : v' = .slice A (n + s.size) cap := by
  simp [Builtin.append_, run_underlying ht, run_underlying hu, Go.sizeOf, typeInfo, hi, Builtin.lenOf, hn] at h
  obtain ⟨a, w1, h1, h⟩ := then_ok h
  cases A with
  | none => simp at h; exact h.1.symm
  | some ad =>
    simp at h
    obtain ⟨_, _, _, h⟩ := then_ok h
    cases h; rfl

theorem strCells_get {s : ByteArray} : ∀ u ∈ strCells s, u.oneCell' = true := by
  intro u hu
  rw [strCells_eq] at hu
  simp only [byteCells, List.mem_map] at hu
  obtain ⟨b, _, rfl⟩ := hu
  rfl
theorem flat_one : ∀ {us : List Value}, (∀ u ∈ us, u.oneCell' = true) → us.flatMap vcs = us
  | [], _ => rfl
  | u :: r, h => by rw [List.flatMap_cons, vcs_one (h u List.mem_cons_self), flat_one (fun x hx => h x (List.mem_cons_of_mem _ hx))]; rfl
theorem repE_bytes {w : World} {F : Nat → Prop} : ∀ l : List UInt8, RepE w F 1 (l.map dU8) (byteCells l)
  | [] => rfl
  | b :: r => ⟨_, _, rfl, rfl, One.one rfl, rfl, repE_bytes r⟩

section
variable {P : Program} {ty : TypeId} {K : Kd} {H : List Hp}
theorem ef_append_s {t u : TypeId} {x y : Operand} {i : Nat} {v : Value} {T : TypeId} {bs : List UInt8} {s : ByteArray} (hx : opO K x = some v) (hm : nth H i = some (.sl v 1 T (bs.map dU8))) (hy : opS K y = some s) (ht : P.underlying t = some (.slice T)) (hu : P.underlying u = some .string)
    (hi' : ∃ i, P.info? T = some i ∧ i.zero = some (.int .u8 0) ∧ i.size = 1 ∧ i.bytes = 1) (hlen : bs.length + s.size ≤ 140737488355328) :
    Ef P (.call { callee := .builtin .append, args := #[x, y], argTypes := #[t, u] }) ty K H (fun d H' => ∃ v', d = .ov v' ∧ H' = H.set i (.sl v' 1 T ((bs ++ s.data.toList).map dU8))) :=
  ⟨fun C ρ w F hk gd => by
    obtain ⟨us, hus, hown⟩ := gd.h.ok _ (nth_mem hm)
    have hul := hus.len
    rw [List.length_map] at hul
    obtain ⟨i, q1, q2, q3, q4⟩ := hi'
    have hmx : us.length + s.size ≤ maxLen := by unfold maxLen; omega
    obtain ⟨v', w', r1, r2, r3, _⟩ := run_append_own_string (P := P) (w := w) 0 t u ty T i ht hu q1 q2 q3 q4 v us.length _ hown.1 s hmx (by omega) (Nat.zero_le _)
    refine EOp.of_run (v := v') (w' := w') (by
      have e1 := hk.opO hx
      have e2 := hk.opS hy
      simp [execOp, mkOper, resolve, invoke, builtin, e1, e2, r1]) ?_
    obtain ⟨A, cp, ev, _⟩ := hown.sl.capOk
    have hblk : v'.ownBlock = v.ownBlock ∨ v'.ownBlock = some w.heap.size := by
      rw [ev] at r1
      by_cases hin : us.length + s.size ≤ cp
      · left; rw [append_inplace_s ht hu q1 hin r1, ev]; cases A <;> rfl
      · right; exact (append_moved_s ht hu q1 (by omega) hmx r1).2
    have hone : ∀ x ∈ strCells s, (vcs x).length = 1 := fun x hx => by rw [vcs_one (strCells_get x hx)]; rfl
    have hsz : (strCells s).length = s.size := by rw [strCells_eq, byteCells_length]; simp
    have how : Own vcs 1 T w' 0 v' (us ++ strCells s) := by
      refine ⟨?_, fun x hx => ?_⟩
      · rw [List.length_append, hsz, List.flatMap_append, flat_one strCells_get]; exact r2
      · rcases List.mem_append.1 hx with hx | hx
        · exact hown.2 x hx
        · exact hone x hx
    have := gd.turn (h' := .sl v' 1 T ((bs ++ s.data.toList).map dU8)) hm (fun c hc hn => r3.block c hc (fun e => hn e.symm)) r3.size r3.os r3.tape r3.output (fun c e => by
      rcases hblk with h3 | h3
      · exact .inl (by show v.ownBlock = _; rw [← h3]; exact e)
      · have e' : v'.ownBlock = some c := e
        rw [h3] at e'; cases e'; exact .inr (Nat.le_refl _)) (fun kp => ⟨us ++ strCells s, by rw [List.map_append, strCells_eq]; exact (hus.keep kp).app (repE_bytes _), how⟩)
    exact ⟨F, .ov v', _, ⟨v', rfl, rfl⟩, ⟨rfl, how.one⟩, this.1, this.2⟩⟩
/-- What one entry owned is let go, however it has turned. -/
theorem Good.lose {C : Ctx} {H : List Hp} {w w' : World} {F : Nat → Prop} {i : Nat} {h : Hp} (g : Good C H w F) (hi : nth H i = some h)
    (hupd : ∀ b, b < w.heap.size → ¬ h.blk b → w'.heap[b]? = w.heap[b]?) (hsz : w.heap.size ≤ w'.heap.size) (hos : w'.os = w.os) (htp : w'.tape = w.tape) (hout : w'.output = w.output) : Good C (H.take i ++ H.drop (i + 1)) w' F ∧ Keep w F w' F := by
  have hmem := nth_mem hi
  have hp := (perm_front hi)
  have gp := (HSub.perm hp).out _ _ _ g
  have hap := List.pairwise_cons.1 gp.h.apart
  have hk : Keep w F w' F := ⟨fun _ h => h, fun b hF hlt => hupd b hlt (fun e => (g.h.mine b ⟨h, hmem, e⟩).2 hF)⟩
  refine ⟨⟨Nat.le_trans g.size hsz, hos.trans g.os, htp.trans g.tape, hout.trans g.output, fun b hb1 hn => ?_, g.fsub, g.fnew, fun b hF => Nat.lt_of_lt_of_le (g.flt b hF) hsz, hap.2, fun x hx => ?_, fun b ⟨x, hx, e⟩ => gp.h.mine b ⟨x, List.mem_cons_of_mem _ hx, e⟩⟩, hk⟩
  · rw [hupd b (Nat.lt_of_lt_of_le hb1 g.size) (fun e => ?_)]
    · exact g.frame b hb1 hn
    · rcases (g.h.mine b ⟨h, hmem, e⟩).1 with h1 | h1
      · omega
      · exact hn h1
  · have hox := gp.h.ok x (List.mem_cons_of_mem _ hx)
    exact Hp.keep hox hk (fun b hb1 => hupd b (Hp.lt hox hb1) (fun e => hap.1 x hx b e hb1))

theorem p_sliceData {x : Operand} {t : Array TypeId} {i z : Nat} {v : Value} {T : TypeId} {xs : List D} (hx : opO K x = some v) (hm : nth H i = some (.sl v z T xs)) (hn : 0 < xs.length) : Pu P (.call { callee := .builtin .unsafeSliceData, args := #[x], argTypes := t }) ty K H (.v (.pointer (some ⟨bl v, 0, none⟩))) :=
  ⟨fun ρ w F hk _ hH => by
    obtain ⟨us, hus, hown⟩ := hH _ (nth_mem hm)
    have hul := hus.len
    obtain ⟨cap, r, e, _, _, hc, _⟩ := hown.form (by omega)
    refine EOp.of_run (v := .pointer (some ⟨bl v, 0, none⟩)) (w' := w) ?_ ⟨rfl, rfl⟩
    have e1 := hk.opO hx
    rw [e] at e1
    have hr := Lib.run_unsafeSliceData_row (P := P) (w := w) t ty ⟨bl v, 0, none⟩ us.length cap (by omega)
    simp [execOp, mkOper, resolve, invoke, builtin, e1, hr]⟩
theorem p_sliceData_nil {x : Operand} {t : Array TypeId} (hx : opO K x = some (.slice none 0 0)) : Pu P (.call { callee := .builtin .unsafeSliceData, args := #[x], argTypes := t }) ty K H (.v (.pointer none)) :=
  ⟨fun ρ w F hk _ hH => by
    refine EOp.of_run (v := .pointer none) (w' := w) ?_ ⟨rfl, rfl⟩
    have e1 := hk.opO hx
    simp [execOp, mkOper, resolve, invoke, builtin, e1, Lib.run_unsafeSliceData_nil]⟩
theorem p_unsafeString_nil {x y : Operand} {t1 t2 : TypeId} {n : Int} (hx : opD K x = some (.v (.pointer none))) (hy : opD K y = some (.v (.int .i64 n))) (hn : n = 0) : Pu P (.call { callee := .builtin .unsafeString, args := #[x, y], argTypes := #[t1, t2] }) ty K H (.s ByteArray.empty) :=
  ⟨fun ρ w F hk _ hH => by
    subst hn
    refine EOp.of_run (v := .string .empty) (w' := w) ?_ ⟨rfl, rfl, by decide⟩
    have e1 : ev ρ x = _ := hk.op hx
    have e2 : ev ρ y = _ := hk.op hy
    simp [execOp, mkOper, resolve, invoke, builtin, e1, e2, Lib.run_unsafeString_none]⟩
theorem ef_unsafeString {x y : Operand} {t1 t2 i : Nat} {v : Value} {T : TypeId} {bs : List UInt8} {n : Int} (hx : opD K x = some (.v (.pointer (some ⟨bl v, 0, none⟩)))) (hy : opD K y = some (.v (.int .i64 n))) (hn : n = (bs.length : Int)) (hm : nth H i = some (.sl v 1 T (bs.map dU8))) (h0 : bs ≠ [])
    (hp : P.underlying t1 = some (.pointer T)) (hc : P.cellsOf T = 1) : Ef P (.call { callee := .builtin .unsafeString, args := #[x, y], argTypes := #[t1, t2] }) ty K H (fun d H' => d = .s ⟨bs.toArray⟩ ∧ H' = H.take i ++ H.drop (i + 1)) :=
  ⟨fun C ρ w F hk gd => by
    obtain ⟨us, hus, hown⟩ := gd.h.ok _ (nth_mem hm)
    have hul := hus.len
    rw [List.length_map] at hul
    have hpos : 0 < bs.length := List.length_pos_iff.2 h0
    obtain ⟨cap, r, e, _, hB, hc1, hc2, hc3⟩ := hown.form (by omega)
    have hmx : bs.length ≤ 9223372036854775807 := by unfold maxLen at hc2; omega
    have hsh : w.shape? (bl v) = some (T, cap) := by
      unfold Box at hB
      simp only [World.shape?, hB]
      simp only [List.size_toArray, hc3, Nat.mul_one]
    have hcell : ∀ j x, bs[j]? = some x → w.cell? ⟨bl v, j, none⟩ = some (.int .u8 x.toNat) := by
      intro j b hj
      obtain ⟨u, h1, h2, _⟩ := hus.get (k := j) (x := dU8 b) (by rw [List.getElem?_map, hj]; rfl)
      have := hown.sl.at_ h1
      have hof : of_ v = 0 := by rw [e]; rfl
      rw [hof, Nat.zero_add, Nat.mul_one] at this
      have hu : u = .int .u8 (b.toNat : Int) := h2
      subst hu
      exact this.2 0 _ rfl
    have hrun := Lib.run_unsafeString_row (P := P) (w := w) t1 t2 ty T hp hc (bl v) cap hsh bs h0 (by omega) hmx
    subst hn
    have e1 : ev ρ x = _ := hk.op hx
    have e2 : ev ρ y = _ := hk.op hy
    have hf : ∀ k, k ≠ bl v → (w.freeze ⟨bl v, 0, none⟩ bs.length).heap[k]? = w.heap[k]? := by
      intro k hk'
      unfold World.freeze
      split
      · rfl
      · simp only [Array.getElem?_modify]; rw [if_neg (fun h => hk' h.symm)]
    have hsz : (w.freeze ⟨bl v, 0, none⟩ bs.length).heap.size = w.heap.size := by
      unfold World.freeze; split <;> simp
    have hos : (w.freeze ⟨bl v, 0, none⟩ bs.length).os = w.os ∧ (w.freeze ⟨bl v, 0, none⟩ bs.length).tape = w.tape ∧ (w.freeze ⟨bl v, 0, none⟩ bs.length).output = w.output := by
      unfold World.freeze; split <;> exact ⟨rfl, rfl, rfl⟩
    have := gd.lose (w' := w.freeze ⟨bl v, 0, none⟩ bs.length) hm (fun b hb hn => hf b (fun e' => hn (by subst e'; show v.ownBlock = _; rw [e]; rfl))) (Nat.le_of_eq hsz.symm) hos.1 hos.2.1 hos.2.2
    refine EOp.of_run (v := .string ⟨bs.toArray⟩) (w' := w.freeze ⟨bl v, 0, none⟩ bs.length) ?_ ⟨F, _, _, ⟨rfl, rfl⟩, ⟨rfl, ?_⟩, this.1, this.2⟩
    · have := hrun (fun j x hj => by rw [show (⟨bl v, 0, none⟩ : Addr).add j = ⟨bl v, j, none⟩ by cases j <;> simp [Addr.add]]; exact hcell j x hj)
      simp [execOp, mkOper, resolve, invoke, builtin, e1, e2, this]
    · show bs.toArray.size ≤ maxLen
      unfold maxLen; simp; omega⟩
/-! ### a range over a text -/
theorem ef_range {x : Operand} {t : TypeId} {s : ByteArray} (hx : opS K x = some s) (ht : ∀ w, (underlying t).run P w = .ok .string w) : Ef P (.range t x) ty K H (fun d H' => ∃ g, d = .v (.pointer (some ⟨g, 0, none⟩)) ∧ H' = .it g s 0 :: H) :=
  ⟨fun C ρ w F hk gd => by
    have e := hk.opS hx
    refine EOp.of_run (v := .pointer (some ⟨w.heap.size, 0, none⟩)) (w' := w.alloc (.stringIter s 0)) (by simp [execOp, mkOper, e, Instr.range, ht]) ?_
    have E := Ext.alloc w (.stringIter s 0)
    have g' := gd.ext E
    refine ⟨F, _, _, ⟨w.heap.size, rfl, rfl⟩, rfl, g'.more (heap_alloc_new w _) (fun b hb => ?_), Keep.ext E⟩
    cases hb
    exact ⟨gd.size, fun hF => by have := gd.flt _ hF; omega, fun hB => by have := blks_lt gd.h hB; omega⟩⟩
def decR (s : ByteArray) (p : Nat) : Nat := (Utf8.decode s p).1
def decW (s : ByteArray) (p : Nat) : Nat := (Utf8.decode s p).2
theorem ef_next_t {x : Operand} {s : ByteArray} {g p i : Nat} (hx : opD K x = some (.v (.pointer (some ⟨g, 0, none⟩)))) (hm : nth H i = some (.it g s p)) (hp : p < s.size) :
    Ef P (.next x true) ty K H (fun d H' => d = .tup [.v (.bool true), .v (.int .i64 (p : Int)), .v (.int .i32 (decR s p : Int))] ∧ H' = H.set i (.it g s (p + decW s p))) :=
  ⟨fun C ρ w F hk gd => by
    have e : ev ρ x = _ := hk.op hx
    have hb : w.heap[g]? = some (.stringIter s p) := gd.h.ok _ (nth_mem hm)
    have hlt := (Array.getElem?_eq_some_iff.1 hb).1
    refine EOp.of_run (v := .tuple #[.bool true, .int .i64 (p : Int), .int .i32 (decR s p : Int)]) (w' := { w with heap := w.heap.setIfInBounds g (.stringIter s (p + decW s p)) }) ?_ ?_
    · simp [execOp, mkOper, e, Instr.next, getObj, setObj, Sem.run, hb, hp, decR, decW, goInt]
    have := gd.turn (h' := .it g s (p + decW s p)) (w' := { w with heap := w.heap.setIfInBounds g (.stringIter s (p + decW s p)) }) hm (fun b _ hn => by
        have : ¬ g = b := hn
        simp only [Array.getElem?_setIfInBounds]; rw [if_neg this]) (by simp) rfl rfl rfl (fun b hb => .inl hb) (fun _ => by
        show _ = _
        simp only [Array.getElem?_setIfInBounds, if_true, hlt])
    exact ⟨F, _, _, ⟨rfl, rfl⟩, ⟨_, rfl, _, _, rfl, rfl, _, _, rfl, rfl, _, _, rfl, rfl, rfl⟩, this.1, this.2⟩⟩
theorem p_next_f {x : Operand} {s : ByteArray} {g p i : Nat} (hx : opD K x = some (.v (.pointer (some ⟨g, 0, none⟩)))) (hm : nth H i = some (.it g s p)) (hp : s.size ≤ p) : Pu P (.next x true) ty K H (.tup [.v (.bool false)]) :=
  ⟨fun ρ w F hk _ hH => by
    have e : ev ρ x = _ := hk.op hx
    have hb : w.heap[g]? = some (.stringIter s p) := hH _ (nth_mem hm)
    refine EOp.of_run (v := .tuple #[.bool false]) (w' := w) ?_ ⟨rfl, _, rfl, _, _, rfl, rfl, rfl⟩
    simp [execOp, mkOper, e, Instr.next, getObj, Sem.run, hb, show ¬ p < s.size by omega]⟩
theorem decW_pos (s : ByteArray) (p : Nat) : 1 ≤ decW s p := by
  unfold decW Utf8.decode
  simp only
  (repeat' split) <;> simp
theorem cont_lt {s : ByteArray} {p k : Nat} {b : Bool} (h : (decide (p + k < s.size) && b) = true) : p + k < s.size := by simp at h; exact h.1
theorem decW_le (s : ByteArray) (p : Nat) (h : p < s.size) : p + decW s p ≤ s.size := by
  unfold decW Utf8.decode
  simp only [Bool.and_eq_true, decide_eq_true_eq]
  (repeat' split) <;> simp <;> omega
/-- the runes of a text, from a place on -/
def runesAt (s : ByteArray) (p : Nat) : List Int := if h : p < s.size then (decR s p : Int) :: runesAt s (p + decW s p) else []
termination_by s.size - p
decreasing_by have := decW_pos s p; omega
theorem runesAt_lt {s : ByteArray} {p : Nat} (h : p < s.size) : runesAt s p = (decR s p : Int) :: runesAt s (p + decW s p) := by
  conv => lhs; unfold runesAt
  rw [dif_pos h]
theorem runesAt_ge {s : ByteArray} {p : Nat} (h : s.size ≤ p) : runesAt s p = [] := by
  unfold runesAt; rw [dif_neg (by omega)]
def runes (s : ByteArray) : List Int := runesAt s 0
theorem runesAt_len (s : ByteArray) : ∀ (n p : Nat), s.size - p = n → (runesAt s p).length ≤ s.size - p := by
  intro n
  induction n using Nat.strongRecOn with
  | _ n ih =>
    intro p hp
    rcases Nat.lt_or_ge p s.size with h | h
    · have h1 := decW_pos s p
      rw [runesAt_lt h, List.length_cons]
      have := ih (s.size - (p + decW s p)) (by omega) _ rfl
      omega
    · rw [runesAt_ge h]; simp
theorem decR_lt (s : ByteArray) (p : Nat) : decR s p < 1114112 := by
  unfold decR Utf8.decode
  simp only [Bool.and_eq_true, decide_eq_true_eq]
  have hv : ∀ c, Utf8.valid c = true → c < 1114112 := by
    intro c; unfold Utf8.valid; simp; intros; omega
  (repeat' split)
  all_goals first
    | (simp only [Utf8.runeError]; omega)
    | (simp only; omega)
    | (rename_i h; have := hv _ h.2; simp only; omega)
end
end Lp
