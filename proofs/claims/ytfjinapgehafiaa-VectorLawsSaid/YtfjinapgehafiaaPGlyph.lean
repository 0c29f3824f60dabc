/-
  BYTES: rows of bytes, texts appended to them; a strings.Builder.
-/
import Derived.Lib.AppendStr
import Derived.Lib.UnsafeStr
import Derived.Test.YtfjinapgehafiaaV1
set_option linter.unusedVariables false
namespace Lp
open Go Go.RowKit
open Go.Lib (strCells strCells_eq byteCells byteCells_length run_append_own_string)

abbrev dU8 (b : UInt8) : D := .v (.int .u8 (b.toNat : Int))
theorem zch {n : Int} {m : Nat} (h : n = (m : Int)) (hm : m < 256) : D.v (.int .u8 n) = dU8 (UInt8.ofNat m) := by
  have : (UInt8.ofNat m).toNat = m := by simp [UInt8.toNat_ofNat']; omega
  unfold dU8; rw [this, h]

theorem newRow_at {P : Program} {E : TypeId} {c : Array Value} {a : Addr} {w w1 : World} (h : (newRow E c).run P w = .ok a w1) : a = ⟨w.heap.size, 0, none⟩ := by
  simp [newRow] at h
  exact h.1.symm
theorem append_moved_s {P : Program} {w w' : World} {t u ty E n cap : Nat} {A : Option Addr} {s : ByteArray} {v' : Value} {i : TypeInfo} (ht : P.underlying t = some (.slice E)) (hu : P.underlying u = some .string) (hi : P.info? E = some i) (hn : cap < n + s.size) (hm : n + s.size ≤ maxLen)
    (h : (Builtin.append_ #[t, u] ty #[.slice A n cap, .string s]).run P w = .ok v' w') : Ext w w' ∧ v'.ownBlock = some w.heap.size := by
  simp [Builtin.append_, run_underlying ht, run_underlying hu, Go.sizeOf, typeInfo, hi, Builtin.lenOf, show ¬ n + s.size ≤ cap by omega] at h
  have fin : ∀ {W : World} {k : Nat} {f : Addr → World → Result Value}, Ext w W → W.heap.size = w.heap.size → (∀ a w1 v w2, f a w1 = .ok v w2 → w2 = w1 ∧ v.ownBlock = some a.block) → ((Sem.run P (Builtin.firstCells i.size n (Value.slice A n cap)) W).andThen fun a w' =>
                (Sem.run P (Builtin.firstCells i.size s.size (.string s)) w').andThen fun a_1 w' =>
                  (Sem.run P (zeroValue E) w').andThen fun a_2 w' =>
                    (Sem.run P (newRow E (a ++ (a_1 ++ Builtin.zeroCells a_2.cells k))) w').andThen f) = .ok v' w' → Ext w w' ∧ v'.ownBlock = some w.heap.size := by
    intro W k f hE hsz hf h
    obtain ⟨a, w1, h1, h⟩ := zcv h
    obtain ⟨a1, w2, h2, h⟩ := zcv h
    obtain ⟨a2, w3, h3, h⟩ := zcv h
    obtain ⟨a3, w4, h4, h⟩ := zcv h
    have e1 := firstCells_same h1
    have e2 : w2 = w1 := by simp [Builtin.firstCells] at h2; exact h2.2.symm
    have e3 := zero_same h3
    have e4 := newRow_ext h4
    have e5 := newRow_at h4
    have e6 := hf _ _ _ _ h
    subst e1; subst e2; subst e3
    rw [e6.1]
    exact ⟨hE.trans e4, by rw [e6.2, e5, hsz]⟩
  have hcond : ¬ (9223372036854775807 < (n : Int) + (s.size : Int) ∧ i.bytes = 0) := by
    rintro ⟨h1, _⟩; unfold maxLen at hm; omega
  rw [if_neg hcond] at h
  split at h
  · obtain ⟨_, _, h, _⟩ := zcv h; obtain ⟨_, _, _, h⟩ := zcv h; cases h
  · split at h
    · refine fin (W := w) (k := 0) (f := fun a w' => Result.ok (.slice (some a) (n + s.size) 0) w') Ext.rfl' rfl (fun _ _ _ _ h => by cases h; exact ⟨rfl, rfl⟩) ?_
      simpa [Builtin.firstCells] using h
    · refine fin (W := w.drew) (k := (Question.appendCap (n + s.size) cap E).cut (w.tape w.drawn (Question.appendCap (n + s.size) cap E)) - (n + s.size)) (f := fun a w' => Result.ok (.slice (some a) (n + s.size) ((Question.appendCap (n + s.size) cap E).cut (w.tape w.drawn (Question.appendCap (n + s.size) cap E)))) w') (Ext.drew w) rfl (fun _ _ _ _ h => by cases h; exact ⟨rfl, rfl⟩) ?_
      simpa [Builtin.firstCells] using h
theorem append_inplace_s {P : Program} {w w' : World} {t u ty E n cap : Nat} {A : Option Addr} {s : ByteArray} {v' : Value} {i : TypeInfo} (ht : P.underlying t = some (.slice E)) (hu : P.underlying u = some .string) (hi : P.info? E = some i) (hn : n + s.size ≤ cap)
    (h : (Builtin.append_ #[t, u] ty #[.slice A n cap, .string s]).run P w = .ok v' w') : v' = .slice A (n + s.size) cap := by
  simp [Builtin.append_, run_underlying ht, run_underlying hu, Go.sizeOf, typeInfo, hi, Builtin.lenOf, hn] at h
  obtain ⟨a, w1, h1, h⟩ := zcv h
  cases A with
  | none => simp at h; exact h.1.symm
  | some ad =>
    simp at h
    obtain ⟨_, _, _, h⟩ := zcv h
    cases h; rfl

theorem strCells_get {s : ByteArray} : ∀ u ∈ strCells s, u.oneCell' = true := by
  intro u hu
  rw [strCells_eq] at hu
  simp only [byteCells, List.mem_map] at hu
  obtain ⟨b, _, rfl⟩ := hu
  rfl
theorem flat_one : ∀ {us : List Value}, (∀ u ∈ us, u.oneCell' = true) → us.flatMap vcs = us
  | [], _ => rfl
  | u :: r, h => by rw [List.flatMap_cons, vcs_one (h u List.mem_cons_self), flat_one (fun x hx => h x (List.mem_cons_of_mem _ hx))]; rfl
theorem repE_bytes {w : World} {F : Nat → Prop} : ∀ l : List UInt8, RepE w F 1 (l.map dU8) (byteCells l)
  | [] => rfl
  | b :: r => ⟨_, _, rfl, rfl, One.one rfl, rfl, repE_bytes r⟩

section
variable {P : Program} {ty : TypeId} {K : Kd} {H : List Hp}
theorem ef_append_s {t u : TypeId} {x y : Operand} {i : Nat} {v : Value} {T : TypeId} {bs : List UInt8} {s : ByteArray} (hx : opO K x = some v) (hm : nth H i = some (.sl v 1 T (bs.map dU8))) (hy : opS K y = some s) (ht : P.underlying t = some (.slice T)) (hu : P.underlying u = some .string)
    (hi' : ∃ i, P.info? T = some i ∧ i.zero = some (.int .u8 0) ∧ i.size = 1 ∧ i.bytes = 1) (hlen : bs.length + s.size ≤ 140737488355328) :
    Ef P (.call { callee := .builtin .append, args := #[x, y], argTypes := #[t, u] }) ty K H (fun d H' => ∃ v', d = .ov v' ∧ H' = H.set i (.sl v' 1 T ((bs ++ s.data.toList).map dU8))) :=
  ⟨fun C ρ w F hk gd => by
    obtain ⟨us, hus, hown⟩ := gd.h.ok _ (zaf hm)
    have hul := hus.len
    rw [List.length_map] at hul
    obtain ⟨i, q1, q2, q3, q4⟩ := hi'
    have hmx : us.length + s.size ≤ maxLen := by unfold maxLen; omega
    obtain ⟨v', w', r1, r2, r3, _⟩ := run_append_own_string (P := P) (w := w) 0 t u ty T i ht hu q1 q2 q3 q4 v us.length _ hown.1 s hmx (by omega) (Nat.zero_le _)
    refine EOp.of_run (v := v') (w' := w') (by
      have e1 := hk.opO hx
      have e2 := hk.opS hy
      simp [execOp, zas, resolve, invoke, builtin, e1, e2, r1]) ?_
    obtain ⟨A, cp, ev, _⟩ := hown.sl.capOk
    have hblk : v'.ownBlock = v.ownBlock ∨ v'.ownBlock = some w.heap.size := by
      rw [ev] at r1
      by_cases hin : us.length + s.size ≤ cp
      · left; rw [append_inplace_s ht hu q1 hin r1, ev]; cases A <;> rfl
      · right; exact (append_moved_s ht hu q1 (by omega) hmx r1).2
    have hone : ∀ x ∈ strCells s, (vcs x).length = 1 := fun x hx => by rw [vcs_one (strCells_get x hx)]; rfl
    have hsz : (strCells s).length = s.size := by rw [strCells_eq, byteCells_length]; simp
    have how : Own vcs 1 T w' 0 v' (us ++ strCells s) := by
      refine ⟨?_, fun x hx => ?_⟩
      · rw [List.length_append, hsz, List.flatMap_append, flat_one strCells_get]; exact r2
      · rcases List.mem_append.1 hx with hx | hx
        · exact hown.2 x hx
        · exact hone x hx
    have := gd.turn (h' := .sl v' 1 T ((bs ++ s.data.toList).map dU8)) hm (fun c hc hn => r3.block c hc (fun e => hn e.symm)) r3.size r3.os r3.tape r3.output (fun c e => by
      rcases hblk with h3 | h3
      · exact .inl (by show v.ownBlock = _; rw [← h3]; exact e)
      · have e' : v'.ownBlock = some c := e
        rw [h3] at e'; cases e'; exact .inr (Nat.le_refl _)) (fun kp => ⟨us ++ strCells s, by rw [List.map_append, strCells_eq]; exact (hus.keep kp).app (repE_bytes _), how⟩)
    exact ⟨F, .ov v', _, ⟨v', rfl, rfl⟩, ⟨rfl, how.one⟩, this.1, this.2⟩⟩
/-- What one entry owned is let go, however it has turned. -/
theorem Good.lose {C : Ctx} {H : List Hp} {w w' : World} {F : Nat → Prop} {i : Nat} {h : Hp} (g : Good C H w F) (hi : nth H i = some h)
    (hupd : ∀ b, b < w.heap.size → ¬ h.blk b → w'.heap[b]? = w.heap[b]?) (hsz : w.heap.size ≤ w'.heap.size) (hos : w'.os = w.os) (htp : w'.tape = w.tape) (hout : w'.output = w.output) : Good C (H.take i ++ H.drop (i + 1)) w' F ∧ Keep w F w' F := by
  have hmem := zaf hi
  have hp := (zO hi)
  have gp := (HSub.perm hp).out _ _ _ g
  have hap := List.pairwise_cons.1 gp.h.apart
  have hk : Keep w F w' F := ⟨fun _ h => h, fun b hF hlt => hupd b hlt (fun e => (g.h.mine b ⟨h, hmem, e⟩).2 hF)⟩
  refine ⟨⟨Nat.le_trans g.size hsz, hos.trans g.os, htp.trans g.tape, hout.trans g.output, fun b hb1 hn => ?_, g.fsub, g.fnew, fun b hF => Nat.lt_of_lt_of_le (g.flt b hF) hsz, hap.2, fun x hx => ?_, fun b ⟨x, hx, e⟩ => gp.h.mine b ⟨x, List.mem_cons_of_mem _ hx, e⟩⟩, hk⟩
  · rw [hupd b (Nat.lt_of_lt_of_le hb1 g.size) (fun e => ?_)]
    · exact g.frame b hb1 hn
    · rcases (g.h.mine b ⟨h, hmem, e⟩).1 with h1 | h1
      · omega
      · exact hn h1
  · have hox := gp.h.ok x (List.mem_cons_of_mem _ hx)
    exact Hp.keep hox hk (fun b hb1 => hupd b (Hp.lt hox hb1) (fun e => hap.1 x hx b e hb1))

theorem p_sliceData {x : Operand} {t : Array TypeId} {i z : Nat} {v : Value} {T : TypeId} {xs : List D} (hx : opO K x = some v) (hm : nth H i = some (.sl v z T xs)) (hn : 0 < xs.length) : Pu P (.call { callee := .builtin .unsafeSliceData, args := #[x], argTypes := t }) ty K H (.v (.pointer (some ⟨bl v, 0, none⟩))) :=
  ⟨fun ρ w F hk _ hH => by
    obtain ⟨us, hus, hown⟩ := hH _ (zaf hm)
    have hul := hus.len
    obtain ⟨cap, r, e, _, _, hc, _⟩ := hown.form (by omega)
    refine EOp.of_run (v := .pointer (some ⟨bl v, 0, none⟩)) (w' := w) ?_ ⟨rfl, rfl⟩
    have e1 := hk.opO hx
    rw [e] at e1
    have hr := Lib.run_unsafeSliceData_row (P := P) (w := w) t ty ⟨bl v, 0, none⟩ us.length cap (by omega)
    simp [execOp, zas, resolve, invoke, builtin, e1, hr]⟩
theorem ef_unsafeString {x y : Operand} {t1 t2 i : Nat} {v : Value} {T : TypeId} {bs : List UInt8} {n : Int} (hx : opD K x = some (.v (.pointer (some ⟨bl v, 0, none⟩)))) (hy : opD K y = some (.v (.int .i64 n))) (hn : n = (bs.length : Int)) (hm : nth H i = some (.sl v 1 T (bs.map dU8))) (h0 : bs ≠ [])
    (hp : P.underlying t1 = some (.pointer T)) (hc : P.cellsOf T = 1) : Ef P (.call { callee := .builtin .unsafeString, args := #[x, y], argTypes := #[t1, t2] }) ty K H (fun d H' => d = .s ⟨bs.toArray⟩ ∧ H' = H.take i ++ H.drop (i + 1)) :=
  ⟨fun C ρ w F hk gd => by
    obtain ⟨us, hus, hown⟩ := gd.h.ok _ (zaf hm)
    have hul := hus.len
    rw [List.length_map] at hul
    have hpos : 0 < bs.length := List.length_pos_iff.2 h0
    obtain ⟨cap, r, e, _, hB, hc1, hc2, hc3⟩ := hown.form (by omega)
    have hmx : bs.length ≤ 9223372036854775807 := by unfold maxLen at hc2; omega
    have hsh : w.shape? (bl v) = some (T, cap) := by
      unfold Box at hB
      simp only [World.shape?, hB]
      simp only [List.size_toArray, hc3, Nat.mul_one]
    have hcell : ∀ j x, bs[j]? = some x → w.cell? ⟨bl v, j, none⟩ = some (.int .u8 x.toNat) := by
      intro j b hj
      obtain ⟨u, h1, h2, _⟩ := hus.get (k := j) (x := dU8 b) (by rw [List.getElem?_map, hj]; rfl)
      have := hown.sl.at_ h1
      have hof : of_ v = 0 := by rw [e]; rfl
      rw [hof, Nat.zero_add, Nat.mul_one] at this
      have hu : u = .int .u8 (b.toNat : Int) := h2
      subst hu
      exact this.2 0 _ rfl
    have hrun := Lib.run_unsafeString_row (P := P) (w := w) t1 t2 ty T hp hc (bl v) cap hsh bs h0 (by omega) hmx
    subst hn
    have e1 : ev ρ x = _ := hk.op hx
    have e2 : ev ρ y = _ := hk.op hy
    have hf : ∀ k, k ≠ bl v → (w.freeze ⟨bl v, 0, none⟩ bs.length).heap[k]? = w.heap[k]? := by
      intro k hk'
      unfold World.freeze
      split
      · rfl
      · simp only [Array.getElem?_modify]; rw [if_neg (fun h => hk' h.symm)]
    have hsz : (w.freeze ⟨bl v, 0, none⟩ bs.length).heap.size = w.heap.size := by
      unfold World.freeze; split <;> simp
    have hos : (w.freeze ⟨bl v, 0, none⟩ bs.length).os = w.os ∧ (w.freeze ⟨bl v, 0, none⟩ bs.length).tape = w.tape ∧ (w.freeze ⟨bl v, 0, none⟩ bs.length).output = w.output := by
      unfold World.freeze; split <;> exact ⟨rfl, rfl, rfl⟩
    have := gd.lose (w' := w.freeze ⟨bl v, 0, none⟩ bs.length) hm (fun b hb hn => hf b (fun e' => hn (by subst e'; show v.ownBlock = _; rw [e]; rfl))) (Nat.le_of_eq hsz.symm) hos.1 hos.2.1 hos.2.2
    refine EOp.of_run (v := .string ⟨bs.toArray⟩) (w' := w.freeze ⟨bl v, 0, none⟩ bs.length) ?_ ⟨F, _, _, ⟨rfl, rfl⟩, ⟨rfl, ?_⟩, this.1, this.2⟩
    · have := hrun (fun j x hj => by rw [show (⟨bl v, 0, none⟩ : Addr).add j = ⟨bl v, j, none⟩ by cases j <;> simp [Addr.add]]; exact hcell j x hj)
      simp [execOp, zas, resolve, invoke, builtin, e1, e2, this]
    · show bs.toArray.size ≤ maxLen
      unfold maxLen; simp; omega⟩
/-! ### a range over a text -/
theorem ef_range {x : Operand} {t : TypeId} {s : ByteArray} (hx : opS K x = some s) (ht : ∀ w, (underlying t).run P w = .ok .string w) : Ef P (.range t x) ty K H (fun d H' => ∃ g, d = .v (.pointer (some ⟨g, 0, none⟩)) ∧ H' = .it g s 0 :: H) :=
  ⟨fun C ρ w F hk gd => by
    have e := hk.opS hx
    refine EOp.of_run (v := .pointer (some ⟨w.heap.size, 0, none⟩)) (w' := w.alloc (.stringIter s 0)) (by simp [execOp, zas, e, Instr.range, ht]) ?_
    have E := Ext.alloc w (.stringIter s 0)
    have g' := gd.ext E
    refine ⟨F, _, _, ⟨w.heap.size, rfl, rfl⟩, rfl, g'.more (heap_alloc_new w _) (fun b hb => ?_), Keep.ext E⟩
    cases hb
    exact ⟨gd.size, fun hF => by have := gd.flt _ hF; omega, fun hB => by have := zdE gd.h hB; omega⟩⟩
def decR (s : ByteArray) (p : Nat) : Nat := (Utf8.decode s p).1
def decW (s : ByteArray) (p : Nat) : Nat := (Utf8.decode s p).2
theorem ef_next_t {x : Operand} {s : ByteArray} {g p i : Nat} (hx : opD K x = some (.v (.pointer (some ⟨g, 0, none⟩)))) (hm : nth H i = some (.it g s p)) (hp : p < s.size) :
    Ef P (.next x true) ty K H (fun d H' => d = .tup [.v (.bool true), .v (.int .i64 (p : Int)), .v (.int .i32 (decR s p : Int))] ∧ H' = H.set i (.it g s (p + decW s p))) :=
  ⟨fun C ρ w F hk gd => by
    have e : ev ρ x = _ := hk.op hx
    have hb : w.heap[g]? = some (.stringIter s p) := gd.h.ok _ (zaf hm)
    have hlt := (Array.getElem?_eq_some_iff.1 hb).1
    refine EOp.of_run (v := .tuple #[.bool true, .int .i64 (p : Int), .int .i32 (decR s p : Int)]) (w' := { w with heap := w.heap.setIfInBounds g (.stringIter s (p + decW s p)) }) ?_ ?_
    · simp [execOp, zas, e, Instr.next, getObj, setObj, Sem.run, hb, hp, decR, decW, goInt]
    have := gd.turn (h' := .it g s (p + decW s p)) (w' := { w with heap := w.heap.setIfInBounds g (.stringIter s (p + decW s p)) }) hm (fun b _ hn => by
        have : ¬ g = b := hn
        simp only [Array.getElem?_setIfInBounds]; rw [if_neg this]) (by simp) rfl rfl rfl (fun b hb => .inl hb) (fun _ => by
        show _ = _
        simp only [Array.getElem?_setIfInBounds, if_true, hlt])
    exact ⟨F, _, _, ⟨rfl, rfl⟩, ⟨_, rfl, _, _, rfl, rfl, _, _, rfl, rfl, _, _, rfl, rfl, rfl⟩, this.1, this.2⟩⟩
theorem p_next_f {x : Operand} {s : ByteArray} {g p i : Nat} (hx : opD K x = some (.v (.pointer (some ⟨g, 0, none⟩)))) (hm : nth H i = some (.it g s p)) (hp : s.size ≤ p) : Pu P (.next x true) ty K H (.tup [.v (.bool false)]) :=
  ⟨fun ρ w F hk _ hH => by
    have e : ev ρ x = _ := hk.op hx
    have hb : w.heap[g]? = some (.stringIter s p) := hH _ (zaf hm)
    refine EOp.of_run (v := .tuple #[.bool false]) (w' := w) ?_ ⟨rfl, _, rfl, _, _, rfl, rfl, rfl⟩
    simp [execOp, zas, e, Instr.next, getObj, Sem.run, hb, show ¬ p < s.size by omega]⟩
theorem zaw (s : ByteArray) (p : Nat) : 1 ≤ decW s p := by
  unfold decW Utf8.decode
  simp only
  (repeat' split) <;> simp
theorem zbs (s : ByteArray) (p : Nat) (h : p < s.size) : p + decW s p ≤ s.size := by
  unfold decW Utf8.decode
  simp only [Bool.and_eq_true, decide_eq_true_eq]
  (repeat' split) <;> simp <;> omega
/-- the zaK of a text, from a place on -/
def zbz (s : ByteArray) (p : Nat) : List Int := if h : p < s.size then (decR s p : Int) :: zbz s (p + decW s p) else []
termination_by s.size - p
decreasing_by have := zaw s p; omega
theorem zb9 {s : ByteArray} {p : Nat} (h : p < s.size) : zbz s p = (decR s p : Int) :: zbz s (p + decW s p) := by
  conv => lhs; unfold zbz
  rw [dif_pos h]
theorem zcD {s : ByteArray} {p : Nat} (h : s.size ≤ p) : zbz s p = [] := by
  unfold zbz; rw [dif_neg (by omega)]
def zaK (s : ByteArray) : List Int := zbz s 0
theorem zdO (s : ByteArray) (p : Nat) : decR s p < 1114112 := by
  unfold decR Utf8.decode
  simp only [Bool.and_eq_true, decide_eq_true_eq]
  have hv : ∀ c, Utf8.valid c = true → c < 1114112 := by
    intro c; unfold Utf8.valid; simp; intros; omega
  (repeat' split)
  all_goals first
    | (simp only [Utf8.runeError]; omega)
    | (simp only; omega)
    | (rename_i h; have := hv _ h.2; simp only; omega)
end
end Lp
/-
  Merging lists of rows, as plain data: which list's head comes first; what a merge is; the tree of a tournament.
-/
set_option linter.unusedVariables false
namespace Lp
open Go

def hd (ll : LLs) (k : Nat) : Option RowD := (ll[k]?).bind List.head?
/-! ### less is an order -/
theorem or2_neg {a b : Int} : or2 (-a) (-b) = - or2 a b := by unfold or2; split <;> split <;> omega
theorem cmpI_neg (a b : Int) : cmpI b a = - cmpI a b := by unfold cmpI; split <;> split <;> (try split) <;> omega
theorem cmpLbl_neg (a b : Lbl) : zG b a = - zG a b := by unfold zG; rw [zdw a.n, zdw a.v, or2_neg]
theorem cmpLs_neg : ∀ a b : List Lbl, z2 b a = - z2 a b
  | [], [] => rfl
  | [], _ :: _ => rfl
  | _ :: _, [] => rfl
  | a :: r, b :: s => by
    unfold z2
    rw [cmpLbl_neg a b, cmpLs_neg r s]
    split <;> split <;> omega
theorem cmpRow_neg (o : Int) (a b : RowD) : zH o b a = - zH o a b := by
  unfold zH
  rw [cmpLs_neg a.ls b.ls]
  split
  · rw [cmpI_neg a.v b.v, or2_neg]
  · split
    · rw [cmpI_neg b.v a.v, or2_neg]
    · rfl
/-- Three that are compared: a sign is handed on. -/
structure Tr (c : Int) (d : Int) (e : Int) : Prop where
  le : c ≤ 0 → d ≤ 0 → e ≤ 0
  lt1 : c < 0 → d ≤ 0 → e < 0
  lt2 : c ≤ 0 → d < 0 → e < 0
  e1 : c = 0 → e = d
  e2 : d = 0 → e = c
theorem cmpS_tr (a b c : ByteArray) : Tr (cmpS a b) (cmpS b c) (cmpS a c) := by
  have n1 := zdw a b
  have n2 := zdw b c
  have t := cmpS_trans a b c
  refine ⟨t, fun h1 h2 => ?_, fun h1 h2 => ?_, fun h => ?_, fun h => ?_⟩
  · have := t (by omega) h2
    rcases Int.lt_or_eq_of_le this with h | h
    · exact h
    · rw [zb4] at h; subst h; omega
  · have := t h1 (by omega)
    rcases Int.lt_or_eq_of_le this with h | h
    · exact h
    · rw [zb4] at h; subst h; omega
  · rw [zb4] at h; rw [h]
  · rw [zb4] at h; rw [h]
theorem cmpI_tr (a b c : Int) : Tr (cmpI a b) (cmpI b c) (cmpI a c) := by
  unfold cmpI
  refine ⟨?_, ?_, ?_, ?_, ?_⟩ <;> (repeat' split) <;> omega
theorem or2_tr {a b c d e f : Int} (h : Tr a b c) (h' : Tr d e f) : Tr (or2 a d) (or2 b e) (or2 c f) := by
  obtain ⟨h1, h2, h3, h4, h5⟩ := h
  obtain ⟨k1, k2, k3, k4, k5⟩ := h'
  unfold or2
  by_cases ha : a = 0
  · have hc := h4 ha
    subst hc
    rw [if_neg (by omega)]
    by_cases hb : c = 0
    · rw [if_neg (by omega), if_neg (by omega)]; exact ⟨k1, k2, k3, k4, k5⟩
    · rw [if_pos hb, if_pos hb]
      exact ⟨fun _ h => h, fun _ h => by omega, fun _ h => h, fun _ => rfl, fun h => by omega⟩
  · by_cases hb : b = 0
    · have hc := h5 hb
      subst hc
      rw [if_pos ha, if_neg (by omega), if_pos ha]
      exact ⟨fun h _ => h, fun h _ => h, fun h _ => by omega, fun h => by omega, fun _ => rfl⟩
    · rw [if_pos ha, if_pos hb]
      have : a ≤ 0 → b ≤ 0 → c < 0 := fun p q => h2 (by omega) q
      refine ⟨fun p q => ?_, fun p q => ?_, fun p q => ?_, fun h => by omega, fun h => by omega⟩
      · rw [if_pos (by have := this p q; omega)]; exact h1 p q
      · have := this (by omega) q; rw [if_pos (by omega)]; exact this
      · have := this p (by omega); rw [if_pos (by omega)]; exact this
theorem cmpLbl_tr (a b c : Lbl) : Tr (zG a b) (zG b c) (zG a c) := or2_tr (cmpS_tr _ _ _) (cmpS_tr _ _ _)
theorem Tr.zero : Tr 0 0 0 := ⟨fun h _ => h, fun h _ => h, fun _ h => h, fun _ => rfl, fun _ => rfl⟩
theorem zdx : ∀ a b c : List Lbl, Tr (z2 a b) (z2 b c) (z2 a c)
  | [], [], [] => Tr.zero
  | [], [], _ :: _ => by constructor <;> (intros; simp_all [z2])
  | [], _ :: _, [] => by constructor <;> (intros; simp_all [z2])
  | _ :: _, [], [] => by constructor <;> (intros; simp_all [z2])
  | [], _ :: _, _ :: _ => by
    constructor <;> intros <;> simp_all [z2]
  | _ :: _, [], _ :: _ => by constructor <;> (intros; simp_all [z2])
  | _ :: _, _ :: _, [] => by constructor <;> (intros; simp_all [z2])
  | a :: r, b :: s, c :: t => by
    have h := cmpLbl_tr a b c
    have ih := zdx r s t
    have e : ∀ x y : Lbl, ∀ p q : List Lbl, z2 (x :: p) (y :: q) = or2 (zG x y) (z2 p q) := by
      intro x y p q
      conv => lhs; unfold z2
      rfl
    rw [e, e, e]
    exact or2_tr h ih
theorem cmpRow_tr (o : Int) (a b c : RowD) : Tr (zH o a b) (zH o b c) (zH o a c) := by
  unfold zH
  split
  · exact or2_tr (cmpI_tr _ _ _) (zdx _ _ _)
  · split
    · have := cmpI_tr c.v b.v a.v
      refine or2_tr ⟨fun h1 h2 => this.le h2 h1, fun h1 h2 => this.lt2 h2 h1, fun h1 h2 => this.lt1 h2 h1, this.e2, this.e1⟩ (zdx _ _ _)
    · exact zdx _ _ _

end Lp
/-
  Runes and names, as data.
-/
set_option linter.unusedVariables false
namespace Lp
open Go

def zah (r : Int) : Int :=
  if r < 0 ∨ r = 65533 then 0 else if (97 ≤ r ∧ r ≤ 122) ∨ (65 ≤ r ∧ r ≤ 90) ∨ r = 95 ∨ 128 ≤ r then 1 else if 48 ≤ r ∧ r ≤ 57 then 2 else if r = 32 ∨ r = 9 ∨ r = 10 then 3 else 4
abbrev dR (n : Int) : D := .v (.int .i32 n)
def zct : Nat → List Int → Bool
  | n, [] => decide (1 ≤ n) && decide (n ≤ 30)
  | n, r :: rs => if zah r ≠ 1 ∧ (zah r ≠ 2 ∨ n = 0) then false else zct (n + 1) rs
def zb2 (s : ByteArray) : Bool := zct 0 (zaK s)
theorem nameR_bad {n : Nat} {r : Int} {rs : List Int} (h : zah r ≠ 1 ∧ (zah r ≠ 2 ∨ n = 0)) : zct n (r :: rs) = false := by unfold zct; rw [if_pos h]
theorem nameR_next {n : Nat} {r : Int} {rs : List Int} (h : ¬ (zah r ≠ 1 ∧ (zah r ≠ 2 ∨ n = 0))) : zct n (r :: rs) = zct (n + 1) rs := by
  show (if zah r ≠ 1 ∧ (zah r ≠ 2 ∨ n = 0) then false else zct (n + 1) rs) = _
  rw [if_neg h]
/-- all are letters or digits -/
def zcQ (rs : List Int) : Bool := rs.all fun r => decide (zah r = 1 ∨ zah r = 2)
theorem wordR_cons {r : Int} {rs : List Int} : zcQ (r :: rs) = (decide (zah r = 1 ∨ zah r = 2) && zcQ rs) := rfl
theorem nameR_word : ∀ (rs : List Int) (n : Nat), 1 ≤ n → zct n rs = (zcQ rs && decide (n + rs.length ≤ 30))
  | [], n, h => by simp [zct, zcQ, h]
  | r :: rs, n, h => by
    by_cases hr : zah r = 1 ∨ zah r = 2
    · rw [nameR_next (by omega), nameR_word rs (n + 1) (by omega), wordR_cons, decide_eq_true hr, Bool.true_and]
      congr 1; rw [decide_eq_decide, List.length_cons]; omega
    · rw [nameR_bad (by omega), wordR_cons, decide_eq_false hr]; rfl
theorem zbY (rs : List Int) : zct 0 rs = (decide (1 ≤ rs.length) && decide (rs.length ≤ 30) && decide (zah (rs.getD 0 0) = 1) && zcQ rs) := by
  cases rs with
  | nil => simp [zct]
  | cons r rs =>
    by_cases hr : zah r = 1
    · rw [nameR_next (by omega), nameR_word rs 1 (by omega), wordR_cons, decide_eq_true (show zah r = 1 ∨ zah r = 2 from .inl hr), Bool.true_and, Bool.and_comm (zcQ rs)]
      have e1 : decide (zah ((r :: rs).getD 0 0) = 1) = true := decide_eq_true hr
      rw [e1, Bool.and_true]
      congr 1
      rw [Bool.eq_iff_iff]; simp [Nat.add_comm]
    · rw [nameR_bad (by omega)]
      have e1 : decide (zah ((r :: rs).getD 0 0) = 1) = false := decide_eq_false hr
      rw [e1, Bool.and_false]; rfl
theorem wordR_take {rs : List Int} {k : Nat} {x : Int} (hx : rs[k]? = some x) (h : zcQ (rs.take k) = true) (hk : zah x = 1 ∨ zah x = 2) : zcQ (rs.take (k + 1)) = true := by
  unfold zcQ at *; exact zbL hx h (by simpa using hk)
theorem wordR_bad {rs : List Int} {k : Nat} {x : Int} (hx : rs[k]? = some x) (hk : ¬ (zah x = 1 ∨ zah x = 2)) : zcQ rs = false := by
  unfold zcQ; rw [List.all_eq_false]; exact ⟨x, List.mem_of_getElem? hx, by simpa using hk⟩
end Lp
