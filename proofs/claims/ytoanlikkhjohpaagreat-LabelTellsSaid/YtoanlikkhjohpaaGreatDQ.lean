/-
  The tree of a merge, as data; places in lists; the document's own merge.
-/
import Derived.Laws.BytesArg
import Derived.Test.YtoanlikkhjohpaaGreatV34
set_option linter.unusedVariables false
namespace Lp
open Go Go.RowKit

/-- What is left of lists of which so many rows are taken. -/
def rest (ll : LLs) (c : List Nat) : LLs := List.zipWith (fun l n => l.drop n) ll c
end Lp
namespace Lp
end Lp
namespace Lp
open Go
end Lp
/- Walks, printed by a program of mine. -/
set_option linter.unusedSimpArgs false
set_option linter.unusedVariables false
namespace Lp
open Go Go.RowKit Go.Proofs

namespace HdYtoanlikkhjohpaaGreatV24
theorem zay : ∃ i, Tryz.prog.info? 106 = some i ∧ i.zero = some (.agg #[(.string ByteArray.empty), (.string ByteArray.empty)]) ∧ i.size = 2 ∧ i.bytes = 32 := zbc (by kernel_rfl)
theorem zaZ : Tryz.prog.underlying 52 = some (.slice 106) := by kernel_rfl
end HdYtoanlikkhjohpaaGreatV24
open HdYtoanlikkhjohpaaGreatV24

end Lp
/-
  Lists that are kept, marked, grown: plain data.
-/
set_option linter.unusedVariables false
namespace Lp
open Go
/-- marks of the list i, from a place on -/
def mkL {α : Type} (g : Nat → Nat → α) (i f n : Nat) : List α := (List.range' f n).map (g i)
section
variable {α : Type} {g : Nat → Nat → α}
theorem zaL {i f n : Nat} : (mkL g i f n).length = n := by unfold mkL; simp
theorem mkL_app {i f n m : Nat} : mkL g i f n ++ mkL g i (f + n) m = mkL g i f (n + m) := by
  unfold mkL; rw [← List.map_append, List.range'_append_1]
theorem mkL_succ {i f n : Nat} : mkL g i f (n + 1) = mkL g i f n ++ [g i (f + n)] := by rw [← mkL_app]; rfl
theorem mkL_take {i f n m : Nat} (h : n ≤ m) : (mkL g i f m).take n = mkL g i f n := by
  obtain ⟨k, rfl⟩ := Nat.le.dest h
  rw [← mkL_app, List.take_left' zaL]
theorem mkL_more {i n m : Nat} {l l2 : List α} (h : l = mkL g i 0 n) (h2 : l2 = mkL g i n m) : l ++ l2 = mkL g i 0 (n + m) := by
  rw [h, h2]; have := mkL_app (g := g) (i := i) (f := 0) (n := n) (m := m); rwa [Nat.zero_add] at this
/-- what marking leaves -/
def putK (g : Nat → Nat → α) (K : List (Kp α)) : List (Kp α) := K.mapIdx (fun i p => ⟨p.v, mkL g i 0 p.l.length⟩)
theorem putK_len {K : List (Kp α)} : (putK g K).length = K.length := by unfold putK; simp
theorem putK_get {K : List (Kp α)} {i : Nat} {x : Kp α} (h : K[i]? = some x) : (putK g K)[i]? = some ⟨x.v, mkL g i 0 x.l.length⟩ := by unfold putK; rw [List.getElem?_mapIdx, h]; rfl
theorem putK_d {K : List (Kp α)} : (putK g K).map Kp.d = K.map Kp.d := by
  apply List.ext_getElem?; intro i
  unfold putK
  rw [List.getElem?_map, List.getElem?_map, List.getElem?_mapIdx]
  cases K[i]? <;> rfl
theorem putK_marked {K : List (Kp α)} : ∀ i x, (putK g K)[i]? = some x → x.l = mkL g i 0 x.l.length := by
  intro i x h
  unfold putK at h
  rw [List.getElem?_mapIdx] at h
  cases e : K[i]? with
  | none => rw [e] at h; cases h
  | some y => rw [e] at h; injection h with h; subst h; rw [zaL]
theorem putK_light {K : List (Kp α)} {N : Nat} (h : ∀ x ∈ K, x.l.length ≤ N) : ∀ x ∈ putK g K, x.l.length ≤ N := by
  intro x hx
  obtain ⟨i, he⟩ := List.mem_iff_getElem?.1 hx
  unfold putK at he
  rw [List.getElem?_mapIdx] at he
  cases e : K[i]? with
  | none => rw [e] at he; cases he
  | some y => rw [e] at he; injection he with he; subst he; rw [zaL]; exact h _ (List.mem_of_getElem? e)
theorem putK_step {K : List (Kp α)} {i : Nat} {x : Kp α} (h : K[i]? = some x) : (putK g K).take i ++ [⟨x.v, mkL g i 0 x.l.length⟩] = (putK g K).take (i + 1) := (zap (putK_get h)).symm
/-- grown so far -/
structure Grown (g : Nat → Nat → α) (K : List (Kp α)) (G : List (K2 α)) : Prop where
  v0 : G.map K2.d0 = K.map Kp.d
  at_ : ∀ i y, G[i]? = some y → y.l = mkL g i 0 (y.m + 72) ∧ y.m ≤ 1000000
theorem Grown.nil : Grown g [] [] := ⟨rfl, fun i y h => by simp at h⟩
theorem Grown.len {K : List (Kp α)} {G : List (K2 α)} (h : Grown g K G) : G.length = K.length := by have := congrArg List.length h.v0; simpa using this
theorem Grown.snoc {K : List (Kp α)} {G : List (K2 α)} {i : Nat} {x : Kp α} {v' : Value} {l : List α} (h : Grown g (K.take i) G) (hx : K[i]? = some x) (hl : l = mkL g i 0 (x.l.length + 72)) (hb : x.l.length ≤ 1000000) : Grown g (K.take (i + 1)) (G ++ [⟨x.v, v', x.l.length, l⟩]) := by
  have hi := zdk hx
  have hlen := h.len
  rw [List.length_take] at hlen
  refine ⟨by rw [zap hx, List.map_append, List.map_append, h.v0]; rfl, fun j y hj => ?_⟩
  rcases Nat.lt_or_ge j G.length with hlt | hge
  · rw [List.getElem?_append_left hlt] at hj; exact h.at_ j y hj
  · rw [List.getElem?_append_right hge] at hj
    have hj0 : j - G.length = 0 := by have := zdk hj; simp at this; omega
    rw [hj0] at hj
    injection hj with hj; subst hj
    have : j = i := by omega
    subst this
    exact ⟨hl, hb⟩
end
end Lp
/- Walks, printed by a program of mine. -/
set_option linter.unusedSimpArgs false
set_option linter.unusedVariables false
namespace Lp
open Go Go.RowKit Go.Proofs

namespace HdYtoanlikkhjohpaaGreatV26
theorem zcn (b o : Nat) : ∀ w, (Instr.fieldAt 38 (.pointer (some ⟨b, o, none⟩)) 16).run Tryz.prog w = .ok (.pointer (some ⟨b, o + 16, none⟩)) w := fun _ => by kernel_rfl
theorem zcP (b o : Nat) : ∀ w, (Instr.fieldAt 38 (.pointer (some ⟨b, o, none⟩)) 2).run Tryz.prog w = .ok (.pointer (some ⟨b, o + 2, none⟩)) w := fun _ => by kernel_rfl
end HdYtoanlikkhjohpaaGreatV26
open HdYtoanlikkhjohpaaGreatV26

end Lp
/- Walks, printed by a program of mine. -/
set_option linter.unusedSimpArgs false
set_option linter.unusedVariables false
namespace Lp
open Go Go.RowKit Go.Proofs

namespace HdYtoanlikkhjohpaaGreatV27
theorem zcn (b o : Nat) : ∀ w, (Instr.fieldAt 38 (.pointer (some ⟨b, o, none⟩)) 16).run Tryz.prog w = .ok (.pointer (some ⟨b, o + 16, none⟩)) w := fun _ => by kernel_rfl
theorem zcP (b o : Nat) : ∀ w, (Instr.fieldAt 38 (.pointer (some ⟨b, o, none⟩)) 2).run Tryz.prog w = .ok (.pointer (some ⟨b, o + 2, none⟩)) w := fun _ => by kernel_rfl
end HdYtoanlikkhjohpaaGreatV27
open HdYtoanlikkhjohpaaGreatV27

end Lp
/-
  Bytes of the call's own as a string.
-/
set_option linter.unusedVariables false
namespace Lp
open Go Go.RowKit
variable {P : Program} {ty : TypeId} {K : Kd} {H : List Hp}
abbrev dB8 (n : Int) : D := .v (.int .u8 n)
theorem rep_bytes {w : World} {F : Nat → Prop} : ∀ {xs : List Int} {us : List Value}, RepE w F 1 (xs.map dB8) us → us = xs.map (Value.int .u8)
  | [], _, h => h
  | x :: r, _, ⟨u, t, e, h1, _, _, h4⟩ => by
    have h1' : u = .int .u8 x := h1
    rw [e, rep_bytes h4, h1']; rfl
theorem p_bytes {t1 t2 e : TypeId} {x : Operand} {j : Nat} {v : Value} {T : TypeId} {xs : List Int} (hx : opO K x = some v) (hm : nth H j = some (.sl v 1 T (xs.map dB8))) (hn : xs ≠ []) (hs : P.underlying t1 = some (.slice e)) (he : P.underlying e = some (.int .u8)) (hd : P.underlying t2 = some .string) :
    Pu P (.convert t1 t2 x) ty K H (.v (.string (strOfNums xs))) :=
  ⟨fun ρ w F hk _ hH => by
    obtain ⟨us, hr, ho⟩ := hH _ (z7 hm)
    have hu := rep_bytes hr
    subst hu
    obtain ⟨A, c, hv, h2, h3, h4, h5⟩ := ho.sl
    obtain ⟨b, o, rfl, _, _, hat⟩ := h4 (by simpa using hn)
    have hev : ev ρ x = v := hk.opO hx
    have hl : ((xs.map (Value.int .u8)).map vcs).length = xs.length := by simp
    rw [hl] at hv
    have hcv := run_convert_bytes_arg (P := P) w t1 e hs he b o xs.length c xs rfl (fun i hi => by
      have := hat i [Value.int .u8 (xs.getD i 0)] (by
        rw [List.getElem?_map, List.getElem?_map, List.getElem?_eq_getElem hi]
        simp [vcs, List.getD, List.getElem?_eq_getElem hi, Value.cells])
      have h0 := this.2 0 _ rfl
      simpa using h0) t2 hd
    exact EOp.of_run (v := .string (strOfNums xs)) (w' := w) (by
      have h1 := zby hcv
      simpa [execOp, zaq, hev, hv] using h1) ⟨rfl, rfl⟩⟩
end Lp
