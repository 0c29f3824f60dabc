/-
  Slices with room behind them in which what stands is known.
-/
import Derived.Test.YtfjinapgehafiaaGreatDL
set_option linter.unusedVariables false
namespace Lp
open Go Go.RowKit
theorem rep_shr {w : World} {F : Nat → Prop} {z n : Nat} {xs : List D} {a : Value} (h : D.rep w F (.shr z n xs) a) : ∃ A c, a = .slice A n c ∧ n ≤ xs.length ∧ D.rep w F (.sh z xs) (.slice A xs.length c) ∧ xs.length ≤ c := by
  obtain ⟨A, c, e, h0, h1, h2, h3⟩ := h
  exact ⟨A, c, e, h0, ⟨A, c, rfl, h1, h2, h3⟩, h1⟩
theorem shr_rep {w : World} {F : Nat → Prop} {z n : Nat} {xs : List D} {A : Option Addr} {c : Nat} (h0 : n ≤ xs.length) (h : D.rep w F (.sh z xs) (.slice A xs.length c)) : D.rep w F (.shr z n xs) (.slice A n c) := by
  obtain ⟨A', c', e, h1, h2, h3⟩ := h
  injection e with e1 _ e2
  subst e1; subst e2
  exact ⟨A, c, rfl, h0, h1, h2, h3⟩
theorem rep_take {w : World} {F : Nat → Prop} {z n : Nat} {xs : List D} {A : Option Addr} {c : Nat} (hF : ∀ b, F b → b < w.heap.size) (h0 : n ≤ xs.length) (h : D.rep w F (.sh z xs) (.slice A xs.length c)) : D.rep w F (.sh z (xs.take n)) (.slice A n c) := by
  have hl : (xs.take n).length = n := by rw [List.length_take]; omega
  obtain ⟨us, hr, hsl, hblk, hmx⟩ := D.rep_sl hF h
  have hul := hr.len
  cases xs with
  | nil =>
    have : n = 0 := by simpa using h0
    subst this
    exact ⟨A, c, rfl, Nat.zero_le _, Nat.zero_le _, fun e => absurd rfl e⟩
  | cons x r =>
    obtain ⟨b', o', c', hv', hF'⟩ := hblk (by simp)
    injection hv' with e1 _ e2
    subst e1; subst e2
    have h2 := hsl.cut 0 n (Nat.zero_le _) (by omega)
    rw [cut0 (.inr ⟨_, _, rfl⟩), List.drop_zero] at h2
    have := D.sl_rep (hr.take n) h2 (fun _ g hg => by cases hg; exact hF') (by rw [List.length_take]; omega)
    exact this
theorem slice_of_sh {w : World} {F : Nat → Prop} {z : Nat} {xs : List D} {a : Value} (h : D.rep w F (.sh z xs) a) : ∃ A c, a = .slice A xs.length c ∧ xs.length ≤ c ∧ (xs ≠ [] → ∃ b o, A = some ⟨b, o, none⟩) := by
  obtain ⟨A, c, e, h1, _, h3⟩ := h
  exact ⟨A, c, e, h1, fun hn => by obtain ⟨b, o, e, _⟩ := h3 hn; exact ⟨b, o, e⟩⟩
/-- an argument with room behind it, read as what it is -/
theorem ArgC.shr {L : List Hp} {z n : Nat} {xs : List D} : ArgC L (.shr z n xs) (.sh z (xs.take n)) := ⟨fun w F u hF hL hr => by
  obtain ⟨A, c, rfl, h0, h, _⟩ := rep_shr hr
  exact D.keep (Keep.wide _) _ _ (rep_take hF h0 h)⟩
theorem ArgC.cutr {L : List Hp} {z j n : Nat} {v : Value} {T : TypeId} {ys : List D} (hm : nth L j = some (.sl v z T ys)) (hn : n ≤ ys.length) (h0 : ys ≠ []) : ArgC L (.v (Lp.cut z v 0 n)) (.shr z n ys) := ⟨fun w F u hF hL hr => by
  have e : u = _ := hr
  subst e
  have ho : D.rep w F (.ov v) v := ⟨rfl, by obtain ⟨us, _, ho⟩ := hL _ (z6 hm); exact ho.one⟩
  have h := (ArgC.own hm (d := .ov v) rfl).out w F v hF hL ho
  obtain ⟨A, c, e, hc, hA⟩ := slice_of_sh h
  obtain ⟨b, o, eA⟩ := hA h0
  rw [e] at h ⊢
  rw [cut0 (.inr ⟨b, o, eA⟩)]
  exact shr_rep hn h⟩
section
variable {P : Program} {ty : TypeId} {K : Kd} {H : List Hp}
theorem p_len_shr {t e : TypeId} {x : Operand} {z n : Nat} {xs : List D} (hx : opD K x = some (.shr z n xs)) (ht : ∀ w, (underlying t).run P w = .ok (.slice e) w) : Pu P (.call { callee := .builtin .len, args := #[x], argTypes := #[t] }) ty K H (.v (.int .i64 (n : Int))) :=
  ⟨fun ρ w F hk _ hH => by
    obtain ⟨A, c, e, _⟩ := rep_shr (hk.op hx)
    exact zeo (n := n) (zI ρ [x]) (opv1 ρ rfl) ht ⟨A, c, e⟩ ⟨rfl, rfl⟩⟩
/-- with the room behind it -/
theorem p_slice_shr {t e : TypeId} {z n b : Nat} {x : Operand} {hi : Option Operand} {xs : List D} {rh : Option Int} (hx : opD K x = some (.shr z n xs)) (hhi : bndD K hi = some rh) (hb : Bnd rh n b)
    (ht : ∀ w, (underlying t).run P w = .ok (.slice e) w) (hs : ∀ w, (Go.sizeOf e).run P w = .ok z w) (hbn : b ≤ xs.length) (h0 : xs ≠ []) : Pu P (.slice t x none hi none) ty K H (.sh z (xs.take b)) :=
  ⟨fun ρ w F hk hF hH => by
    obtain ⟨A, c, e, hn, h, hc⟩ := rep_shr (hk.op hx)
    obtain ⟨A', c', e', _, hA⟩ := slice_of_sh h
    injection e' with e1 _ e2
    subst e1; subst e2
    obtain ⟨b', o', eA⟩ := hA h0
    refine e_slice (n := n) (a := 0) (b := b) (z := z) (zI ρ [x]) (opv1 ρ rfl) rfl rfl (.inl ⟨rfl, rfl⟩) (hb.out (zcL hk hhi)) ht hs ⟨A, c, e, by omega⟩ (Nat.zero_le _) ⟨rfl, ?_⟩
    rw [e, cut0 (.inr ⟨b', o', eA⟩)]
    exact rep_take hF hbn h⟩
end
/-- lists that are read otherwise, each -/
theorem CvL.map {α : Type} {f g : α → D} (h : ∀ x, Cv (f x) (g x)) : ∀ l : List α, CvL (l.map f) (l.map g)
  | [] => .nil
  | x :: r => .cons (h x) (CvL.map h r)
theorem ArgC.lent {L : List Hp} {α : Type} {f : α → D} {z : Nat} {l : List α} {x : α} : ArgC L (.shr z l.length ((l ++ [x]).map f)) (.sh z (l.map f)) := by
  have := ArgC.shr (L := L) (z := z) (n := l.length) (xs := (l ++ [x]).map f)
  rwa [← List.map_take, List.take_left] at this
theorem lent_all {α : Type} {f : α → D} {z : Nat} {l : List α} {x : α} : D.sh z (((l ++ [x]).map f).take (l.length + 1)) = .sh z ((l ++ [x]).map f) := by
  rw [List.take_of_length_le]; simp
theorem set_same {α : Type} {l : List α} {i : Nat} {x : α} (h : l[i]? = some x) : l.set i x = l := by
  obtain ⟨hi, e⟩ := List.getElem?_eq_some_iff.1 h
  rw [← e]; exact List.set_getElem_self hi
end Lp
/-
  Merging lists of rows, as plain data: which list's head comes first; what a merge is; the tree of a tournament.
-/
set_option linter.unusedVariables false
namespace Lp
open Go

def hd (ll : LLs) (k : Nat) : Option RowD := (ll[k]?).bind List.head?
/-! ### less is an order -/
theorem or2_neg {a b : Int} : or2 (-a) (-b) = - or2 a b := by unfold or2; split <;> split <;> omega
theorem cmpI_neg (a b : Int) : cmpI b a = - cmpI a b := by unfold cmpI; split <;> split <;> (try split) <;> omega
theorem cmpLbl_neg (a b : Lbl) : zN b a = - zN a b := by unfold zN; rw [zdC a.n, zdC a.v, or2_neg]
theorem cmpLs_neg : ∀ a b : List Lbl, z1 b a = - z1 a b
  | [], [] => rfl
  | [], _ :: _ => rfl
  | _ :: _, [] => rfl
  | a :: r, b :: s => by
    unfold z1
    rw [cmpLbl_neg a b, cmpLs_neg r s]
    split <;> split <;> omega
theorem cmpRow_neg (o : Int) (a b : RowD) : zO o b a = - zO o a b := by
  unfold zO
  rw [cmpLs_neg a.ls b.ls]
  split
  · rw [cmpI_neg a.v b.v, or2_neg]
  · split
    · rw [cmpI_neg b.v a.v, or2_neg]
    · rfl
/-- Three that are compared: a sign is handed on. -/
structure Tr (c : Int) (d : Int) (e : Int) : Prop where
  le : c ≤ 0 → d ≤ 0 → e ≤ 0
  lt1 : c < 0 → d ≤ 0 → e < 0
  lt2 : c ≤ 0 → d < 0 → e < 0
  e1 : c = 0 → e = d
  e2 : d = 0 → e = c
theorem cmpS_tr (a b c : ByteArray) : Tr (cmpS a b) (cmpS b c) (cmpS a c) := by
  have n1 := zdC a b
  have n2 := zdC b c
  have t := cmpS_trans a b c
  refine ⟨t, fun h1 h2 => ?_, fun h1 h2 => ?_, fun h => ?_, fun h => ?_⟩
  · have := t (by omega) h2
    rcases Int.lt_or_eq_of_le this with h | h
    · exact h
    · rw [zca] at h; subst h; omega
  · have := t h1 (by omega)
    rcases Int.lt_or_eq_of_le this with h | h
    · exact h
    · rw [zca] at h; subst h; omega
  · rw [zca] at h; rw [h]
  · rw [zca] at h; rw [h]
theorem cmpI_tr (a b c : Int) : Tr (cmpI a b) (cmpI b c) (cmpI a c) := by
  unfold cmpI
  refine ⟨?_, ?_, ?_, ?_, ?_⟩ <;> (repeat' split) <;> omega
theorem or2_tr {a b c d e f : Int} (h : Tr a b c) (h' : Tr d e f) : Tr (or2 a d) (or2 b e) (or2 c f) := by
  obtain ⟨h1, h2, h3, h4, h5⟩ := h
  obtain ⟨k1, k2, k3, k4, k5⟩ := h'
  unfold or2
  by_cases ha : a = 0
  · have hc := h4 ha
    subst hc
    rw [if_neg (by omega)]
    by_cases hb : c = 0
    · rw [if_neg (by omega), if_neg (by omega)]; exact ⟨k1, k2, k3, k4, k5⟩
    · rw [if_pos hb, if_pos hb]
      exact ⟨fun _ h => h, fun _ h => by omega, fun _ h => h, fun _ => rfl, fun h => by omega⟩
  · by_cases hb : b = 0
    · have hc := h5 hb
      subst hc
      rw [if_pos ha, if_neg (by omega), if_pos ha]
      exact ⟨fun h _ => h, fun h _ => h, fun h _ => by omega, fun h => by omega, fun _ => rfl⟩
    · rw [if_pos ha, if_pos hb]
      have : a ≤ 0 → b ≤ 0 → c < 0 := fun p q => h2 (by omega) q
      refine ⟨fun p q => ?_, fun p q => ?_, fun p q => ?_, fun h => by omega, fun h => by omega⟩
      · rw [if_pos (by have := this p q; omega)]; exact h1 p q
      · have := this (by omega) q; rw [if_pos (by omega)]; exact this
      · have := this p (by omega); rw [if_pos (by omega)]; exact this
theorem cmpLbl_tr (a b c : Lbl) : Tr (zN a b) (zN b c) (zN a c) := or2_tr (cmpS_tr _ _ _) (cmpS_tr _ _ _)
theorem Tr.zero : Tr 0 0 0 := ⟨fun h _ => h, fun h _ => h, fun _ h => h, fun _ => rfl, fun _ => rfl⟩
theorem zdD : ∀ a b c : List Lbl, Tr (z1 a b) (z1 b c) (z1 a c)
  | [], [], [] => Tr.zero
  | [], [], _ :: _ => by constructor <;> (intros; simp_all [z1])
  | [], _ :: _, [] => by constructor <;> (intros; simp_all [z1])
  | _ :: _, [], [] => by constructor <;> (intros; simp_all [z1])
  | [], _ :: _, _ :: _ => by
    constructor <;> intros <;> simp_all [z1]
  | _ :: _, [], _ :: _ => by constructor <;> (intros; simp_all [z1])
  | _ :: _, _ :: _, [] => by constructor <;> (intros; simp_all [z1])
  | a :: r, b :: s, c :: t => by
    have h := cmpLbl_tr a b c
    have ih := zdD r s t
    have e : ∀ x y : Lbl, ∀ p q : List Lbl, z1 (x :: p) (y :: q) = or2 (zN x y) (z1 p q) := by
      intro x y p q
      conv => lhs; unfold z1
      rfl
    rw [e, e, e]
    exact or2_tr h ih
theorem cmpRow_tr (o : Int) (a b c : RowD) : Tr (zO o a b) (zO o b c) (zO o a c) := by
  unfold zO
  split
  · exact or2_tr (cmpI_tr _ _ _) (zdD _ _ _)
  · split
    · have := cmpI_tr c.v b.v a.v
      refine or2_tr ⟨fun h1 h2 => this.le h2 h1, fun h1 h2 => this.lt2 h2 h1, fun h1 h2 => this.lt1 h2 h1, this.e2, this.e1⟩ (zdD _ _ _)
    · exact zdD _ _ _

end Lp
/-
  The tree of a merge, as data; places in lists; the document's own merge.
-/
set_option linter.unusedVariables false
namespace Lp
open Go Go.RowKit

/-- What is left of lists of which so many rows are taken. -/
def rest (ll : LLs) (c : List Nat) : LLs := List.zipWith (fun l n => l.drop n) ll c
end Lp
namespace Lp
end Lp
namespace Lp
open Go
end Lp
/-
  Rows that are lent: a mark stands in the room behind them. The document's own merge.
-/
set_option linter.unusedVariables false
namespace Lp
open Go
abbrev dLent (l : List RowD) : D := .shr 2 l.length ((l ++ [RowD.mk [] (-77)]).map RowD.d)
end Lp
/- Walks, printed by a program of mine. -/
set_option linter.unusedSimpArgs false
set_option linter.unusedVariables false
set_option maxHeartbeats 4000000
set_option maxRecDepth 100000
namespace Lp
open Go Go.RowKit Go.Proofs

namespace HdYtfjinapgehafiaaGreatV24
theorem zbQ : ∀ w, ((#[⟨"Labels", 50, 0, false, "", "", 0⟩, ⟨"V", 3, 1, false, "", "", 24⟩] : Array Field).mapM fun f => do pure (f.offset, ← Go.sizeOf f.type) : Sem (Array (Nat × Nat))).run Tryz.prog w = .ok ([(0, 1), (1, 1)] : List (Nat × Nat)).toArray w := fun _ => by kernel_rfl
theorem z2 (b o : Nat) : ∀ w, (Instr.fieldAt 53 (.pointer (some ⟨b, o, none⟩)) 0).run Tryz.prog w = .ok (.pointer (some ⟨b, o + 0, none⟩)) w := fun _ => by kernel_rfl
theorem zaj (b o : Nat) : ∀ w, (Instr.fieldAt 53 (.pointer (some ⟨b, o, none⟩)) 1).run Tryz.prog w = .ok (.pointer (some ⟨b, o + 1, none⟩)) w := fun _ => by kernel_rfl
theorem z9 : ∃ i, Tryz.prog.info? 53 = some i ∧ i.zero = some (.agg #[(.slice none 0 0), (.int .i64 0)]) ∧ i.size = 2 ∧ i.bytes = 32 := zaS (by kernel_rfl)
theorem zbF : ∃ i, Tryz.prog.info? 62 = some i ∧ i.zero = some (.agg #[(.string ByteArray.empty), (.string ByteArray.empty)]) ∧ i.size = 2 ∧ i.bytes = 32 := zaS (by kernel_rfl)
theorem zao : Tryz.prog.underlying 22 = some (.slice 53) := by kernel_rfl
theorem zb4 : Tryz.prog.underlying 50 = some (.slice 62) := by kernel_rfl
end HdYtfjinapgehafiaaGreatV24
open HdYtfjinapgehafiaaGreatV24

theorem copyLabels_c (l : List Lbl) (hl : l.length ≤ 1000000) :
    CD Tryz.prog 110 [] [.sh 2 (l.map Lbl.d)] (zc7 2 62 (l.map Lbl.d)) := by
  refine zy Tryz.func110 rfl (N := 5) rfl rfl (fun C => ?_)
  refine jk [0] rfl ?_
  refine JD.bd 0 rfl (fun bd0 => ?_)
  have nl0 := zZ bd0
  refine jT rfl (oR 1 rfl (oZ rfl (jT rfl (oR 1 rfl (oE rfl (zbs (f := Lbl.d) (l' := l) rfl rfl (SrcD.sh) zb4 zbF rfl rfl (by unfold maxLen; (try simp only [la, lc, ln, lm, lt', ld, ls, lr]); omega) (by (try simp only [la, lc, ln, lm, lt', ld, ls, lr]); omega)) ?_)))))
  rintro _ _ ⟨v1, rfl, rfl⟩
  refine oR 1 rfl (oZ rfl (zs rfl (PD.subH (HSub.less (zbu (i := 0) rfl)) ?_)))
  exact zbP Tryz.results110 (.cons (zf rfl) .nil) rfl ⟨_, rfl, rfl⟩

theorem copyRows_c (l : List RowD) (hl : l.length ≤ 1000000) (hll : ∀ r ∈ l, r.ls.length ≤ 1000000) :
    CD Tryz.prog 38 [] [.sh 2 (l.map RowD.d)] (zc7 2 53 (l.map RowD.d)) := by
  refine zy Tryz.func38 rfl (N := 23) rfl rfl (fun C => ?_)
  refine jk [0] rfl ?_
  refine JD.bd 0 rfl (fun bd0 => ?_)
  have nl0 := zZ bd0
  refine jT rfl (oR 1 rfl (oZ rfl (jT rfl (oR 1 rfl (oE rfl (zbs (f := RowD.d) (l' := l) rfl rfl (SrcD.sh) zao z9 rfl rfl (by unfold maxLen; (try simp only [la, lc, ln, lm, lt', ld, ls, lr]); omega) (by (try simp only [la, lc, ln, lm, lt', ld, ls, lr]); omega)) ?_)))))
  rintro _ _ ⟨v1, rfl, rfl⟩
  refine oR 1 rfl (oZ rfl (jS rfl (jT rfl (oR 1 rfl (oZ rfl (jB rfl (jl1 (fun (a_ : Nat) => [(0, .ov v1), (2, dZ), (3, dN a_)]) (fun a_ => [.sl v1 2 53 (l.map RowD.d)]) (fun a_ => True) (fun a_ => l.length - a_) 0 rfl (sa rfl) HSub.rfl' trivial ?_)))))))
  rintro i _
  refine ja rfl (jn rfl (jS rfl (jT rfl (oR 2 rfl (oP rfl (zY (n := l.length) (j := 0) rfl rfl Tryz.runUnderlying22 (List.length_map _)) (oP rfl (zL rfl rfl rfl) (oZ rfl ?_)))))))
  refine jD rfl (fun hc2 => ?_) (fun hc2 => ?_)
  · skip
    refine zq rfl (zc (jS rfl (jB rfl (za rfl (oR 4 rfl ?_)))))
    obtain ⟨x1, hx1⟩ := zG l i (by omega)
    refine oP rfl (zA (k := i) (j := 0) rfl rfl rfl Tryz.runUnderlying22 Tryz.sizeOf53 (by first | rfl | omega) (zt hx1)) (oP rfl (zl rfl z2 rfl) (oP rfl (z5 rfl (i := 0) rfl (zt hx1) Tryz.isAgg50 rfl) (oE rfl (zx [] _ [] rfl rfl (.cons ArgC.id .nil) zo Tryz.call110 (copyLabels_c x1.ls (hll x1 (zav hx1))) (.inl rfl)) ?_)))
    rintro _ _ ⟨_, ⟨v3, rfl, rfl⟩, rfl⟩
    refine on rfl (oP rfl (zA (k := i) (j := 1) rfl rfl rfl Tryz.runUnderlying22 Tryz.sizeOf53 (by first | rfl | omega) (zt hx1)) (oP rfl (zl rfl z2 rfl) (OpsD.mv (Mv.freeze (K' := [(0, .ov v1), (2, dZ), (3, dN i), (6, dN i), (7, .ov v1), (8, dN l.length), (9, dB (decide (((i : Nat) : Int) < ((l.length : Nat) : Int)))), (12, .ov v1), (13, dN i), (14, .ov v1), (15, dN i), (16, .v (.pointer (some ⟨bl v1, i * 2 + 0, none⟩))), (17, .v (.pointer (some ⟨bl v1, i * 2 + 0, none⟩))), (18, .sh 2 (x1.ls.map Lbl.d)), (19, .sh 2 (x1.ls.map Lbl.d)), (20, .v (.pointer (some ⟨bl v1, i * 2 + 0, none⟩))), (21, .v (.pointer (some ⟨bl v1, i * 2 + 0, none⟩)))]) [.sl v3 2 62 (x1.ls.map Lbl.d)] (H1 := [.sl v1 2 53 (l.map RowD.d)]) (H1' := [.sl v1 2 53 (l.map RowD.d)]) ⟨⟨_, rfl, ArgC.id⟩, ⟨_, rfl, ArgC.id⟩, ⟨_, rfl, ArgC.id⟩, ⟨_, rfl, ArgC.id⟩, ⟨_, rfl, ArgC.id⟩, ⟨_, rfl, ArgC.id⟩, ⟨_, rfl, ArgC.id⟩, ⟨_, rfl, ArgC.id⟩, ⟨_, rfl, ArgC.id⟩, ⟨_, rfl, ArgC.id⟩, ⟨_, rfl, ArgC.id⟩, ⟨_, rfl, ArgC.id⟩, ⟨_, rfl, ArgC.id⟩, ⟨_, rfl, ArgC.id⟩, ⟨_, rfl, ArgC.own (j := 0) rfl rfl⟩, ⟨_, rfl, ArgC.id⟩, ⟨_, rfl, ArgC.id⟩, trivial⟩ (.same .nil)) ?_)))
    refine oE rfl (zaT (f := RowD.d) (k := i) (z := 2) (o := 0) (i := 0) (a' := x1) rfl rfl hx1 rfl (CellD.sh) Tryz.sizeOf50 rfl rfl rfl) ?_
    rintro _ _ ⟨rfl, rfl⟩
    refine on rfl (zg rfl (zw (zc (za rfl (oR 1 rfl (oP rfl (zS (c := ((i + 1 : Nat) : Int)) rfl rfl (zF (by omega) (by omega))) (oR 1 rfl (zg rfl (pn rfl (PD.norm [.sl v1 2 53 (l.map RowD.d)] (by rw [set_same hx1]) ?_))))))))))
    exact pl1 (i + 1) (sa rfl) HSub.rfl' trivial (by omega)
  · skip
    refine zE rfl (zr (zn (zh (zc (jT rfl (oR 2 rfl (oZ rfl (zs rfl (PD.subH (HSub.less (zbu (i := 0) rfl)) ?_)))))))))
    exact zbP Tryz.results38 (.cons (zf rfl) .nil) rfl ⟨_, rfl, rfl⟩

theorem lentRows_c (l : List RowD) (hl : l.length ≤ 1000000) (hll : ∀ r ∈ l, r.ls.length ≤ 1000000) :
    CD Tryz.prog 13 [] [.sh 2 (l.map RowD.d)] (isR (dLent l)) := by
  refine zy Tryz.func13 rfl (N := 11) rfl rfl (fun C => ?_)
  refine jk [0] rfl ?_
  refine JD.bd 0 rfl (fun bd0 => ?_)
  have nl0 := zZ bd0
  refine jT rfl (oR 1 rfl (oZ rfl (jT rfl (oR 1 rfl (oE rfl (zx [] _ [] rfl rfl (.cons ArgC.id .nil) zo Tryz.call38 (copyRows_c l (by omega) hll) (.inl rfl)) ?_)))))
  rintro _ _ ⟨_, ⟨v1, rfl, rfl⟩, rfl⟩
  refine on rfl (oP rfl (zbx [1] [.const (.int .i64 (-77))] (zv := (.agg #[(.slice none 0 0), (.int .i64 0)])) rfl rfl (.cons (CellD.v rfl) .nil) (Tryz.runUnderlying53) Tryz.zeroValue53 zbQ ⟨rfl, rfl, trivial⟩ rfl) (oE rfl (zJ [.tmp 5] rfl rfl (.cons CellD.agg .nil) rfl Tryz.runUnderlying22 Tryz.sizeOf53 Tryz.zeroValue53 rfl rfl rfl rfl) ?_))
  rintro _ _ ⟨g2, rfl, rfl⟩
  refine OpsD.subH (HSub.turn (h' := .sl (vS g2 1 1) 2 53 ([(RowD.mk [] (-77))].map RowD.d)) rfl (Hp.cvs_sl (.cons (Cv.agg (.cons (Cv.nil) (.cons Cv.rfl' .nil))) .nil))) (oE rfl (zK (f := RowD.d) (l := l) (l' := [(RowD.mk [] (-77))]) (i := 1) rfl rfl rfl (SrcD.own (j := 0) rfl rfl) zao z9 rfl rfl (by unfold maxLen; (try simp only [la, lc, ln, lm, lt', ld, ls, lr]); omega) (by (try simp only [la, lc, ln, lm, lt', ld, ls, lr]); omega)) ?_)
  rintro _ _ ⟨v3, rfl, rfl⟩
  refine on rfl (oR 1 rfl (oP rfl (zae (n := l.length) rfl Tryz.runUnderlying22 (by simp only [lm, lc, ln])) (oP rfl (za8 (a := 0) (b := l.length) (j := 1) rfl rfl rfl rfl (by first | rfl | (show _ = _; (try simp only [lm]); omega) | exact List.length_map _) (by first | rfl | (show _ = _; (try simp only [lm]); omega) | exact List.length_map _) Tryz.runUnderlying22 Tryz.sizeOf53 (by omega) (by (try simp only [lm, la, lc, ln]); first | omega | decide)) (oR 1 rfl (oZ rfl (jk [2] rfl (zs rfl (PD.subH (HSub.perm (zk (i := 1) rfl)) (pn rfl (PD.subH (HSub.fst 1 rfl) (pn rfl (pd_mv_ret (Mv.freeze (K' := [(2, dLent l)]) [.sl v3 2 53 ((l ++ [(RowD.mk [] (-77))]).map RowD.d)] (H1 := []) (H1' := []) ⟨⟨_, rfl, ArgC.cutr (j := 0) rfl (by simp) (by simp)⟩, trivial⟩ .nil) ?_))))))))))))
  exact zj Tryz.results13 (.cons (zf rfl) .nil) rfl HSub.none ⟨rfl, rfl⟩

theorem staysRows_c (m was : List RowD) (hm : m.length ≤ 1000000) :
    CD Tryz.prog 28 [] [.shr 2 m.length ((m ++ [(RowD.mk [] (-77))]).map RowD.d), .sh 2 (was.map RowD.d)] (isR (dB (decide (m = was)))) := by
  refine zy Tryz.func28 rfl (N := 21) rfl rfl (fun C => ?_)
  refine jk [0, 1] rfl ?_
  refine JD.bd 1 rfl (fun bd1 => ?_)
  have nl1 := zZ bd1
  obtain ⟨y, hy, ey⟩ : ∃ y, (m ++ [(RowD.mk [] (-77))])[m.length]? = some y ∧ y = (RowD.mk [] (-77)) := ⟨_, by simp, rfl⟩
  refine jT rfl (oR 1 rfl (oZ rfl (jS rfl (jk [0, 1] rfl ?_))))
  refine zab 4 ((decide (m = was) && decide (y.v = ((-77) : Int)))) [] (fun _ hQ1 => ?_) ?_
  · skip
    rcases Bool.eq_false_or_eq_true (decide (m = was)) with hg2 | hg2
    · skip
      refine za rfl (oR 2 rfl (oW rfl rfl (.cons ArgC.lent (.cons ArgC.id .nil)) Tryz.call22 (zbz m was) (os 7 rfl (congrArg (fun b => D.v (.bool b)) hg2) (oR 3 rfl (oG rfl (p_len_shr rfl Tryz.runUnderlying22) (oG rfl (zS (c := ((m.length + 1 : Nat) : Int)) rfl rfl (zF (by omega) (by omega))) (oG rfl ((p_slice_shr (b := m.length + 1) rfl rfl (by first | rfl | (show _ = _; omega)) Tryz.runUnderlying22 Tryz.sizeOf53 (by simp) (by simp)).cv (Cv.eq lent_all)) (oR 1 rfl (oG rfl (p_len_shr rfl Tryz.runUnderlying22) (oG rfl (zC (k := m.length) rfl rfl Tryz.runUnderlying22 Tryz.sizeOf53 (by first | rfl | omega) (zt hy)) (oG rfl (zD rfl zaj rfl) (oG rfl (zH rfl Tryz.isAgg3 rfl) (oG rfl (zV rfl rfl rfl) (oR 2 rfl (zg rfl ?_)))))))))))))))
      exact PD.sub ((4, dB (decide (m = was) && decide (y.v = ((-77) : Int)))) :: [(0, .shr 2 m.length ((m ++ [(RowD.mk [] (-77))]).map RowD.d)), (1, .sh 2 (was.map RowD.d))]) ⟨sc rfl (Cv.eq (congrArg (fun b => D.v (.bool b)) (by first | (simp [hg2]; done) | (simp_all; done)))), sk rfl, sk rfl, trivial⟩ hQ1
    · skip
      refine za rfl (oR 2 rfl (oW rfl rfl (.cons ArgC.lent (.cons ArgC.id .nil)) Tryz.call22 (zbz m was) (os 7 rfl (congrArg (fun b => D.v (.bool b)) hg2) (oR 14 rfl (zg rfl ?_)))))
      exact PD.sub ((4, dB (decide (m = was) && decide (y.v = ((-77) : Int)))) :: [(0, .shr 2 m.length ((m ++ [(RowD.mk [] (-77))]).map RowD.d)), (1, .sh 2 (was.map RowD.d))]) ⟨sc rfl (Cv.eq (congrArg (fun b => D.v (.bool b)) (by first | (simp [hg2]; done) | (simp_all; done)))), sk rfl, sk rfl, trivial⟩ hQ1
  · skip
    refine zc (zs rfl ?_)
    exact zj Tryz.results28 (.cons (zB (zf rfl) (Cv.eq (congrArg (fun b => D.v (.bool b)) (by subst ey; simp)))) .nil) rfl HSub.none ⟨rfl, rfl⟩
end Lp
/-
  Lists that are kept: rows of the call's own, any number of them.
-/
set_option linter.unusedVariables false
namespace Lp
open Go Go.RowKit
variable {P : Program} {ty : TypeId} {K : Kd} {H : List Hp}

structure Kp (α : Type) where
  v : Value
  l : List α
/-- a list that has grown: v0 is what it was, of m elements -/
structure K2 (α : Type) where
  v0 : Value
  v : Value
  m : Nat
  l : List α
abbrev Kp.d {α : Type} (p : Kp α) : D := .ov p.v
abbrev Kp.h {α : Type} (z : Nat) (T : TypeId) (f : α → D) (p : Kp α) : Hp := .sl p.v z T (p.l.map f)
abbrev K2.d0 {α : Type} (p : K2 α) : D := .ov p.v0
abbrev K2.d1 {α : Type} (p : K2 α) : D := .ov p.v
abbrev K2.h {α : Type} (z : Nat) (T : TypeId) (f : α → D) (p : K2 α) : Hp := .sl2 p.v0 p.v z T p.m (p.l.map f)
theorem zec {α β : Type} {A : List Hp} {h : α → Hp} {g : β → Hp} {P : List β} {K R : List α} {x : α} (e : K = x :: R) : HSub (A ++ (P.map g ++ K.map h)) (h x :: A ++ (P.map g ++ R.map h)) := by
  subst e
  refine HSub.perm ?_
  rw [List.map_cons, ← List.append_assoc, ← List.append_assoc]
  exact List.perm_middle
theorem zev {α β : Type} {A : List Hp} {h : α → Hp} {g : β → Hp} {P : List β} {R : List α} {y : β} : HSub (g y :: A ++ (P.map g ++ R.map h)) (A ++ ((P ++ [y]).map g ++ R.map h)) := by
  refine HSub.perm ?_
  rw [List.map_append, List.map_cons, List.map_nil, List.append_assoc, List.singleton_append, ← List.append_assoc, ← List.append_assoc]
  exact List.perm_middle.symm
theorem zed {α β : Type} {h : α → Hp} {g : β → Hp} {P Q : List β} {R : List α} {A : List Hp} (e : R = []) (e2 : P = Q) : A ++ (P.map g ++ R.map h) = A ++ Q.map g := by subst e; subst e2; simp
theorem ArgC.shs {L : List Hp} {z : Nat} {xs xs' : List D} (h : ArgCs L xs xs') : ArgC L (.sh z xs) (.sh z xs') := ⟨fun w F u hF hL hr => by
  obtain ⟨us, h1, h2, h3, h4⟩ := D.rep_sl hF hr
  refine D.sl_rep (h.repE hF hL h1) h2 (fun hn g hg => ?_) (by have := h1.len; omega)
  have hx : xs ≠ [] := by rintro rfl; cases h; exact hn rfl
  obtain ⟨b, o, c, rfl, hb⟩ := h3 hx
  simp only [Value.ownBlock] at hg
  injection hg with hg
  rw [← hg]; exact .inl hb⟩
theorem zck {A B T : List Hp} : ((A ++ B) ++ T).Perm ((A ++ T) ++ B) := by
  rw [List.append_assoc, List.append_assoc]
  exact List.perm_append_comm.append_left A
theorem put_next {α : Type} {m l : List α} {k : Nat} {y : α} (hm : m[k]? = some y) (hl : l.length = m.length) : (m.take k ++ l.drop k).set k y = m.take (k + 1) ++ l.drop (k + 1) := by
  have hk := get_lt hm
  rw [List.set_append_right _ _ (by rw [List.length_take]; omega), List.length_take, Nat.min_eq_left (by omega), Nat.sub_self, List.drop_eq_getElem_cons (by omega), List.set_cons_zero, z0 hm, List.append_assoc]
  rfl
theorem p_len_own2 {t e : TypeId} {x : Operand} {z n m j : Nat} {v0 v : Value} {T : TypeId} {xs : List D} (hx : opO K x = some v) (hm : nth H j = some (.sl2 v0 v z T m xs)) (ht : ∀ w, (underlying t).run P w = .ok (.slice e) w) (hn : xs.length = n) : Pu P (.call { callee := .builtin .len, args := #[x], argTypes := #[t] }) ty K H (.v (.int .i64 (n : Int))) :=
  ⟨fun ρ w F hk _ hH => by
    obtain ⟨us, hr, ho, _⟩ := hH _ (z6 hm)
    exact zeo (n := n) (zI ρ [x]) (opv1 ρ (hk.opO hx)) ht (by have := ho.len; rw [hr.len, hn] at this; exact this) ⟨rfl, rfl⟩⟩
theorem p_len_own0 {t e : TypeId} {x : Operand} {z n m j : Nat} {v0 v : Value} {T : TypeId} {xs : List D} (hx : opO K x = some v0) (hm : nth H j = some (.sl2 v0 v z T m xs)) (ht : ∀ w, (underlying t).run P w = .ok (.slice e) w) (hn : (xs.take m).length = n) : Pu P (.call { callee := .builtin .len, args := #[x], argTypes := #[t] }) ty K H (.v (.int .i64 (n : Int))) :=
  ⟨fun ρ w F hk _ hH => by
    obtain ⟨us, hr, _, ho, _⟩ := hH _ (z6 hm)
    exact zeo (n := n) (zI ρ [x]) (opv1 ρ (hk.opO hx)) ht (by have := ho.len; rw [List.length_take, hr.len, ← List.length_take, hn] at this; exact this) ⟨rfl, rfl⟩⟩
end Lp
/-
  Lists that are kept, marked, grown: plain data.
-/
set_option linter.unusedVariables false
namespace Lp
open Go
/-- marks of the list i, from a place on -/
def mkL {α : Type} (g : Nat → Nat → α) (i f n : Nat) : List α := (List.range' f n).map (g i)
def gR (i k : Nat) : RowD := ⟨[], ((-1000) * ((i : Nat) : Int)) - ((k : Nat) : Int) - 1⟩
section
variable {α : Type} {g : Nat → Nat → α}
theorem za2 {i f n : Nat} : (mkL g i f n).length = n := by unfold mkL; simp
theorem mkL_app {i f n m : Nat} : mkL g i f n ++ mkL g i (f + n) m = mkL g i f (n + m) := by
  unfold mkL; rw [← List.map_append, List.range'_append_1]
theorem mkL_succ {i f n : Nat} : mkL g i f (n + 1) = mkL g i f n ++ [g i (f + n)] := by rw [← mkL_app]; rfl
theorem mkL_take {i f n m : Nat} (h : n ≤ m) : (mkL g i f m).take n = mkL g i f n := by
  obtain ⟨k, rfl⟩ := Nat.le.dest h
  rw [← mkL_app, List.take_left' za2]
theorem mkL_more {i n m : Nat} {l l2 : List α} (h : l = mkL g i 0 n) (h2 : l2 = mkL g i n m) : l ++ l2 = mkL g i 0 (n + m) := by
  rw [h, h2]; have := mkL_app (g := g) (i := i) (f := 0) (n := n) (m := m); rwa [Nat.zero_add] at this
/-- what marking leaves -/
def putK (g : Nat → Nat → α) (K : List (Kp α)) : List (Kp α) := K.mapIdx (fun i p => ⟨p.v, mkL g i 0 p.l.length⟩)
theorem putK_len {K : List (Kp α)} : (putK g K).length = K.length := by unfold putK; simp
theorem putK_get {K : List (Kp α)} {i : Nat} {x : Kp α} (h : K[i]? = some x) : (putK g K)[i]? = some ⟨x.v, mkL g i 0 x.l.length⟩ := by unfold putK; rw [List.getElem?_mapIdx, h]; rfl
theorem putK_d {K : List (Kp α)} : (putK g K).map Kp.d = K.map Kp.d := by
  apply List.ext_getElem?; intro i
  unfold putK
  rw [List.getElem?_map, List.getElem?_map, List.getElem?_mapIdx]
  cases K[i]? <;> rfl
theorem putK_marked {K : List (Kp α)} : ∀ i x, (putK g K)[i]? = some x → x.l = mkL g i 0 x.l.length := by
  intro i x h
  unfold putK at h
  rw [List.getElem?_mapIdx] at h
  cases e : K[i]? with
  | none => rw [e] at h; cases h
  | some y => rw [e] at h; injection h with h; subst h; rw [za2]
theorem putK_light {K : List (Kp α)} {N : Nat} (h : ∀ x ∈ K, x.l.length ≤ N) : ∀ x ∈ putK g K, x.l.length ≤ N := by
  intro x hx
  obtain ⟨i, he⟩ := List.mem_iff_getElem?.1 hx
  unfold putK at he
  rw [List.getElem?_mapIdx] at he
  cases e : K[i]? with
  | none => rw [e] at he; cases he
  | some y => rw [e] at he; injection he with he; subst he; rw [za2]; exact h _ (List.mem_of_getElem? e)
theorem putK_step {K : List (Kp α)} {i : Nat} {x : Kp α} (h : K[i]? = some x) : (putK g K).take i ++ [⟨x.v, mkL g i 0 x.l.length⟩] = (putK g K).take (i + 1) := (z0 (putK_get h)).symm
/-- grown so far -/
structure Grown (g : Nat → Nat → α) (K : List (Kp α)) (G : List (K2 α)) : Prop where
  v0 : G.map K2.d0 = K.map Kp.d
  at_ : ∀ i y, G[i]? = some y → y.l = mkL g i 0 (y.m + 72) ∧ y.m ≤ 1000000
theorem Grown.nil : Grown g [] [] := ⟨rfl, fun i y h => by simp at h⟩
theorem Grown.len {K : List (Kp α)} {G : List (K2 α)} (h : Grown g K G) : G.length = K.length := by have := congrArg List.length h.v0; simpa using this
theorem Grown.snoc {K : List (Kp α)} {G : List (K2 α)} {i : Nat} {x : Kp α} {v' : Value} {l : List α} (h : Grown g (K.take i) G) (hx : K[i]? = some x) (hl : l = mkL g i 0 (x.l.length + 72)) (hb : x.l.length ≤ 1000000) : Grown g (K.take (i + 1)) (G ++ [⟨x.v, v', x.l.length, l⟩]) := by
  have hi := get_lt hx
  have hlen := h.len
  rw [List.length_take] at hlen
  refine ⟨by rw [z0 hx, List.map_append, List.map_append, h.v0]; rfl, fun j y hj => ?_⟩
  rcases Nat.lt_or_ge j G.length with hlt | hge
  · rw [List.getElem?_append_left hlt] at hj; exact h.at_ j y hj
  · rw [List.getElem?_append_right hge] at hj
    have hj0 : j - G.length = 0 := by have := get_lt hj; simp at this; omega
    rw [hj0] at hj
    injection hj with hj; subst hj
    have : j = i := by omega
    subst this
    exact ⟨hl, hb⟩
end
end Lp
