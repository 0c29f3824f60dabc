/-
  The tail of a row of the call's own, as a slice: read, cut and grown.
-/
import Derived.Test.YtfjinapgehafiaaV61
set_option linter.unusedVariables false
namespace Lp
open Go Go.RowKit

theorem Qu.ef {P : Program} {op : Op} {ty : TypeId} {K : Kd} {H : List Hp} {d : D} (h : Qu P op ty K H d) : Ef P op ty K H (fun d' H' => d' = d ∧ H' = H) := ⟨fun C ρ w F hk g => (h.out ρ w F hk g.flt g.h.ok).mono fun u w' ⟨E, hr⟩ => by
  obtain ⟨g', k⟩ := g.fn E
  exact ⟨_, d, H, ⟨rfl, rfl⟩, hr, g', k⟩⟩
theorem addr_add (g o j : Nat) : (⟨g, o, none⟩ : Addr).add j = ⟨g, o + j, none⟩ := by cases j <;> simp [Addr.add]
/-- a row is a tail of itself -/
theorem HSub.slo {H : List Hp} {v : Value} {z : Nat} {T : TypeId} {xs : List D} : HSub (.sl v z T xs :: H) (.slo v z T xs :: H) := ⟨fun C w F gd => by
  have key : (Hp.sl v z T xs).ok w F → (Hp.slo v z T xs).ok w F := by
    rintro ⟨us, hr, ho⟩
    refine ⟨us, hr, ?_⟩
    have hm := ho.1
    rcases hm.2 with ⟨e, h0⟩ | ⟨g, cap, cur, e, hb, hg, hc, rest⟩
    · exact ⟨Option.none, 0, by rw [e, h0], by omega, .inl rfl⟩
    · refine ⟨_, cap, e, hc, .inr ⟨g, [], by simp, ?_⟩⟩
      simp only [List.length_nil, Nat.zero_add, List.nil_append]
      rw [← e]; exact ho
  have hbl : ∀ b, (Hp.slo v z T xs).blk b → (Hp.sl v z T xs).blk b := by
    rintro b ⟨A, n, c, e, _, hb⟩
    show v.ownBlock = some b
    rw [e]; show some A.block = _; rw [hb]
  have ha := List.pairwise_cons.1 gd.h.apart
  exact { gd with h := ⟨List.pairwise_cons.2 ⟨fun h hh b hb => ha.1 h hh b (hbl b hb), ha.2⟩, fun h hh => by
    rcases List.mem_cons.1 hh with e | e
    · rw [e]; exact key (gd.h.ok _ List.mem_cons_self)
    · exact gd.h.ok h (List.mem_cons_of_mem _ e), fun b ⟨h, hh, hb⟩ => by
    rcases List.mem_cons.1 hh with e | e
    · rw [e] at hb; exact gd.h.mine b ⟨_, List.mem_cons_self, hbl b hb⟩
    · exact gd.h.mine b ⟨h, List.mem_cons_of_mem _ e, hb⟩⟩ }⟩
theorem cut0 {z n m c : Nat} {A : Option Addr} (h : c = 0 ∨ ∃ g o, A = some ⟨g, o, none⟩) : cut z (.slice A m c) 0 n = .slice A n c := by
  unfold cut
  simp only [Nat.zero_mul, Nat.sub_zero]
  rcases h with h | ⟨g, o, h⟩
  · rw [if_pos h]
  · subst h; rw [Option.map_some, addr_add]; simp
theorem TlOk.cut0 {w : World} {z n : Nat} {T : TypeId} {u : Value} {us : List Value} (h : TlOk w z T u us) : ∃ A c, u = .slice A us.length c ∧ us.length ≤ c ∧ Lp.cut z u 0 n = .slice A n c ∧ (0 < us.length → ∃ g o, A = some ⟨g, o, none⟩) := by
  obtain ⟨A, c, e, hle, h⟩ := h
  refine ⟨A, c, e, hle, ?_, fun hl => ?_⟩
  · rw [e]; refine Lp.cut0 ?_
    rcases h with h | ⟨g, p, h, _⟩
    · exact .inl h
    · exact .inr ⟨g, _, h⟩
  · rcases h with h | ⟨g, p, h, _⟩
    · omega
    · exact ⟨g, _, h⟩
section
variable {P : Program} {ty : TypeId} {K : Kd} {H : List Hp}
end

section
variable {P : Program} {ty : TypeId} {K : Kd} {H : List Hp} {α : Type} {f : α → D}
end
end Lp
/-
  Slices with room behind them in which what stands is known.
-/
set_option linter.unusedVariables false
namespace Lp
open Go Go.RowKit
theorem rep_shr {w : World} {F : Nat → Prop} {z n : Nat} {xs : List D} {a : Value} (h : D.rep w F (.shr z n xs) a) : ∃ A c, a = .slice A n c ∧ n ≤ xs.length ∧ D.rep w F (.sh z xs) (.slice A xs.length c) ∧ xs.length ≤ c := by
  obtain ⟨A, c, e, h0, h1, h2, h3⟩ := h
  exact ⟨A, c, e, h0, ⟨A, c, rfl, h1, h2, h3⟩, h1⟩
theorem rep_take {w : World} {F : Nat → Prop} {z n : Nat} {xs : List D} {A : Option Addr} {c : Nat} (hF : ∀ b, F b → b < w.heap.size) (h0 : n ≤ xs.length) (h : D.rep w F (.sh z xs) (.slice A xs.length c)) : D.rep w F (.sh z (xs.take n)) (.slice A n c) := by
  have hl : (xs.take n).length = n := by rw [List.length_take]; omega
  obtain ⟨us, hr, hsl, hblk, hmx⟩ := D.rep_sl hF h
  have hul := hr.len
  cases xs with
  | nil =>
    have : n = 0 := by simpa using h0
    subst this
    exact ⟨A, c, rfl, Nat.zero_le _, Nat.zero_le _, fun e => absurd rfl e⟩
  | cons x r =>
    obtain ⟨b', o', c', hv', hF'⟩ := hblk (by simp)
    injection hv' with e1 _ e2
    subst e1; subst e2
    have h2 := hsl.cut 0 n (Nat.zero_le _) (by omega)
    rw [cut0 (.inr ⟨_, _, rfl⟩), List.drop_zero] at h2
    have := D.sl_rep (hr.take n) h2 (fun _ g hg => by cases hg; exact hF') (by rw [List.length_take]; omega)
    exact this
/-- an argument with room behind it, read as what it is -/
theorem ArgC.shr {L : List Hp} {z n : Nat} {xs : List D} : ArgC L (.shr z n xs) (.sh z (xs.take n)) := ⟨fun w F u hF hL hr => by
  obtain ⟨A, c, rfl, h0, h, _⟩ := rep_shr hr
  exact D.keep (Keep.wide _) _ _ (rep_take hF h0 h)⟩
section
variable {P : Program} {ty : TypeId} {K : Kd} {H : List Hp}
end
/-- lists that are read otherwise, each -/
theorem CvL.map {α : Type} {f g : α → D} (h : ∀ x, Cv (f x) (g x)) : ∀ l : List α, CvL (l.map f) (l.map g)
  | [] => .nil
  | x :: r => .cons (h x) (CvL.map h r)
end Lp
/-
  Lists that are kept: rows of the call's own, any number of them.
-/
set_option linter.unusedVariables false
namespace Lp
open Go Go.RowKit
variable {P : Program} {ty : TypeId} {K : Kd} {H : List Hp}

theorem ArgC.shs {L : List Hp} {z : Nat} {xs xs' : List D} (h : ArgCs L xs xs') : ArgC L (.sh z xs) (.sh z xs') := ⟨fun w F u hF hL hr => by
  obtain ⟨us, h1, h2, h3, h4⟩ := D.rep_sl hF hr
  refine D.sl_rep (h.repE hF hL h1) h2 (fun hn g hg => ?_) (by have := h1.len; omega)
  have hx : xs ≠ [] := by rintro rfl; cases h; exact hn rfl
  obtain ⟨b, o, c, rfl, hb⟩ := h3 hx
  simp only [Value.ownBlock] at hg
  injection hg with hg
  rw [← hg]; exact .inl hb⟩
end Lp
/-
  Numbers with a limit, and what is reckoned with them (chapters 4 and 10), as plain data.
-/
set_option linter.unusedVariables false
namespace Lp
open Go
def zax (v : Int) : Bool := decide (-1000000000000 ≤ v) && decide (v ≤ 1000000000000)
def cmpOps : List ByteArray := [⟨#[61, 61]⟩, ⟨#[33, 61]⟩, ⟨#[60]⟩, ⟨#[60, 61]⟩, ⟨#[62]⟩, ⟨#[62, 61]⟩]
def cmpB (op : ByteArray) : Bool := hasN cmpOps op
/-- how the program comes to it: rune by rune -/
def zdY (ne : Bool) (a b : Int) (out : Bool) (r : Int) : Bool :=
  if r = 60 then decide (a < b) else if r = 62 then decide (b < a) else if r = 61 ∧ ne = true then decide (a ≠ b) else if r = 61 then (out || decide (a = b)) else out
def cmpF (op : ByteArray) (a b : Int) : Bool := (zaK op).foldl (zdY (decide (op = ⟨#[33, 61]⟩)) a b) (decide (op = ⟨#[33, 61]⟩))
def za5 (v : Int) : Int × Int := if zax v = true then (v, 0) else (0, 4)
def zda (a b : Int) : Int × Int := if a ≠ 0 ∧ b ≠ 0 ∧ (1000000000000 : Int).tdiv (max b (-b)) < max a (-a) then (0, 4) else (a * b, 0)
def divE (op : ByteArray) (a b : Int) : Int × Int := if b = 0 then (0, 5) else if op = ⟨#[47]⟩ then (a.tdiv b, 0) else (a.tmod b, 0)
theorem tdiv_le (a b : Int) : (a.tdiv b).natAbs ≤ a.natAbs := by rw [Int.natAbs_tdiv]; exact Nat.div_le_self _ _
theorem times_bd {a b : Int} (h : a = 0 ∨ b = 0 ∨ ¬ (1000000000000 : Int).tdiv (max b (-b)) < max a (-a)) : -1000000000000 ≤ a * b ∧ a * b ≤ 1000000000000 := by
  rcases Int.lt_or_eq_of_le (Int.natCast_nonneg b.natAbs) with hb | hb
  · have h2 : a.natAbs * b.natAbs ≤ 1000000000000 := by
      rcases h with h | h | h
      · subst h; simp
      · subst h; simp
      · have e1 : max b (-b) = ((b.natAbs : Nat) : Int) := by omega
        have e2 : max a (-a) = ((a.natAbs : Nat) : Int) := by omega
        rw [e1, e2, Int.tdiv_eq_ediv_of_nonneg (by omega)] at h
        have e3 : (1000000000000 : Int) / ((b.natAbs : Nat) : Int) = ((1000000000000 / b.natAbs : Nat) : Int) := (Int.natCast_ediv _ _).symm
        rw [e3] at h
        exact (Nat.le_div_iff_mul_le (by omega)).1 (by omega)
    have e : (a * b).natAbs = a.natAbs * b.natAbs := Int.natAbs_mul a b
    omega
  · have hb0 : b = 0 := by omega
    subst hb0; simp
/-- what an op gives, and the error -/
def doE (op : ByteArray) (a b : Int) : Int × Int :=
  if zax a = false ∨ zax b = false then (0, 1)
  else if cmpB op = true then (if cmpF op a b = true then 1 else 0, 0)
  else if op = ⟨#[43]⟩ then za5 (a + b)
  else if op = ⟨#[45]⟩ then za5 (a - b)
  else if op = ⟨#[42]⟩ then zda a b
  else if op = ⟨#[47]⟩ ∨ op = ⟨#[37]⟩ then divE op a b
  else (0, 1)
end Lp
/- Walks, printed by a program of mine. -/
set_option linter.unusedSimpArgs false
set_option linter.unusedVariables false
namespace Lp
open Go Go.RowKit Go.Proofs

namespace HdYtfjinapgehafiaaV60
end HdYtfjinapgehafiaaV60
open HdYtfjinapgehafiaaV60

set_option maxHeartbeats 4000000 in
set_option maxRecDepth 100000 in
theorem zc4 (v : Int)  :
    CD Try.prog 33 [] [dI v] (isR (dB (zax v))) := by
  refine zL Try.func33 rfl (N := 9) rfl rfl (fun C => ?_)
  refine JD.keep [0] [(0, dI v)] rfl (zh _ _ rfl rfl rfl (zc rfl (za rfl rfl (ze rfl) (zg rfl (zf (zh _ _ rfl rfl rfl (JD.keep [0] [(0, dI v)] rfl ?_)))))))
  refine zaj 2 ((decide (((-1000000000000) : Int) ≤ v) && decide (v ≤ (1000000000000 : Int)))) [] (fun _ hQ1 => ?_) ?_
  · skip
    by_cases hg2 : ((-1000000000000) : Int) ≤ v
    · skip
      refine zc rfl (za rfl rfl (zb rfl) (za rfl rfl (zac rfl rfl (decide_eq_true hg2)) (za rfl rfl (zb rfl) (zi rfl rfl rfl rfl rfl (zb rfl) (zi rfl rfl rfl rfl rfl (zaS rfl rfl rfl) (za rfl rfl (zr rfl rfl) (za rfl rfl (ze rfl) (zg rfl ?_))))))))
      exact PD.sub ((2, dB (decide (((-1000000000000) : Int) ≤ v) && decide (v ≤ (1000000000000 : Int)))) :: [(0, dI v)]) ⟨sc rfl (Cv.eq (congrArg (fun b => D.v (.bool b)) (by first | (simp [hg2]; done) | (simp_all; done)))), sk rfl, trivial⟩ hQ1
    · skip
      refine zc rfl (za rfl rfl (zb rfl) (za rfl rfl (zac rfl rfl (decide_eq_false hg2)) (za rfl rfl (zb rfl) (zj rfl rfl rfl rfl rfl (by decide) (zj rfl rfl rfl rfl rfl (by decide) (za rfl rfl (zm rfl rfl) (za rfl rfl (ze rfl) (zg rfl ?_))))))))
      exact PD.sub ((2, dB (decide (((-1000000000000) : Int) ≤ v) && decide (v ≤ (1000000000000 : Int)))) :: [(0, dI v)]) ⟨sc rfl (Cv.eq (congrArg (fun b => D.v (.bool b)) (by first | (simp [hg2]; done) | (simp_all; done)))), sk rfl, trivial⟩ hQ1
  · skip
    refine zf (zB rfl ?_)
    exact zx Try.results33 (.cons (zM (zs rfl) (Cv.eq (congrArg (fun b => D.v (.bool b)) (by unfold zax; first | rfl | simp)))) .nil) rfl HSub.none ⟨rfl, rfl⟩

set_option maxHeartbeats 4000000 in
set_option maxRecDepth 100000 in
theorem within_c (v : Int)  :
    CD Try.prog 41 [] [dI v] (isR (.tup [dI ((za5 v).1), dI ((za5 v).2)])) := by
  refine zL Try.func41 rfl (N := 8) rfl rfl (fun C => ?_)
  refine JD.keep [0] [(0, dI v)] rfl (zh _ _ rfl rfl rfl (zc rfl (za rfl rfl (ze rfl) (za rfl rfl (ze rfl) (zg rfl (zf (zh _ _ rfl rfl rfl (zh _ _ rfl rfl rfl (zc rfl (za rfl rfl (zb rfl) (zl rfl rfl (zt [] _ [] rfl rfl (.cons ArgC.id .nil) zo Try.call33 (zc4 v) (.inl rfl)) ?_)))))))))))
  rintro _ _ ⟨_, ⟨rfl, rfl⟩, rfl⟩
  refine OpsD.norm [] rfl (za rfl rfl (zag rfl) (zg rfl (zf ?_)))
  refine zu _ _ rfl rfl rfl rfl (fun hc1 => ?_) (fun hc1 => ?_)
  · simp only [Bool.and_eq_true, Bool.or_eq_true, Bool.not_eq_true', Bool.not_eq_false', Bool.and_eq_false_iff, Bool.or_eq_false_iff, decide_eq_true_eq, decide_eq_false_iff_not, Decidable.not_not, ne_eq] at hc1
    refine zh _ _ rfl rfl rfl (zc rfl (za rfl rfl (ze rfl) (za rfl rfl (ze rfl) (zg rfl (zf (zB rfl (zp ?_)))))))
    exact zx Try.results41 (.cons (zM (zs rfl) (Cv.eq (congrArg (fun n => D.v (.int .i64 n)) (by unfold za5; simp [hc1])))) (.cons (zM (zs rfl) (Cv.eq (congrArg (fun n => D.v (.int .i64 n)) (by unfold za5; simp [hc1])))) .nil)) rfl HSub.none ⟨rfl, rfl⟩
  · simp only [Bool.and_eq_true, Bool.or_eq_true, Bool.not_eq_true', Bool.not_eq_false', Bool.and_eq_false_iff, Bool.or_eq_false_iff, decide_eq_true_eq, decide_eq_false_iff_not, Decidable.not_not, ne_eq] at hc1
    refine zz rfl (zf (zh _ _ rfl rfl rfl (zc rfl (za rfl rfl (zb rfl) (za rfl rfl (ze rfl) (za rfl rfl (ze rfl) (zg rfl (zf (zB rfl ?_)))))))))
    exact zx Try.results41 (.cons (zM (zs rfl) (Cv.eq (congrArg (fun n => D.v (.int .i64 n)) (by unfold za5; simp [hc1])))) (.cons (zM (zs rfl) (Cv.eq (congrArg (fun n => D.v (.int .i64 n)) (by unfold za5; simp [hc1])))) .nil)) rfl HSub.none ⟨rfl, rfl⟩

set_option maxHeartbeats 4000000 in
set_option maxRecDepth 100000 in
theorem truth_c (b : Bool)  :
    CD Try.prog 58 [] [dB b] (isR (.tup [dI (if b = true then 1 else 0), dI 0])) := by
  refine zL Try.func58 rfl (N := 5) rfl rfl (fun C => ?_)
  refine JD.keep [0] [(0, dB b)] rfl (zh _ _ rfl rfl rfl (zc rfl (za rfl rfl (ze rfl) (za rfl rfl (ze rfl) (zg rfl (zf (zh _ _ rfl rfl rfl (zh _ _ rfl rfl rfl (zc rfl (za rfl rfl (zb rfl) (zg rfl (zf ?_))))))))))))
  refine zu _ _ rfl rfl rfl rfl (fun hc1 => ?_) (fun hc1 => ?_)
  · skip
    refine zh _ _ rfl rfl rfl (zc rfl (za rfl rfl (ze rfl) (za rfl rfl (ze rfl) (zg rfl (zf (zB rfl (zp ?_)))))))
    exact zx Try.results58 (.cons (zM (zs rfl) (Cv.eq (congrArg (fun n => D.v (.int .i64 n)) (by simp [hc1])))) (.cons (zs rfl) .nil)) rfl HSub.none ⟨rfl, rfl⟩
  · skip
    refine zz rfl (zf (zh _ _ rfl rfl rfl (zc rfl (za rfl rfl (ze rfl) (za rfl rfl (ze rfl) (zg rfl (zf (zB rfl ?_))))))))
    exact zx Try.results58 (.cons (zM (zs rfl) (Cv.eq (congrArg (fun n => D.v (.int .i64 n)) (by simp [hc1])))) (.cons (zs rfl) .nil)) rfl HSub.none ⟨rfl, rfl⟩

set_option maxHeartbeats 4000000 in
set_option maxRecDepth 100000 in
theorem compare_c (op : ByteArray) (a b : Int)  :
    CD Try.prog 40 [] [.s op, dI a, dI b] (isR (.tup [dI (if cmpF op a b = true then 1 else 0), dI 0])) := by
  refine zL Try.func40 rfl (N := 53) rfl rfl (fun C => ?_)
  refine JD.keep [0, 1, 2] [(0, .s op), (1, dI a), (2, dI b)] rfl ?_
  refine JD.bd 0 rfl (fun bd0 => ?_)
  have sz0 : op.size ≤ 9223372036854775807 := bd0
  refine zh _ _ rfl rfl rfl (zc rfl (za rfl rfl (ze rfl) (za rfl rfl (ze rfl) (zg rfl (zf (zh _ _ rfl rfl rfl (zc rfl (za rfl rfl (zb rfl) (za rfl rfl (zbW rfl rfl rfl) (za rfl rfl (ze rfl) (zg rfl (zf (zh _ _ rfl rfl rfl (zh _ _ rfl rfl rfl (zc rfl (za rfl rfl (zb rfl) (zl rfl rfl (ef_range rfl Try.runUnderlying9) ?_)))))))))))))))))
  rintro _ _ ⟨g1, rfl, rfl⟩
  refine zg rfl (zf (zy _ rfl rfl (z7 (fun (g : Nat × Bool) => [(0, .s op), (1, dI a), (2, dI b), (6, dI 0), (7, dI 0), (14, dP g1 0), (8, dB g.2)]) (fun (g : Nat × Bool) => [.it g1 op g.1]) (fun (g : Nat × Bool) => (g.1 ≤ op.size) ∧ (cmpF op a b = (zbz op g.1).foldl (zdY (decide (op = (⟨#[33, 61]⟩ : ByteArray))) a b) g.2)) (fun (g : Nat × Bool) => op.size - g.1) _ (0, (decide (op = (⟨#[33, 61]⟩ : ByteArray)))) rfl rfl ⟨sk rfl, sk rfl, sk rfl, sk rfl, sk rfl, sk rfl, sc rfl (Cv.rfl'), trivial⟩ HSub.rfl' ⟨Nat.zero_le _, rfl⟩ ?_)))
  rintro ⟨p, o⟩ ⟨hp, hf⟩
  replace hp : p ≤ op.size := hp
  replace hf : cmpF op a b = (zbz op p).foldl (zdY (decide (op = (⟨#[33, 61]⟩ : ByteArray))) a b) o := hf
  refine JD.keep [0, 1, 2, 6, 7, 14, 8] [(0, .s op), (1, dI a), (2, dI b), (6, dI 0), (7, dI 0), (14, dP g1 0), (8, dB o)] rfl (JD.norm [.it g1 op p] rfl ?_)
  rcases Nat.lt_or_ge p op.size with hlt | hge
  · skip
    have hrune := zb9 hlt
    have hrl := zdO op p
    have hdw := zbs op p hlt
    have hdp := zaw op p
    refine zh _ _ rfl rfl rfl (zc rfl (zl rfl rfl (ef_next_t (i := 0) rfl rfl hlt) ?_))
    rintro _ _ ⟨rfl, rfl⟩
    refine OpsD.norm [.it g1 op (p + decW op p)] rfl (za rfl rfl (zF rfl rfl) (zg rfl (zf (zh _ _ rfl rfl rfl (zau _ rfl rfl rfl (zz rfl (zf (zy _ rfl rfl (zh _ _ rfl rfl rfl (zc rfl (za rfl rfl (zF rfl rfl) (za rfl rfl (ze rfl) (zg rfl (zf (zy _ rfl rfl (zh _ _ rfl rfl rfl (zc rfl (za rfl rfl (zb rfl) (za rfl rfl (zY rfl rfl rfl) (za rfl rfl (ze rfl) (zg rfl (zf ?_))))))))))))))))))))))
    refine zu _ _ rfl rfl rfl rfl (fun hc2 => ?_) (fun hc2 => ?_)
    · replace hc2 := of_decide_eq_true hc2
      refine zc rfl (za rfl rfl (zb rfl) (za rfl rfl (zb rfl) (za rfl rfl (zaa rfl rfl rfl) (za rfl rfl (ze rfl) (zg rfl (zD (zD ?_)))))))
      exact zS (p + decW op p, decide (a < b)) ⟨sk rfl, sk rfl, sk rfl, sk rfl, sk rfl, sk rfl, sk rfl, trivial⟩ HSub.rfl' ⟨by have := zbs op p hlt; omega, by rw [hf, hrune, List.foldl_cons]; congr 1; unfold zdY; first | (simp_all; done) | (simp [*]; done) | (obtain ⟨e1, e2⟩ := hc2; subst e2; simp_all; done)⟩ (by have := zaw op p; omega)
    · replace hc2 := of_decide_eq_false hc2
      refine zh _ _ rfl rfl rfl (zc rfl (za rfl rfl (zb rfl) (za rfl rfl (zY rfl rfl rfl) (za rfl rfl (ze rfl) (zg rfl (zf ?_))))))
      refine zu _ _ rfl rfl rfl rfl (fun hc3 => ?_) (fun hc3 => ?_)
      · replace hc3 := of_decide_eq_true hc3
        refine zc rfl (za rfl rfl (zb rfl) (za rfl rfl (zb rfl) (za rfl rfl (zaM rfl rfl rfl) (za rfl rfl (ze rfl) (zg rfl (zD (zD ?_)))))))
        exact zS (p + decW op p, decide (b < a)) ⟨sk rfl, sk rfl, sk rfl, sk rfl, sk rfl, sk rfl, sk rfl, trivial⟩ HSub.rfl' ⟨by have := zbs op p hlt; omega, by rw [hf, hrune, List.foldl_cons]; congr 1; unfold zdY; first | (simp_all; done) | (simp [*]; done) | (obtain ⟨e1, e2⟩ := hc3; subst e2; simp_all; done)⟩ (by have := zaw op p; omega)
      · replace hc3 := of_decide_eq_false hc3
        refine zh _ _ rfl rfl rfl (JD.keep [0, 1, 2, 6, 7, 8, 10, 14, 15, 16, 17, 18, 19, 20, 24, 25, 26] [(0, .s op), (1, dI a), (2, dI b), (6, dI 0), (7, dI 0), (8, dB o), (10, .v (.int .i32 ((decR op p : Nat) : Int))), (14, dP g1 0), (15, .tup [dB true, dN p, .v (.int .i32 ((decR op p : Nat) : Int))]), (16, dB true), (17, .v (.int .i32 ((decR op p : Nat) : Int))), (18, dB (decide (((decR op p : Nat) : Int) = (60 : Int)))), (19, .v (.int .i32 ((decR op p : Nat) : Int))), (20, dB (decide (((decR op p : Nat) : Int) = (60 : Int)))), (24, dB (decide (((decR op p : Nat) : Int) = (62 : Int)))), (25, .v (.int .i32 ((decR op p : Nat) : Int))), (26, dB (decide (((decR op p : Nat) : Int) = (62 : Int))))] rfl ?_)
        refine zaj 30 ((decide (((decR op p : Nat) : Int) = (61 : Int)) && decide (op = (⟨#[33, 61]⟩ : ByteArray)))) [.it g1 op (p + decW op p)] (fun _ hQ4 => ?_) ?_
        · skip
          by_cases hg5 : ((decR op p : Nat) : Int) = (61 : Int)
          · skip
            refine zc rfl (za rfl rfl (zb rfl) (za rfl rfl (zY rfl rfl (decide_eq_true hg5)) (za rfl rfl (zb rfl) (zi rfl rfl rfl rfl rfl (zb rfl) (zi rfl rfl rfl rfl rfl (zbW rfl rfl rfl) (za rfl rfl (zr rfl rfl) (za rfl rfl (ze rfl) (zg rfl ?_))))))))
            exact PD.sub ((30, dB (decide (((decR op p : Nat) : Int) = (61 : Int)) && decide (op = (⟨#[33, 61]⟩ : ByteArray)))) :: [(0, .s op), (1, dI a), (2, dI b), (6, dI 0), (7, dI 0), (8, dB o), (10, .v (.int .i32 ((decR op p : Nat) : Int))), (14, dP g1 0), (15, .tup [dB true, dN p, .v (.int .i32 ((decR op p : Nat) : Int))]), (16, dB true), (17, .v (.int .i32 ((decR op p : Nat) : Int))), (18, dB (decide (((decR op p : Nat) : Int) = (60 : Int)))), (19, .v (.int .i32 ((decR op p : Nat) : Int))), (20, dB (decide (((decR op p : Nat) : Int) = (60 : Int)))), (24, dB (decide (((decR op p : Nat) : Int) = (62 : Int)))), (25, .v (.int .i32 ((decR op p : Nat) : Int))), (26, dB (decide (((decR op p : Nat) : Int) = (62 : Int))))]) ⟨sc rfl (Cv.eq (congrArg (fun b => D.v (.bool b)) (by first | (simp [hc2, hc3, hg5]; done) | (simp_all; done)))), sk rfl, sk rfl, sk rfl, sk rfl, sk rfl, sk rfl, sk rfl, sk rfl, sk rfl, sk rfl, sk rfl, sk rfl, sk rfl, sk rfl, sk rfl, sk rfl, sk rfl, trivial⟩ hQ4
          · skip
            refine zc rfl (za rfl rfl (zb rfl) (za rfl rfl (zY rfl rfl (decide_eq_false hg5)) (za rfl rfl (zb rfl) (zj rfl rfl rfl rfl rfl (by decide) (zj rfl rfl rfl rfl rfl (by decide) (za rfl rfl (zm rfl rfl) (za rfl rfl (ze rfl) (zg rfl ?_))))))))
            exact PD.sub ((30, dB (decide (((decR op p : Nat) : Int) = (61 : Int)) && decide (op = (⟨#[33, 61]⟩ : ByteArray)))) :: [(0, .s op), (1, dI a), (2, dI b), (6, dI 0), (7, dI 0), (8, dB o), (10, .v (.int .i32 ((decR op p : Nat) : Int))), (14, dP g1 0), (15, .tup [dB true, dN p, .v (.int .i32 ((decR op p : Nat) : Int))]), (16, dB true), (17, .v (.int .i32 ((decR op p : Nat) : Int))), (18, dB (decide (((decR op p : Nat) : Int) = (60 : Int)))), (19, .v (.int .i32 ((decR op p : Nat) : Int))), (20, dB (decide (((decR op p : Nat) : Int) = (60 : Int)))), (24, dB (decide (((decR op p : Nat) : Int) = (62 : Int)))), (25, .v (.int .i32 ((decR op p : Nat) : Int))), (26, dB (decide (((decR op p : Nat) : Int) = (62 : Int))))]) ⟨sc rfl (Cv.eq (congrArg (fun b => D.v (.bool b)) (by first | (simp [hc2, hc3, hg5]; done) | (simp_all; done)))), sk rfl, sk rfl, sk rfl, sk rfl, sk rfl, sk rfl, sk rfl, sk rfl, sk rfl, sk rfl, sk rfl, sk rfl, sk rfl, sk rfl, sk rfl, sk rfl, sk rfl, trivial⟩ hQ4
        · skip
          refine zf ?_
          refine zu _ _ rfl rfl rfl rfl (fun hc6 => ?_) (fun hc6 => ?_)
          · simp only [Bool.and_eq_true, Bool.or_eq_true, Bool.not_eq_true', Bool.not_eq_false', Bool.and_eq_false_iff, Bool.or_eq_false_iff, decide_eq_true_eq, decide_eq_false_iff_not, Decidable.not_not, ne_eq] at hc6
            refine zc rfl (za rfl rfl (zb rfl) (za rfl rfl (zb rfl) (za rfl rfl (zbh rfl rfl rfl) (za rfl rfl (ze rfl) (zg rfl (zD (zD ?_)))))))
            exact zS (p + decW op p, decide (a ≠ b)) ⟨sk rfl, sk rfl, sk rfl, sk rfl, sk rfl, sk rfl, sk rfl, trivial⟩ HSub.rfl' ⟨by have := zbs op p hlt; omega, by rw [hf, hrune, List.foldl_cons]; congr 1; unfold zdY; first | (simp_all; done) | (simp [*]; done) | (obtain ⟨e1, e2⟩ := hc6; subst e2; simp_all; done)⟩ (by have := zaw op p; omega)
          · simp only [Bool.and_eq_true, Bool.or_eq_true, Bool.not_eq_true', Bool.not_eq_false', Bool.and_eq_false_iff, Bool.or_eq_false_iff, decide_eq_true_eq, decide_eq_false_iff_not, Decidable.not_not, ne_eq] at hc6
            refine zh _ _ rfl rfl rfl (zc rfl (za rfl rfl (zb rfl) (za rfl rfl (zY rfl rfl rfl) (za rfl rfl (ze rfl) (zg rfl (zf ?_))))))
            refine zu _ _ rfl rfl rfl rfl (fun hc7 => ?_) (fun hc7 => ?_)
            · replace hc7 := of_decide_eq_true hc7
              refine JD.keep [0, 1, 2, 6, 7, 10, 14, 15, 16, 17, 18, 19, 20, 24, 25, 26, 30, 40, 41, 42, 8] [(0, .s op), (1, dI a), (2, dI b), (6, dI 0), (7, dI 0), (10, .v (.int .i32 ((decR op p : Nat) : Int))), (14, dP g1 0), (15, .tup [dB true, dN p, .v (.int .i32 ((decR op p : Nat) : Int))]), (16, dB true), (17, .v (.int .i32 ((decR op p : Nat) : Int))), (18, dB (decide (((decR op p : Nat) : Int) = (60 : Int)))), (19, .v (.int .i32 ((decR op p : Nat) : Int))), (20, dB (decide (((decR op p : Nat) : Int) = (60 : Int)))), (24, dB (decide (((decR op p : Nat) : Int) = (62 : Int)))), (25, .v (.int .i32 ((decR op p : Nat) : Int))), (26, dB (decide (((decR op p : Nat) : Int) = (62 : Int)))), (30, dB (decide (((decR op p : Nat) : Int) = (61 : Int)) && decide (op = (⟨#[33, 61]⟩ : ByteArray)))), (40, dB (decide (((decR op p : Nat) : Int) = (61 : Int)))), (41, .v (.int .i32 ((decR op p : Nat) : Int))), (42, dB (decide (((decR op p : Nat) : Int) = (61 : Int)))), (8, dB o)] rfl ?_
              refine jd_cut ((8, dB (o || decide (a = b))) :: [(0, .s op), (1, dI a), (2, dI b), (6, dI 0), (7, dI 0), (10, .v (.int .i32 ((decR op p : Nat) : Int))), (14, dP g1 0), (15, .tup [dB true, dN p, .v (.int .i32 ((decR op p : Nat) : Int))]), (16, dB true), (17, .v (.int .i32 ((decR op p : Nat) : Int))), (18, dB (decide (((decR op p : Nat) : Int) = (60 : Int)))), (19, .v (.int .i32 ((decR op p : Nat) : Int))), (20, dB (decide (((decR op p : Nat) : Int) = (60 : Int)))), (24, dB (decide (((decR op p : Nat) : Int) = (62 : Int)))), (25, .v (.int .i32 ((decR op p : Nat) : Int))), (26, dB (decide (((decR op p : Nat) : Int) = (62 : Int)))), (30, dB (decide (((decR op p : Nat) : Int) = (61 : Int)) && decide (op = (⟨#[33, 61]⟩ : ByteArray)))), (40, dB (decide (((decR op p : Nat) : Int) = (61 : Int)))), (41, .v (.int .i32 ((decR op p : Nat) : Int))), (42, dB (decide (((decR op p : Nat) : Int) = (61 : Int))))]) [.it g1 op (p + decW op p)] (fun _ hQ8 => ?_) ?_
              · skip
                rcases Bool.eq_false_or_eq_true (o) with hg9 | hg9
                · skip
                  refine JD.sub [(0, .s op), (1, dI a), (2, dI b), (6, dI 0), (7, dI 0), (8, dB true), (10, .v (.int .i32 ((decR op p : Nat) : Int))), (14, dP g1 0), (15, .tup [dB true, dN p, .v (.int .i32 ((decR op p : Nat) : Int))]), (16, dB true), (17, .v (.int .i32 ((decR op p : Nat) : Int))), (18, dB (decide (((decR op p : Nat) : Int) = (60 : Int)))), (19, .v (.int .i32 ((decR op p : Nat) : Int))), (20, dB (decide (((decR op p : Nat) : Int) = (60 : Int)))), (24, dB (decide (((decR op p : Nat) : Int) = (62 : Int)))), (25, .v (.int .i32 ((decR op p : Nat) : Int))), (26, dB (decide (((decR op p : Nat) : Int) = (62 : Int)))), (30, dB (decide (((decR op p : Nat) : Int) = (61 : Int)) && decide (op = (⟨#[33, 61]⟩ : ByteArray)))), (40, dB (decide (((decR op p : Nat) : Int) = (61 : Int)))), (41, .v (.int .i32 ((decR op p : Nat) : Int))), (42, dB (decide (((decR op p : Nat) : Int) = (61 : Int))))] ⟨sk rfl, sk rfl, sk rfl, sk rfl, sk rfl, se rfl (congrArg (fun b => D.v (.bool b)) (by simp [hg9])), sk rfl, sk rfl, sk rfl, sk rfl, sk rfl, sk rfl, sk rfl, sk rfl, sk rfl, sk rfl, sk rfl, sk rfl, sk rfl, sk rfl, sk rfl, trivial⟩ (zc rfl (za rfl rfl (zb rfl) (za rfl rfl (zb rfl) (zj rfl rfl rfl rfl rfl (by decide) ?_))))
                  refine zj rfl rfl rfl rfl rfl (by decide) (zj rfl rfl rfl rfl rfl (by decide) (za rfl rfl (zr rfl rfl) (za rfl rfl (ze rfl) (zg rfl ?_))))
                  exact PD.sub ((8, dB (o || decide (a = b))) :: [(0, .s op), (1, dI a), (2, dI b), (6, dI 0), (7, dI 0), (10, .v (.int .i32 ((decR op p : Nat) : Int))), (14, dP g1 0), (15, .tup [dB true, dN p, .v (.int .i32 ((decR op p : Nat) : Int))]), (16, dB true), (17, .v (.int .i32 ((decR op p : Nat) : Int))), (18, dB (decide (((decR op p : Nat) : Int) = (60 : Int)))), (19, .v (.int .i32 ((decR op p : Nat) : Int))), (20, dB (decide (((decR op p : Nat) : Int) = (60 : Int)))), (24, dB (decide (((decR op p : Nat) : Int) = (62 : Int)))), (25, .v (.int .i32 ((decR op p : Nat) : Int))), (26, dB (decide (((decR op p : Nat) : Int) = (62 : Int)))), (30, dB (decide (((decR op p : Nat) : Int) = (61 : Int)) && decide (op = (⟨#[33, 61]⟩ : ByteArray)))), (40, dB (decide (((decR op p : Nat) : Int) = (61 : Int)))), (41, .v (.int .i32 ((decR op p : Nat) : Int))), (42, dB (decide (((decR op p : Nat) : Int) = (61 : Int))))]) ⟨sc rfl (Cv.eq (congrArg (fun b => D.v (.bool b)) (by first | (simp [hc2, hc3, hc7, hg9]; done) | (simp_all; done)))), sk rfl, sk rfl, sk rfl, sk rfl, sk rfl, sk rfl, sk rfl, sk rfl, sk rfl, sk rfl, sk rfl, sk rfl, sk rfl, sk rfl, sk rfl, sk rfl, sk rfl, sk rfl, sk rfl, sk rfl, trivial⟩ hQ8
                · skip
                  refine JD.sub [(0, .s op), (1, dI a), (2, dI b), (6, dI 0), (7, dI 0), (8, dB false), (10, .v (.int .i32 ((decR op p : Nat) : Int))), (14, dP g1 0), (15, .tup [dB true, dN p, .v (.int .i32 ((decR op p : Nat) : Int))]), (16, dB true), (17, .v (.int .i32 ((decR op p : Nat) : Int))), (18, dB (decide (((decR op p : Nat) : Int) = (60 : Int)))), (19, .v (.int .i32 ((decR op p : Nat) : Int))), (20, dB (decide (((decR op p : Nat) : Int) = (60 : Int)))), (24, dB (decide (((decR op p : Nat) : Int) = (62 : Int)))), (25, .v (.int .i32 ((decR op p : Nat) : Int))), (26, dB (decide (((decR op p : Nat) : Int) = (62 : Int)))), (30, dB (decide (((decR op p : Nat) : Int) = (61 : Int)) && decide (op = (⟨#[33, 61]⟩ : ByteArray)))), (40, dB (decide (((decR op p : Nat) : Int) = (61 : Int)))), (41, .v (.int .i32 ((decR op p : Nat) : Int))), (42, dB (decide (((decR op p : Nat) : Int) = (61 : Int))))] ⟨sk rfl, sk rfl, sk rfl, sk rfl, sk rfl, se rfl (congrArg (fun b => D.v (.bool b)) (by simp [hg9])), sk rfl, sk rfl, sk rfl, sk rfl, sk rfl, sk rfl, sk rfl, sk rfl, sk rfl, sk rfl, sk rfl, sk rfl, sk rfl, sk rfl, sk rfl, trivial⟩ (zc rfl (za rfl rfl (zb rfl) (za rfl rfl (zb rfl) (zi rfl rfl rfl rfl rfl (zb rfl) ?_))))
                  refine zi rfl rfl rfl rfl rfl (zb rfl) (zi rfl rfl rfl rfl rfl (zY rfl rfl rfl) (za rfl rfl (zm rfl rfl) (za rfl rfl (ze rfl) (zg rfl ?_))))
                  exact PD.sub ((8, dB (o || decide (a = b))) :: [(0, .s op), (1, dI a), (2, dI b), (6, dI 0), (7, dI 0), (10, .v (.int .i32 ((decR op p : Nat) : Int))), (14, dP g1 0), (15, .tup [dB true, dN p, .v (.int .i32 ((decR op p : Nat) : Int))]), (16, dB true), (17, .v (.int .i32 ((decR op p : Nat) : Int))), (18, dB (decide (((decR op p : Nat) : Int) = (60 : Int)))), (19, .v (.int .i32 ((decR op p : Nat) : Int))), (20, dB (decide (((decR op p : Nat) : Int) = (60 : Int)))), (24, dB (decide (((decR op p : Nat) : Int) = (62 : Int)))), (25, .v (.int .i32 ((decR op p : Nat) : Int))), (26, dB (decide (((decR op p : Nat) : Int) = (62 : Int)))), (30, dB (decide (((decR op p : Nat) : Int) = (61 : Int)) && decide (op = (⟨#[33, 61]⟩ : ByteArray)))), (40, dB (decide (((decR op p : Nat) : Int) = (61 : Int)))), (41, .v (.int .i32 ((decR op p : Nat) : Int))), (42, dB (decide (((decR op p : Nat) : Int) = (61 : Int))))]) ⟨sc rfl (Cv.eq (congrArg (fun b => D.v (.bool b)) (by first | (simp [hc2, hc3, hc7, hg9]; done) | (simp_all; done)))), sk rfl, sk rfl, sk rfl, sk rfl, sk rfl, sk rfl, sk rfl, sk rfl, sk rfl, sk rfl, sk rfl, sk rfl, sk rfl, sk rfl, sk rfl, sk rfl, sk rfl, sk rfl, sk rfl, sk rfl, trivial⟩ hQ8
              · skip
                refine zD (zD ?_)
                exact zS (p + decW op p, (o || decide (a = b))) ⟨sk rfl, sk rfl, sk rfl, sk rfl, sk rfl, sk rfl, sk rfl, trivial⟩ HSub.rfl' ⟨by have := zbs op p hlt; omega, by rw [hf, hrune, List.foldl_cons]; congr 1; unfold zdY; first | (simp_all; done) | (simp [*]; done) | (obtain ⟨e1, e2⟩ := hc7; subst e2; simp_all; done)⟩ (by have := zaw op p; omega)
            · replace hc7 := of_decide_eq_false hc7
              refine zz rfl (zD (zD ?_))
              exact zS (p + decW op p, o) ⟨sk rfl, sk rfl, sk rfl, sk rfl, sk rfl, sk rfl, sk rfl, trivial⟩ HSub.rfl' ⟨by have := zbs op p hlt; omega, by rw [hf, hrune, List.foldl_cons]; congr 1; unfold zdY; first | (simp_all; done) | (simp [*]; done) | (obtain ⟨e1, e2⟩ := hc7; subst e2; simp_all; done)⟩ (by have := zaw op p; omega)
  · skip
    have hrune := zcD hge
    refine zh _ _ rfl rfl rfl (zc rfl (za rfl rfl (p_next_f (i := 0) rfl rfl hge) (za rfl rfl (zF rfl rfl) (zg rfl (zf (zh _ _ rfl rfl rfl (zaC _ rfl rfl rfl (z3 rfl (zK (zI (zE (zf (zh _ _ rfl rfl rfl (zc rfl (za rfl rfl (zb rfl) (zl rfl rfl (zt [] _ [] rfl rfl (.cons ArgC.id .nil) zo Try.call58 (truth_c o) (.inl rfl)) ?_))))))))))))))))
    rintro _ _ ⟨_, ⟨rfl, rfl⟩, rfl⟩
    refine OpsD.norm [.it g1 op p] rfl (za rfl rfl (zF rfl rfl) (za rfl rfl (zF rfl rfl) (za rfl rfl (ze rfl) (za rfl rfl (ze rfl) (zg rfl (zf (JD.keep [6, 7] [(6, dI (if o = true then 1 else 0)), (7, dI 0)] rfl (zB rfl ?_))))))))
    exact zx Try.results40 (.cons (zM (zs rfl) (Cv.eq (congrArg (fun n => D.v (.int .i64 n)) (by rw [hf, hrune]; rfl)))) (.cons (zs rfl) .nil)) rfl HSub.none ⟨rfl, rfl⟩

set_option maxHeartbeats 4000000 in
set_option maxRecDepth 100000 in
theorem indexS_c (ns : List ByteArray) (n : ByteArray)  :
    CD Try.prog 59 [] [.sh 1 (ns.map D.s), .s n] (isR (dI (idxN n 0 ns))) := by
  refine zL Try.func59 rfl (N := 19) rfl rfl (fun C => ?_)
  refine JD.keep [0, 1] [(0, .sh 1 (ns.map D.s)), (1, .s n)] rfl ?_
  refine JD.bd 0 rfl (fun bd0 => ?_)
  have nl0 := zae bd0
  refine JD.bd 1 rfl (fun bd1 => ?_)
  have sz1 : n.size ≤ 9223372036854775807 := bd1
  refine zh _ _ rfl rfl rfl (zc rfl (za rfl rfl (ze rfl) (zg rfl (zf (zh _ _ rfl rfl rfl (zh _ _ rfl rfl rfl (zc rfl (za rfl rfl (zb rfl) (za rfl rfl (zar (n := ns.length) rfl Try.runUnderlying23 (by simp only [lm, lc, ln])) (za rfl rfl (zb rfl) (zg rfl (zf (zy _ rfl rfl (z7 (fun (g : Nat) => [(0, .sh 1 (ns.map D.s)), (1, .s n), (7, dN ns.length), (8, dN g)]) (fun (g : Nat) => []) (fun (g : Nat) => (idxN n 0 ns = idxN n g (ns.drop g))) (fun (g : Nat) => ns.length - g) _ 0 rfl rfl ⟨sk rfl, sk rfl, sk rfl, sk rfl, trivial⟩ HSub.rfl' rfl ?_))))))))))))))
  rintro k hf
  refine JD.keep [0, 1, 7, 8] [(0, .sh 1 (ns.map D.s)), (1, .s n), (7, dN ns.length), (8, dN k)] rfl (JD.norm [] rfl (zh _ _ rfl rfl rfl (zc rfl (za rfl rfl (zaa rfl rfl rfl) (zg rfl (zf (zh _ _ rfl rfl rfl ?_)))))))
  refine zu _ _ rfl rfl rfl rfl (fun hc1 => ?_) (fun hc1 => ?_)
  · replace hc1 := of_decide_eq_true hc1
    refine zz rfl (zf (zh _ _ rfl rfl rfl (zy _ rfl rfl (zh _ _ rfl rfl rfl (zc rfl (za rfl rfl (zb rfl) (za rfl rfl (ze rfl) (zg rfl (zf (zh _ _ rfl rfl rfl (zc rfl (za rfl rfl (zb rfl) (za rfl rfl (zb rfl) (za rfl rfl (zb rfl) ?_))))))))))))))
    obtain ⟨x1, hx1⟩ := zV ns k (by omega)
    refine za rfl rfl (zJ (k := k) rfl rfl Try.runUnderlying23 Try.sizeOf9 (by first | rfl | omega) (zw hx1)) (za rfl rfl (z0 rfl Try.isAgg9 rfl) (za rfl rfl (zbW rfl rfl rfl) (zg rfl (zf ?_))))
    refine zu _ _ rfl rfl rfl rfl (fun hc2 => ?_) (fun hc2 => ?_)
    · replace hc2 := of_decide_eq_true hc2
      refine zh _ _ rfl rfl rfl (zc rfl (za rfl rfl (zb rfl) (za rfl rfl (ze rfl) (zg rfl (zf (zB rfl (zn (zp (zZ (zn (zp ?_)))))))))))
      exact zx Try.results59 (.cons (zM (zs rfl) (Cv.eq (congrArg (fun n => D.v (.int .i64 n)) (by exact idxN_at hx1 hf hc2)))) .nil) rfl HSub.none ⟨rfl, rfl⟩
    · replace hc2 := of_decide_eq_false hc2
      refine zz rfl (zD (zf (zc rfl (za rfl rfl (z8 (c := ((k + 1 : Nat) : Int)) rfl rfl (zT (by omega) (by omega))) (za rfl rfl (zb rfl) (zg rfl ?_))))))
      exact zS (k + 1) ⟨sk rfl, sk rfl, sk rfl, sk rfl, trivial⟩ HSub.rfl' (idxN_next hx1 hf hc2) (by omega)
  · replace hc1 := of_decide_eq_false hc1
    refine z3 rfl (zK (zI (zE (zf (zh _ _ rfl rfl rfl (zc rfl (za rfl rfl (ze rfl) (zg rfl (zf (zB rfl ?_))))))))))
    exact zx Try.results59 (.cons (zM (zs rfl) (Cv.eq (congrArg (fun n => D.v (.int .i64 n)) (by exact idxN_end (by omega) hf)))) .nil) rfl HSub.none ⟨rfl, rfl⟩

set_option maxHeartbeats 4000000 in
set_option maxRecDepth 100000 in
theorem containsS_c (ns : List ByteArray) (n : ByteArray)  :
    CD Try.prog 44 [] [.sh 1 (ns.map D.s), .s n] (isR (dB (hasN ns n))) := by
  refine zL Try.func44 rfl (N := 9) rfl rfl (fun C => ?_)
  refine JD.keep [0, 1] [(0, .sh 1 (ns.map D.s)), (1, .s n)] rfl ?_
  refine JD.bd 0 rfl (fun bd0 => ?_)
  have nl0 := zae bd0
  refine JD.bd 1 rfl (fun bd1 => ?_)
  have sz1 : n.size ≤ 9223372036854775807 := bd1
  refine zh _ _ rfl rfl rfl (zc rfl (za rfl rfl (ze rfl) (zg rfl (zf (zh _ _ rfl rfl rfl (zc rfl (za rfl rfl (zb rfl) (za rfl rfl (zb rfl) (zl rfl rfl (zt [] _ [] rfl rfl (.cons ArgC.id (.cons ArgC.id .nil)) zo Try.call59 (indexS_c ns n) (.inl rfl)) ?_)))))))))
  rintro _ _ ⟨_, ⟨rfl, rfl⟩, rfl⟩
  refine OpsD.norm [] rfl (za rfl rfl (zac rfl rfl rfl) (za rfl rfl (ze rfl) (zg rfl (zf (zB rfl ?_)))))
  exact zx Try.results44 (.cons (zM (zs rfl) (Cv.eq (congrArg (fun b => D.v (.bool b)) (by exact idxN_has n ns 0)))) .nil) rfl HSub.none ⟨rfl, rfl⟩

set_option maxHeartbeats 4000000 in
set_option maxRecDepth 100000 in
theorem Compares_c (op : ByteArray)  :
    CD Try.prog 29 [] [.s op] (isR (dB (cmpB op))) := by
  refine zL Try.func29 rfl (N := 6) rfl rfl (fun C => ?_)
  refine JD.keep [0] [(0, .s op)] rfl ?_
  refine JD.bd 0 rfl (fun bd0 => ?_)
  have sz0 : op.size ≤ 9223372036854775807 := bd0
  refine zh _ _ rfl rfl rfl (zc rfl (za rfl rfl (ze rfl) (zg rfl (zf (zh _ _ rfl rfl rfl (zc rfl (zl rfl rfl (Qu.ef (d := .sh 1 ([(⟨#[61, 61]⟩ : ByteArray), (⟨#[33, 61]⟩ : ByteArray), (⟨#[60]⟩ : ByteArray), (⟨#[60, 61]⟩ : ByteArray), (⟨#[62]⟩ : ByteArray), (⟨#[62, 61]⟩ : ByteArray)].map D.s)) ((zaY [.const (.string (⟨#[61, 61]⟩ : ByteArray)), .const (.string (⟨#[33, 61]⟩ : ByteArray)), .const (.string (⟨#[60]⟩ : ByteArray)), .const (.string (⟨#[60, 61]⟩ : ByteArray)), .const (.string (⟨#[62]⟩ : ByteArray)), .const (.string (⟨#[62, 61]⟩ : ByteArray))] rfl rfl (.cons (CellD.v rfl) (.cons (CellD.v rfl) (.cons (CellD.v rfl) (.cons (CellD.v rfl) (.cons (CellD.v rfl) (.cons (CellD.v rfl) .nil)))))) rfl Try.runUnderlying23 Try.sizeOf9 Try.zeroValue9 rfl rfl rfl rfl).cv (Cv.shs (.cons (Cv.str (by first | decide | (unfold maxLen; omega))) (.cons (Cv.str (by first | decide | (unfold maxLen; omega))) (.cons (Cv.str (by first | decide | (unfold maxLen; omega))) (.cons (Cv.str (by first | decide | (unfold maxLen; omega))) (.cons (Cv.str (by first | decide | (unfold maxLen; omega))) (.cons (Cv.str (by first | decide | (unfold maxLen; omega))) .nil))))))))) ?_)))))))
  rintro _ _ ⟨rfl, rfl⟩
  refine za rfl rfl (zb rfl) (zl rfl rfl (zt [] _ [] rfl rfl (.cons ArgC.id (.cons ArgC.id .nil)) zo Try.call44 (containsS_c [(⟨#[61, 61]⟩ : ByteArray), (⟨#[33, 61]⟩ : ByteArray), (⟨#[60]⟩ : ByteArray), (⟨#[60, 61]⟩ : ByteArray), (⟨#[62]⟩ : ByteArray), (⟨#[62, 61]⟩ : ByteArray)] op) (.inl rfl)) ?_)
  rintro _ _ ⟨_, ⟨rfl, rfl⟩, rfl⟩
  refine OpsD.norm [] rfl (za rfl rfl (ze rfl) (zg rfl (zf (zB rfl ?_))))
  exact zx Try.results29 (.cons (zM (zs rfl) (Cv.eq (congrArg (fun b => D.v (.bool b)) (by rfl)))) .nil) rfl HSub.none ⟨rfl, rfl⟩

set_option maxHeartbeats 4000000 in
set_option maxRecDepth 100000 in
theorem divides_c (op : ByteArray) (a b : Int) (ha : -1000000000000 ≤ a ∧ a ≤ 1000000000000) :
    CD Try.prog 43 [] [.s op, dI a, dI b] (isR (.tup [dI ((divE op a b).1), dI ((divE op a b).2)])) := by
  refine zL Try.func43 rfl (N := 20) rfl rfl (fun C => ?_)
  refine JD.keep [0, 1, 2] [(0, .s op), (1, dI a), (2, dI b)] rfl ?_
  refine JD.bd 0 rfl (fun bd0 => ?_)
  have sz0 : op.size ≤ 9223372036854775807 := bd0
  refine zh _ _ rfl rfl rfl (zc rfl (za rfl rfl (ze rfl) (za rfl rfl (ze rfl) (zg rfl (zf (zh _ _ rfl rfl rfl (zy _ rfl rfl (zh _ _ rfl rfl rfl (zc rfl (za rfl rfl (zb rfl) (za rfl rfl (zY rfl rfl rfl) (za rfl rfl (ze rfl) (zg rfl (zf ?_))))))))))))))
  refine zu _ _ rfl rfl rfl rfl (fun hc1 => ?_) (fun hc1 => ?_)
  · replace hc1 := of_decide_eq_true hc1
    refine zh _ _ rfl rfl rfl (zc rfl (za rfl rfl (ze rfl) (za rfl rfl (ze rfl) (zg rfl (zf (zB rfl (zn (zp ?_))))))))
    exact zx Try.results43 (.cons (zM (zs rfl) (Cv.eq (congrArg (fun n => D.v (.int .i64 n)) (by unfold divE; simp [*])))) (.cons (zM (zs rfl) (Cv.eq (congrArg (fun n => D.v (.int .i64 n)) (by unfold divE; simp [*])))) .nil)) rfl HSub.none ⟨rfl, rfl⟩
  · replace hc1 := of_decide_eq_false hc1
    refine zh _ _ rfl rfl rfl (zc rfl (za rfl rfl (zb rfl) (za rfl rfl (zbW rfl rfl rfl) (za rfl rfl (ze rfl) (zg rfl (zf ?_))))))
    refine zu _ _ rfl rfl rfl rfl (fun hc2 => ?_) (fun hc2 => ?_)
    · replace hc2 := of_decide_eq_true hc2
      refine zh _ _ rfl rfl rfl (zc rfl (za rfl rfl (zb rfl) (za rfl rfl (zb rfl) ?_)))
      have htd := tdiv_le a b
      refine za rfl rfl (p_quo (c := (Int.tdiv a b)) rfl rfl (by omega) (zT rfl (by omega))) (za rfl rfl (ze rfl) (za rfl rfl (ze rfl) (zg rfl (zf (JD.keep [1, 2, 6, 7] [(1, dI a), (2, dI b), (6, dI (Int.tdiv a b)), (7, dI 0)] rfl (zB rfl (zn (zp ?_))))))))
      exact zx Try.results43 (.cons (zM (zs rfl) (Cv.eq (congrArg (fun n => D.v (.int .i64 n)) (by unfold divE; simp [*])))) (.cons (zM (zs rfl) (Cv.eq (congrArg (fun n => D.v (.int .i64 n)) (by unfold divE; simp [*])))) .nil)) rfl HSub.none ⟨rfl, rfl⟩
    · replace hc2 := of_decide_eq_false hc2
      refine zz rfl (zD (zf (zh _ _ rfl rfl rfl (zc rfl (za rfl rfl (zb rfl) (za rfl rfl (zb rfl) (za rfl rfl (p_rem (c := (Int.tmod a b)) rfl rfl (by omega) rfl) (za rfl rfl (ze rfl) (za rfl rfl (ze rfl) (zg rfl (zf (JD.keep [6, 7] [(6, dI (Int.tmod a b)), (7, dI 0)] rfl (zB rfl ?_)))))))))))))
      exact zx Try.results43 (.cons (zM (zs rfl) (Cv.eq (congrArg (fun n => D.v (.int .i64 n)) (by unfold divE; simp [*])))) (.cons (zM (zs rfl) (Cv.eq (congrArg (fun n => D.v (.int .i64 n)) (by unfold divE; simp [*])))) .nil)) rfl HSub.none ⟨rfl, rfl⟩

set_option maxHeartbeats 4000000 in
set_option maxRecDepth 100000 in
theorem times_c (a b : Int) (ha : -1000000000000 ≤ a ∧ a ≤ 1000000000000) (hb : -1000000000000 ≤ b ∧ b ≤ 1000000000000) :
    CD Try.prog 42 [] [dI a, dI b] (isR (.tup [dI ((zda a b).1), dI ((zda a b).2)])) := by
  refine zL Try.func42 rfl (N := 27) rfl rfl (fun C => ?_)
  refine JD.keep [0, 1] [(0, dI a), (1, dI b)] rfl (zh _ _ rfl rfl rfl (zc rfl (za rfl rfl (ze rfl) (za rfl rfl (ze rfl) (zg rfl (zf (zh _ _ rfl rfl rfl (zh _ _ rfl rfl rfl (JD.keep [0, 1, 4, 5] [(0, dI a), (1, dI b), (4, dI 0), (5, dI 0)] rfl ?_)))))))))
  refine zaj 23 (((decide (a ≠ (0 : Int)) && decide (b ≠ (0 : Int))) && decide ((Int.tdiv 1000000000000 (max b (-b))) < (max a (-a))))) [] (fun _ hQ1 => ?_) ?_
  · skip
    by_cases hg2 : a ≠ (0 : Int)
    · skip
      by_cases hg3 : b ≠ (0 : Int)
      · skip
        refine zc rfl (za rfl rfl (zb rfl) (za rfl rfl (zbh rfl rfl (decide_eq_true hg2)) (za rfl rfl (zb rfl) (zi rfl rfl rfl rfl rfl (zb rfl) (zi rfl rfl rfl rfl rfl (zbh rfl rfl (decide_eq_true hg3)) (za rfl rfl (zr rfl rfl) (za rfl rfl (zb rfl) (zi rfl rfl rfl rfl rfl (zb rfl) (zi rfl rfl rfl rfl rfl (zb rfl) (zi rfl rfl rfl rfl rfl (p_neg rfl (c := (-a)) (zT (by omega) (by omega))) (zi rfl rfl rfl rfl rfl (p_max rfl rfl rfl) (zi rfl rfl rfl rfl rfl (zb rfl) (zi rfl rfl rfl rfl rfl (zb rfl) (zi rfl rfl rfl rfl rfl (p_neg rfl (c := (-b)) (zT (by omega) (by omega))) (zi rfl rfl rfl rfl rfl (p_max rfl rfl rfl) ?_)))))))))))))))
        have htd := tdiv_le (1000000000000) (max b (-b))
        refine zi rfl rfl rfl rfl rfl (p_quo (c := (Int.tdiv 1000000000000 (max b (-b)))) rfl rfl (by omega) (zT rfl (by omega))) (zi rfl rfl rfl rfl rfl (zaM rfl rfl rfl) (za rfl rfl (zr rfl rfl) (zg rfl ?_)))
        exact PD.sub ((23, dB ((decide (a ≠ (0 : Int)) && decide (b ≠ (0 : Int))) && decide ((Int.tdiv 1000000000000 (max b (-b))) < (max a (-a))))) :: [(0, dI a), (1, dI b), (4, dI 0), (5, dI 0)]) ⟨sc rfl (Cv.eq (congrArg (fun b => D.v (.bool b)) (by first | (simp [hg2, hg3]; done) | (simp_all; done)))), sk rfl, sk rfl, sk rfl, sk rfl, trivial⟩ hQ1
      · skip
        refine zc rfl (za rfl rfl (zb rfl) (za rfl rfl (zbh rfl rfl (decide_eq_true hg2)) (za rfl rfl (zb rfl) (zi rfl rfl rfl rfl rfl (zb rfl) (zi rfl rfl rfl rfl rfl (zbh rfl rfl (decide_eq_false hg3)) (za rfl rfl (zr rfl rfl) (za rfl rfl (zb rfl) (zj rfl rfl rfl rfl rfl (by decide) (zj rfl rfl rfl rfl rfl (by decide) (zj rfl rfl rfl rfl rfl (by decide) (zj rfl rfl rfl rfl rfl (by decide) (zj rfl rfl rfl rfl rfl (by decide) (zj rfl rfl rfl rfl rfl (by decide) (zj rfl rfl rfl rfl rfl (by decide) (zj rfl rfl rfl rfl rfl (by decide) (zj rfl rfl rfl rfl rfl (by decide) (zj rfl rfl rfl rfl rfl (by decide) (za rfl rfl (zm rfl rfl) (zg rfl ?_)))))))))))))))))))
        exact PD.sub ((23, dB ((decide (a ≠ (0 : Int)) && decide (b ≠ (0 : Int))) && decide ((Int.tdiv 1000000000000 (max b (-b))) < (max a (-a))))) :: [(0, dI a), (1, dI b), (4, dI 0), (5, dI 0)]) ⟨sc rfl (Cv.eq (congrArg (fun b => D.v (.bool b)) (by first | (simp [hg2, hg3]; done) | (simp_all; done)))), sk rfl, sk rfl, sk rfl, sk rfl, trivial⟩ hQ1
    · skip
      refine zc rfl (za rfl rfl (zb rfl) (za rfl rfl (zbh rfl rfl (decide_eq_false hg2)) (za rfl rfl (zb rfl) (zj rfl rfl rfl rfl rfl (by decide) (zj rfl rfl rfl rfl rfl (by decide) (za rfl rfl (zm rfl rfl) (za rfl rfl (zb rfl) (zj rfl rfl rfl rfl rfl (by decide) (zj rfl rfl rfl rfl rfl (by decide) (zj rfl rfl rfl rfl rfl (by decide) (zj rfl rfl rfl rfl rfl (by decide) (zj rfl rfl rfl rfl rfl (by decide) (zj rfl rfl rfl rfl rfl (by decide) (zj rfl rfl rfl rfl rfl (by decide) (zj rfl rfl rfl rfl rfl (by decide) (zj rfl rfl rfl rfl rfl (by decide) (zj rfl rfl rfl rfl rfl (by decide) (za rfl rfl (zm rfl rfl) (zg rfl ?_)))))))))))))))))))
      exact PD.sub ((23, dB ((decide (a ≠ (0 : Int)) && decide (b ≠ (0 : Int))) && decide ((Int.tdiv 1000000000000 (max b (-b))) < (max a (-a))))) :: [(0, dI a), (1, dI b), (4, dI 0), (5, dI 0)]) ⟨sc rfl (Cv.eq (congrArg (fun b => D.v (.bool b)) (by first | (simp [hg2]; done) | (simp_all; done)))), sk rfl, sk rfl, sk rfl, sk rfl, trivial⟩ hQ1
  · skip
    refine zf ?_
    refine zu _ _ rfl rfl rfl rfl (fun hc4 => ?_) (fun hc4 => ?_)
    · simp only [Bool.and_eq_true, Bool.or_eq_true, Bool.not_eq_true', Bool.not_eq_false', Bool.and_eq_false_iff, Bool.or_eq_false_iff, decide_eq_true_eq, decide_eq_false_iff_not, Decidable.not_not, ne_eq] at hc4
      refine zh _ _ rfl rfl rfl (zc rfl (za rfl rfl (ze rfl) (za rfl rfl (ze rfl) (zg rfl (zf (zB rfl (zp ?_)))))))
      exact zx Try.results42 (.cons (zM (zs rfl) (Cv.eq (congrArg (fun n => D.v (.int .i64 n)) (by unfold zda; (split <;> first | rfl | (exfalso; omega)))))) (.cons (zM (zs rfl) (Cv.eq (congrArg (fun n => D.v (.int .i64 n)) (by unfold zda; (split <;> first | rfl | (exfalso; omega)))))) .nil)) rfl HSub.none ⟨rfl, rfl⟩
    · simp only [Bool.and_eq_true, Bool.or_eq_true, Bool.not_eq_true', Bool.not_eq_false', Bool.and_eq_false_iff, Bool.or_eq_false_iff, decide_eq_true_eq, decide_eq_false_iff_not, Decidable.not_not, ne_eq] at hc4
      refine zz rfl (zf (zh _ _ rfl rfl rfl (zc rfl (za rfl rfl (zb rfl) (za rfl rfl (zb rfl) ?_)))))
      have hmb := times_bd (a := a) (b := b) (by have h := hc4; omega)
      refine za rfl rfl (zea (c := (a * b)) rfl rfl (zT rfl (by omega))) (za rfl rfl (ze rfl) (za rfl rfl (ze rfl) (zg rfl (zf (zB rfl ?_)))))
      exact zx Try.results42 (.cons (zM (zs rfl) (Cv.eq (congrArg (fun n => D.v (.int .i64 n)) (by unfold zda; (split <;> first | rfl | (exfalso; omega)))))) (.cons (zM (zs rfl) (Cv.eq (congrArg (fun n => D.v (.int .i64 n)) (by unfold zda; (split <;> first | rfl | (exfalso; omega)))))) .nil)) rfl HSub.none ⟨rfl, rfl⟩

set_option maxHeartbeats 4000000 in
set_option maxRecDepth 100000 in
theorem Do_c (op : ByteArray) (a b : Int)  :
    CD Try.prog 28 [] [.s op, dI a, dI b] (isR (.tup [dI ((doE op a b).1), dI ((doE op a b).2)])) := by
  refine zL Try.func28 rfl (N := 64) rfl rfl (fun C => ?_)
  refine JD.keep [0, 1, 2] [(0, .s op), (1, dI a), (2, dI b)] rfl ?_
  refine JD.bd 0 rfl (fun bd0 => ?_)
  have sz0 : op.size ≤ 9223372036854775807 := bd0
  refine zh _ _ rfl rfl rfl (zc rfl (za rfl rfl (ze rfl) (za rfl rfl (ze rfl) (zg rfl (zf (zh _ _ rfl rfl rfl (zh _ _ rfl rfl rfl (JD.keep [0, 1, 2, 6, 7] [(0, .s op), (1, dI a), (2, dI b), (6, dI 0), (7, dI 0)] rfl ?_))))))))
  refine zaj 15 ((!(zax a) || !(zax b))) [] (fun _ hQ1 => ?_) ?_
  · skip
    rcases Bool.eq_false_or_eq_true (zax a) with hg2 | hg2
    · skip
      refine zc rfl (za rfl rfl (zb rfl) (zl rfl rfl (zt [] _ [] rfl rfl (.cons ArgC.id .nil) zo Try.call33 (zc4 a) (.inl rfl)) ?_))
      rintro _ _ ⟨_, ⟨rfl, rfl⟩, rfl⟩
      refine OpsD.norm [] rfl (OpsD.sub ((9, dB true) :: [(0, .s op), (1, dI a), (2, dI b), (6, dI 0), (7, dI 0), (8, dI a)]) ⟨se rfl (congrArg (fun b => D.v (.bool b)) hg2), sk rfl, sk rfl, sk rfl, sk rfl, sk rfl, sk rfl, trivial⟩ (za rfl rfl (zag (q := true) rfl) (za rfl rfl (zb rfl) (zi rfl rfl rfl rfl rfl (zb rfl) (zaT rfl rfl rfl rfl rfl (zt [] _ [] rfl rfl (.cons ArgC.id .nil) zo Try.call33 (zc4 b) (.inl rfl)) ?_)))))
      rintro _ _ ⟨_, ⟨rfl, rfl⟩, rfl⟩
      refine OpsD.norm [] rfl (zi rfl rfl rfl rfl rfl (zag rfl) (za rfl rfl (zm rfl rfl) (zg rfl ?_)))
      exact PD.sub ((15, dB (!(zax a) || !(zax b))) :: [(0, .s op), (1, dI a), (2, dI b), (6, dI 0), (7, dI 0)]) ⟨sc rfl (Cv.eq (congrArg (fun b => D.v (.bool b)) (by first | (simp [hg2]; done) | (simp_all; done)))), sk rfl, sk rfl, sk rfl, sk rfl, sk rfl, trivial⟩ hQ1
    · skip
      refine zc rfl (za rfl rfl (zb rfl) (zl rfl rfl (zt [] _ [] rfl rfl (.cons ArgC.id .nil) zo Try.call33 (zc4 a) (.inl rfl)) ?_))
      rintro _ _ ⟨_, ⟨rfl, rfl⟩, rfl⟩
      refine OpsD.norm [] rfl (OpsD.sub ((9, dB false) :: [(0, .s op), (1, dI a), (2, dI b), (6, dI 0), (7, dI 0), (8, dI a)]) ⟨se rfl (congrArg (fun b => D.v (.bool b)) hg2), sk rfl, sk rfl, sk rfl, sk rfl, sk rfl, sk rfl, trivial⟩ (za rfl rfl (zag (q := false) rfl) (za rfl rfl (zb rfl) (zj rfl rfl rfl rfl rfl (by decide) (zj rfl rfl rfl rfl rfl (by decide) (zj rfl rfl rfl rfl rfl (by decide) (za rfl rfl (zr rfl rfl) (zg rfl ?_))))))))
      exact PD.sub ((15, dB (!(zax a) || !(zax b))) :: [(0, .s op), (1, dI a), (2, dI b), (6, dI 0), (7, dI 0)]) ⟨sc rfl (Cv.eq (congrArg (fun b => D.v (.bool b)) (by first | (simp [hg2]; done) | (simp_all; done)))), sk rfl, sk rfl, sk rfl, sk rfl, sk rfl, trivial⟩ hQ1
  · skip
    refine zf ?_
    refine zu _ _ rfl rfl rfl rfl (fun hc3 => ?_) (fun hc3 => ?_)
    · simp only [Bool.and_eq_true, Bool.or_eq_true, Bool.not_eq_true', Bool.not_eq_false', Bool.and_eq_false_iff, Bool.or_eq_false_iff, decide_eq_true_eq, decide_eq_false_iff_not, Decidable.not_not, ne_eq] at hc3
      refine zh _ _ rfl rfl rfl (zc rfl (za rfl rfl (ze rfl) (za rfl rfl (ze rfl) (zg rfl (zf (zB rfl (zp ?_)))))))
      exact zx Try.results28 (.cons (zM (zs rfl) (Cv.eq (congrArg (fun n => D.v (.int .i64 n)) (by unfold doE; simp_all)))) (.cons (zM (zs rfl) (Cv.eq (congrArg (fun n => D.v (.int .i64 n)) (by unfold doE; simp_all)))) .nil)) rfl HSub.none ⟨rfl, rfl⟩
    · simp only [Bool.and_eq_true, Bool.or_eq_true, Bool.not_eq_true', Bool.not_eq_false', Bool.and_eq_false_iff, Bool.or_eq_false_iff, decide_eq_true_eq, decide_eq_false_iff_not, Decidable.not_not, ne_eq] at hc3
      have hr := hc3
      have hab : (-1000000000000 ≤ a ∧ a ≤ 1000000000000) ∧ (-1000000000000 ≤ b ∧ b ≤ 1000000000000) := by unfold zax at hr; simp only [Bool.and_eq_true, decide_eq_true_eq] at hr; omega
      obtain ⟨ha, hb⟩ := hab
      refine zz rfl (zf (zh _ _ rfl rfl rfl (zy _ rfl rfl (zh _ _ rfl rfl rfl (zc rfl (za rfl rfl (zb rfl) (zl rfl rfl (zt [] _ [] rfl rfl (.cons ArgC.id .nil) zo Try.call29 (Compares_c op) (.inl rfl)) ?_)))))))
      rintro _ _ ⟨_, ⟨rfl, rfl⟩, rfl⟩
      refine OpsD.norm [] rfl (za rfl rfl (ze rfl) (zg rfl (zf ?_)))
      refine zu _ _ rfl rfl rfl rfl (fun hc4 => ?_) (fun hc4 => ?_)
      · skip
        refine zh _ _ rfl rfl rfl (zc rfl (za rfl rfl (zb rfl) (za rfl rfl (zb rfl) (za rfl rfl (zb rfl) (zl rfl rfl (zt [] _ [] rfl rfl (.cons ArgC.id (.cons ArgC.id (.cons ArgC.id .nil))) zo Try.call40 (compare_c op a b) (.inl rfl)) ?_)))))
        rintro _ _ ⟨_, ⟨rfl, rfl⟩, rfl⟩
        refine OpsD.norm [] rfl (za rfl rfl (zF rfl rfl) (za rfl rfl (zF rfl rfl) (za rfl rfl (ze rfl) (za rfl rfl (ze rfl) (zg rfl (zf (JD.keep [6, 7] [(6, dI (if cmpF op a b = true then 1 else 0)), (7, dI 0)] rfl (zB rfl (zn (zp ?_))))))))))
        exact zx Try.results28 (.cons (zM (zs rfl) (Cv.eq (congrArg (fun n => D.v (.int .i64 n)) (by unfold doE; simp_all)))) (.cons (zM (zs rfl) (Cv.eq (congrArg (fun n => D.v (.int .i64 n)) (by unfold doE; simp_all)))) .nil)) rfl HSub.none ⟨rfl, rfl⟩
      · skip
        refine zh _ _ rfl rfl rfl (zc rfl (za rfl rfl (zb rfl) (za rfl rfl (zbW rfl rfl rfl) (za rfl rfl (ze rfl) (zg rfl (zf ?_))))))
        refine zu _ _ rfl rfl rfl rfl (fun hc5 => ?_) (fun hc5 => ?_)
        · replace hc5 := of_decide_eq_true hc5
          refine zh _ _ rfl rfl rfl (zc rfl (za rfl rfl (zb rfl) (za rfl rfl (zb rfl) (za rfl rfl (z8 (c := (a + b)) rfl rfl (zT (by omega) (by omega))) (zl rfl rfl (zt [] _ [] rfl rfl (.cons ArgC.id .nil) zo Try.call41 (within_c (a + b)) (.inl rfl)) ?_)))))
          rintro _ _ ⟨_, ⟨rfl, rfl⟩, rfl⟩
          refine OpsD.norm [] rfl (za rfl rfl (zF rfl rfl) (za rfl rfl (zF rfl rfl) (za rfl rfl (ze rfl) (za rfl rfl (ze rfl) (zg rfl (zf (JD.keep [6, 7] [(6, dI ((za5 (a + b)).1)), (7, dI ((za5 (a + b)).2))] rfl (zB rfl (zn (zp ?_))))))))))
          exact zx Try.results28 (.cons (zM (zs rfl) (Cv.eq (congrArg (fun n => D.v (.int .i64 n)) (by unfold doE; simp_all)))) (.cons (zM (zs rfl) (Cv.eq (congrArg (fun n => D.v (.int .i64 n)) (by unfold doE; simp_all)))) .nil)) rfl HSub.none ⟨rfl, rfl⟩
        · replace hc5 := of_decide_eq_false hc5
          refine zh _ _ rfl rfl rfl (zc rfl (za rfl rfl (zb rfl) (za rfl rfl (zbW rfl rfl rfl) (za rfl rfl (ze rfl) (zg rfl (zf (JD.keep [0, 1, 2, 6, 7, 34] [(0, .s op), (1, dI a), (2, dI b), (6, dI 0), (7, dI 0), (34, dB (decide (op = (⟨#[45]⟩ : ByteArray))))] rfl ?_)))))))
          refine zu _ _ rfl rfl rfl rfl (fun hc6 => ?_) (fun hc6 => ?_)
          · replace hc6 := of_decide_eq_true hc6
            refine zh _ _ rfl rfl rfl (zc rfl (za rfl rfl (zb rfl) (za rfl rfl (zb rfl) (za rfl rfl (zaR (c := (a - b)) rfl rfl (zT (by omega) (by omega))) (zl rfl rfl (zt [] _ [] rfl rfl (.cons ArgC.id .nil) zo Try.call41 (within_c (a - b)) (.inl rfl)) ?_)))))
            rintro _ _ ⟨_, ⟨rfl, rfl⟩, rfl⟩
            refine OpsD.norm [] rfl (za rfl rfl (zF rfl rfl) (za rfl rfl (zF rfl rfl) (za rfl rfl (ze rfl) (za rfl rfl (ze rfl) (zg rfl (zf (JD.keep [6, 7] [(6, dI ((za5 (a - b)).1)), (7, dI ((za5 (a - b)).2))] rfl (zB rfl (zn (zp ?_))))))))))
            exact zx Try.results28 (.cons (zM (zs rfl) (Cv.eq (congrArg (fun n => D.v (.int .i64 n)) (by unfold doE; simp_all)))) (.cons (zM (zs rfl) (Cv.eq (congrArg (fun n => D.v (.int .i64 n)) (by unfold doE; simp_all)))) .nil)) rfl HSub.none ⟨rfl, rfl⟩
          · replace hc6 := of_decide_eq_false hc6
            refine zh _ _ rfl rfl rfl (zc rfl (za rfl rfl (zb rfl) (za rfl rfl (zbW rfl rfl rfl) (za rfl rfl (ze rfl) (zg rfl (zf ?_))))))
            refine zu _ _ rfl rfl rfl rfl (fun hc7 => ?_) (fun hc7 => ?_)
            · replace hc7 := of_decide_eq_true hc7
              refine zh _ _ rfl rfl rfl (zc rfl (za rfl rfl (zb rfl) (za rfl rfl (zb rfl) (zl rfl rfl (zt [] _ [] rfl rfl (.cons ArgC.id (.cons ArgC.id .nil)) zo Try.call42 (times_c a b (by omega) (by omega)) (.inl rfl)) ?_))))
              rintro _ _ ⟨_, ⟨rfl, rfl⟩, rfl⟩
              refine OpsD.norm [] rfl (za rfl rfl (zF rfl rfl) (za rfl rfl (zF rfl rfl) (za rfl rfl (ze rfl) (za rfl rfl (ze rfl) (zg rfl (zf (JD.keep [6, 7] [(6, dI ((zda a b).1)), (7, dI ((zda a b).2))] rfl (zB rfl (zn (zp ?_))))))))))
              exact zx Try.results28 (.cons (zM (zs rfl) (Cv.eq (congrArg (fun n => D.v (.int .i64 n)) (by unfold doE; simp_all)))) (.cons (zM (zs rfl) (Cv.eq (congrArg (fun n => D.v (.int .i64 n)) (by unfold doE; simp_all)))) .nil)) rfl HSub.none ⟨rfl, rfl⟩
            · replace hc7 := of_decide_eq_false hc7
              refine zh _ _ rfl rfl rfl (JD.keep [0, 1, 2, 6, 7] [(0, .s op), (1, dI a), (2, dI b), (6, dI 0), (7, dI 0)] rfl ?_)
              refine zaj 51 ((decide (op = (⟨#[47]⟩ : ByteArray)) || decide (op = (⟨#[37]⟩ : ByteArray)))) [] (fun _ hQ8 => ?_) ?_
              · skip
                by_cases hg9 : op = (⟨#[47]⟩ : ByteArray)
                · skip
                  refine zc rfl (za rfl rfl (zb rfl) (za rfl rfl (zbW rfl rfl (decide_eq_true hg9)) (za rfl rfl (zb rfl) (zj rfl rfl rfl rfl rfl (by decide) (zj rfl rfl rfl rfl rfl (by decide) (za rfl rfl (zr rfl rfl) (za rfl rfl (ze rfl) (zg rfl ?_))))))))
                  exact PD.sub ((51, dB (decide (op = (⟨#[47]⟩ : ByteArray)) || decide (op = (⟨#[37]⟩ : ByteArray)))) :: [(0, .s op), (1, dI a), (2, dI b), (6, dI 0), (7, dI 0)]) ⟨sc rfl (Cv.eq (congrArg (fun b => D.v (.bool b)) (by first | (simp [hc4, hc5, hc6, hc7, hg9]; done) | (simp_all; done)))), sk rfl, sk rfl, sk rfl, sk rfl, sk rfl, trivial⟩ hQ8
                · skip
                  refine zc rfl (za rfl rfl (zb rfl) (za rfl rfl (zbW rfl rfl (decide_eq_false hg9)) (za rfl rfl (zb rfl) (zi rfl rfl rfl rfl rfl (zb rfl) (zi rfl rfl rfl rfl rfl (zbW rfl rfl rfl) (za rfl rfl (zm rfl rfl) (za rfl rfl (ze rfl) (zg rfl ?_))))))))
                  exact PD.sub ((51, dB (decide (op = (⟨#[47]⟩ : ByteArray)) || decide (op = (⟨#[37]⟩ : ByteArray)))) :: [(0, .s op), (1, dI a), (2, dI b), (6, dI 0), (7, dI 0)]) ⟨sc rfl (Cv.eq (congrArg (fun b => D.v (.bool b)) (by first | (simp [hc4, hc5, hc6, hc7, hg9]; done) | (simp_all; done)))), sk rfl, sk rfl, sk rfl, sk rfl, sk rfl, trivial⟩ hQ8
              · skip
                refine zf ?_
                refine zu _ _ rfl rfl rfl rfl (fun hc10 => ?_) (fun hc10 => ?_)
                · simp only [Bool.and_eq_true, Bool.or_eq_true, Bool.not_eq_true', Bool.not_eq_false', Bool.and_eq_false_iff, Bool.or_eq_false_iff, decide_eq_true_eq, decide_eq_false_iff_not, Decidable.not_not, ne_eq] at hc10
                  refine zh _ _ rfl rfl rfl (zc rfl (za rfl rfl (zb rfl) (za rfl rfl (zb rfl) (za rfl rfl (zb rfl) (zl rfl rfl (zt [] _ [] rfl rfl (.cons ArgC.id (.cons ArgC.id (.cons ArgC.id .nil))) zo Try.call43 (divides_c op a b (by omega)) (.inl rfl)) ?_)))))
                  rintro _ _ ⟨_, ⟨rfl, rfl⟩, rfl⟩
                  refine OpsD.norm [] rfl (za rfl rfl (zF rfl rfl) (za rfl rfl (zF rfl rfl) (za rfl rfl (ze rfl) (za rfl rfl (ze rfl) (zg rfl (zf (JD.keep [6, 7] [(6, dI ((divE op a b).1)), (7, dI ((divE op a b).2))] rfl (zB rfl (zn (zp ?_))))))))))
                  exact zx Try.results28 (.cons (zM (zs rfl) (Cv.eq (congrArg (fun n => D.v (.int .i64 n)) (by unfold doE; simp_all)))) (.cons (zM (zs rfl) (Cv.eq (congrArg (fun n => D.v (.int .i64 n)) (by unfold doE; simp_all)))) .nil)) rfl HSub.none ⟨rfl, rfl⟩
                · simp only [Bool.and_eq_true, Bool.or_eq_true, Bool.not_eq_true', Bool.not_eq_false', Bool.and_eq_false_iff, Bool.or_eq_false_iff, decide_eq_true_eq, decide_eq_false_iff_not, Decidable.not_not, ne_eq] at hc10
                  refine zz rfl (zD (zf (zh _ _ rfl rfl rfl (zc rfl (za rfl rfl (ze rfl) (za rfl rfl (ze rfl) (zg rfl (zf (zB rfl ?_)))))))))
                  exact zx Try.results28 (.cons (zM (zs rfl) (Cv.eq (congrArg (fun n => D.v (.int .i64 n)) (by unfold doE; simp_all)))) (.cons (zM (zs rfl) (Cv.eq (congrArg (fun n => D.v (.int .i64 n)) (by unfold doE; simp_all)))) .nil)) rfl HSub.none ⟨rfl, rfl⟩
end Lp
