/-
  Sorting in little room, as plain data: what the steps leave.
-/
import Derived.Test.YtoanlikkhjohpaaGreatV3
set_option linter.unusedVariables false
namespace Lp
open Go

theorem zbV {o : Int} {s : SortD} {l : List RowD} (h : 0 < l.length) : endS o s l = ⟨s.runs ++ [⟨true, zag (zC o) l⟩], s.nr + 1, s.nm, z0 s.p l⟩ := by unfold endS; rw [if_pos h]
theorem zcw {o : Int} {s : SortD} {l : List RowD} (h : ¬ 0 < l.length) : endS o s l = s := by unfold endS; rw [if_neg h]
theorem takes_no {p : PurseD} {n : Int} (h : p.takes n = false) : p.take n = p := by unfold PurseD.take; rw [h]; rfl
theorem seg_snoc {α : Type} {l : List α} {a k : Nat} {x : α} (h : l[k]? = some x) (ha : a ≤ k) : seg l a (k + 1) = seg l a k ++ [x] := by
  have hk := (List.getElem?_eq_some_iff.1 h).1
  unfold seg
  rw [zaD h, List.drop_append_of_le_length (by rw [List.length_take]; omega)]
theorem seg_one {α : Type} {l : List α} {k : Nat} {x : α} (h : l[k]? = some x) : seg l k (k + 1) = [x] := by
  have hk := (List.getElem?_eq_some_iff.1 h).1
  rw [seg_snoc h (Nat.le_refl _)]
  have : seg l k k = [] := by unfold seg; rw [List.drop_eq_nil_iff, List.length_take]; omega
  rw [this]; rfl
theorem z9.seg {l : List RowD} (h : z9 l) (a b : Nat) : z9 (seg l a b) := fun r hr => h r (List.mem_of_mem_take (List.mem_of_mem_drop hr))
theorem getD_at {x : List RowD} {i : Nat} {r : RowD} (h : x[i]? = some r) : x.getD i default = r := by rw [List.getD_eq_getElem?_getD, h]; rfl

/-! ### a merge is there -/
theorem zaQ.ex (o : Int) (L : LLs) : ∀ i, ∃ b, zaQ o L i b
  | 0 => ⟨-1, zaQ.zero o L⟩
  | i + 1 => by
    obtain ⟨b, h⟩ := zaQ.ex o L i
    rcases hi : hd L i with _ | x
    · exact ⟨b, h.skip hi⟩
    · by_cases hb : b < 0
      · exact ⟨_, h.first hb hi⟩
      · obtain ⟨m, y, e, _, hy, _⟩ := h.nat hb
        subst e
        rcases hl : less o x y with _ | _
        · exact ⟨_, h.keep hi hy hl⟩
        · exact ⟨_, h.take hi hy hl⟩
theorem Run.ex (o : Int) : ∀ (n : Nat) (ll : LLs), za5 ll = n → ∃ rs hs, Run o ll rs hs := by
  intro n
  induction n using Nat.strongRecOn with
  | _ n ih =>
    intro ll hn
    obtain ⟨b, h⟩ := zaQ.ex o ll ll.length
    have far : ∀ k, ll.length ≤ k → hd ll k = none := fun k hk => hd_far hk
    rcases h with ⟨_, h⟩ | ⟨m, _, _, ⟨x, hx⟩, hw⟩
    · refine ⟨[], [], .done fun k => ?_⟩
      rcases Nat.lt_or_ge k ll.length with hk | hk
      · exact h k hk
      · exact far k hk
    · have ht := zcD hx
      obtain ⟨rs, hs, hr⟩ := ih (za5 (pop ll m)) (by omega) _ rfl
      refine ⟨x :: rs, m :: hs, .step hx (fun j => ?_) hr⟩
      rcases Nat.lt_or_ge j ll.length with hj | hj
      · exact hw j hj
      · exact Wins.of_none (far j hj)
theorem zbS (o : Int) (ll : LLs) : Run o ll (runR o ll).1 (runR o ll).2 := by
  obtain ⟨rs, hs, h⟩ := Run.ex o _ ll rfl
  rw [runR_eq h]; exact h
theorem total_done {ll : LLs} (h : ∀ k, hd ll k = none) : za5 ll = 0 := by
  rcases Nat.eq_zero_or_pos (za5 ll) with h0 | h0
  · exact h0
  · exfalso
    have : ∃ x ∈ ll, 0 < x.length := by
      unfold za5 at h0
      induction ll with
      | nil => simp at h0
      | cons y r ih =>
        by_cases hy : 0 < y.length
        · exact ⟨y, List.mem_cons_self, hy⟩
        · simp only [List.map_cons, List.sum_cons] at h0
          obtain ⟨x, hx, hl⟩ := ih (fun k => by have := h (k + 1); unfold hd at this ⊢; simpa using this) (by omega)
          exact ⟨x, List.mem_cons_of_mem _ hx, hl⟩
    obtain ⟨x, hx, hl⟩ := this
    obtain ⟨k, hk⟩ := List.mem_iff_getElem?.1 hx
    have := h k
    rw [hd_at hk] at this
    cases x with
    | nil => simp at hl
    | cons a b => cases this
theorem Run.len {o : Int} {ll : LLs} {rs : List RowD} {hs : List Nat} (h : Run o ll rs hs) : rs.length = za5 ll ∧ hs.length = za5 ll := by
  induction h with
  | done h => rw [total_done h]; exact ⟨rfl, rfl⟩
  | step hx _ _ ih => have := zcD hx; simp only [List.length_cons]; omega
/-- where a merge stands: the next row is there -/
theorem run_at {o : Int} {ll : LLs} {c hs : List Nat} {j m : Nat} (h : ∃ rs, Run o (rest ll c) rs (hs.drop j)) (hm : hs[j]? = some m) : ∃ z q u, ll[m]? = some z ∧ c[m]? = some q ∧ z[q]? = some u ∧ ∃ rs, Run o (rest ll (c.set m (q + 1))) rs (hs.drop (j + 1)) := by
  obtain ⟨rs, hr⟩ := h
  rw [zax hm] at hr
  cases hr with
  | step hx hw hr =>
    obtain ⟨z, q, hz, hq, hu⟩ := zbA hx
    rw [zcY hz hq] at hr
    exact ⟨z, q, _, hz, hq, hu, _, hr⟩
theorem step1_t {ll : LLs} {m q : Nat} {c : List Nat} {p : PurseD} {z : List RowD} {u v : RowD} (hz : ll[m]? = some z) (hq : c[m]? = some q) (hu : z[q]? = some u) (hv : z[q + 1]? = some v) : zbs ll m c p = (p.give (zp u)).take (zp v) := by
  have e1 : c.getD m 0 = q := by rw [List.getD_eq_getElem?_getD, hq]; rfl
  have e2 : ll.getD m [] = z := by rw [List.getD_eq_getElem?_getD, hz]; rfl
  have hl := (List.getElem?_eq_some_iff.1 hv).1
  unfold zbs zdC
  rw [e1, e2, if_pos hl, getD_at hu, getD_at hv]
theorem step1_f {ll : LLs} {m q : Nat} {c : List Nat} {p : PurseD} {z : List RowD} {u : RowD} (hz : ll[m]? = some z) (hq : c[m]? = some q) (hu : z[q]? = some u) (hv : ¬ q + 1 < z.length) : zbs ll m c p = p.give (zp u) := by
  have e1 : c.getD m 0 = q := by rw [List.getD_eq_getElem?_getD, hq]; rfl
  have e2 : ll.getD m [] = z := by rw [List.getD_eq_getElem?_getD, hz]; rfl
  unfold zbs zdC
  rw [e1, e2, if_neg hv, getD_at hu]
theorem cntP_next {ll : LLs} {hs c : List Nat} {j m q : Nat} {p : PurseD} (hm : hs[j]? = some m) (hq : c[m]? = some q) : cntP ll (hs.drop j) c p = cntP ll (hs.drop (j + 1)) (c.set m (q + 1)) (zbs ll m c p) := by
  have e1 : c.getD m 0 = q := by rw [List.getD_eq_getElem?_getD, hq]; rfl
  rw [zax hm]
  show cntP ll _ (c.set m (c.getD m 0 + 1)) _ = _
  rw [e1]
theorem cntP_end {ll : LLs} {hs c : List Nat} {j : Nat} {p : PurseD} (h : hs.length ≤ j) : cntP ll (hs.drop j) c p = p := by rw [List.drop_eq_nil_iff.2 h]; rfl
theorem lls_snoc {rs : List RunD} {k : Nat} {x : RunD} (h : rs[k]? = some x) : lls (rs.take (k + 1)) = lls (rs.take k) ++ [x.l] := by rw [zaD h]; unfold lls; rw [List.map_append]; rfl
theorem zcz (rs : List RunD) : (lls rs).length = rs.length := List.length_map _
theorem countS_ok {p : PurseD} (h : p.Ok) (o : Int) (ll : LLs) : (zae o ll p).Ok ∧ (zae o ll p).room = p.room ∧ p.high ≤ (zae o ll p).high := by
  have h1 := firsts_ok h ll
  have h2 := cntP_ok ll (runR o ll).2 (List.replicate ll.length 0) h1.1
  exact ⟨h2.1, h2.2.1.trans h1.2.1, Int.le_trans h1.2.2 h2.2.2⟩

theorem set_at {α : Type} {l : List α} {k : Nat} {x : α} (h : k < l.length) : (l.set k x)[k]? = some x := by rw [List.getElem?_set_self h]
theorem zcj {ll : LLs} {x : List RowD} (h : x ∈ ll) : x.length ≤ za5 ll := by
  unfold za5
  induction ll with
  | nil => cases h
  | cons y r ih =>
    simp only [List.map_cons, List.sum_cons]
    rcases List.mem_cons.1 h with e | e
    · rw [e]; omega
    · have := ih e; omega
/-! ### what holds throughout -/
structure SOk (s : SortD) (n : Nat) : Prop where
  p : s.p.Ok
  nr0 : 0 ≤ s.nr
  nr1 : s.nr ≤ 2000
  nm0 : 0 ≤ s.nm
  nm1 : s.nm + (s.runs.length : Int) ≤ 2001
  len : s.runs.length ≤ 2000
  li : ∀ r ∈ s.runs, z9 r.l ∧ 0 < r.l.length
  tot : (zac s.runs).length = n
theorem zbB (a b : List RunD) : zac (a ++ b) = zac a ++ zac b := by unfold zac; rw [List.map_append, List.flatten_append]
theorem zbP (r : RunD) : zac [r] = r.l := by unfold zac; simp
theorem flatR_snoc {rs : List RunD} {k : Nat} {x : RunD} (h : rs[k]? = some x) : zac (rs.take (k + 1)) = zac (rs.take k) ++ x.l := by rw [zaD h, zbB, zbP]
theorem flatR_take_le (rs : List RunD) (k : Nat) : (zac (rs.take k)).length ≤ (zac rs).length := by
  have e : zac rs = zac (rs.take k) ++ zac (rs.drop k) := by rw [← zbB, List.take_append_drop]
  rw [e, List.length_append]; omega
theorem total_lls (rs : List RunD) : za5 (lls rs) = (zac rs).length := by unfold za5 lls zac; rw [List.length_flatten]
theorem SOk.end {o : Int} {s : SortD} {l : List RowD} (hp : s.p.Ok) : (endS o s l).p.Ok ∧ (endS o s l).p.room = s.p.room ∧ (endS o s l).p.high = s.p.high := by
  by_cases h : 0 < l.length
  · rw [zbV h]; exact giveAll_ok hp l
  · rw [zcw h]; exact ⟨hp, rfl, rfl⟩
theorem endS_num {o : Int} {s : SortD} {l : List RowD} : s.nr ≤ (endS o s l).nr ∧ (endS o s l).nr ≤ s.nr + 1 ∧ (endS o s l).runs.length ≤ s.runs.length + 1 ∧ (endS o s l).nm = s.nm := by
  by_cases h : 0 < l.length
  · rw [zbV h]; exact ⟨by show s.nr ≤ s.nr + 1; omega, Int.le_refl _, by show (s.runs ++ [_]).length ≤ _; simp, rfl⟩
  · rw [zcw h]; exact ⟨Int.le_refl _, by omega, by omega, rfl⟩
end Lp
/- Walks, printed by a program of mine. -/
set_option linter.unusedSimpArgs false
set_option linter.unusedVariables false
namespace Lp
open Go Go.RowKit Go.Proofs

namespace HdYtoanlikkhjohpaaGreatV17
theorem bd_121 : ∀ w, ((#[⟨"l", 22, 0, false, "", "leporello/sorter", 0⟩] : Array Field).mapM fun f => do pure (f.offset, ← Go.sizeOf f.type) : Sem (Array (Nat × Nat))).run Tryz.prog w = .ok ([(0, 1)] : List (Nat × Nat)).toArray w := fun _ => by kernel_rfl
theorem fa_121_0 (b o : Nat) : ∀ w, (Instr.fieldAt 121 (.pointer (some ⟨b, o, none⟩)) 0).run Tryz.prog w = .ok (.pointer (some ⟨b, o + 0, none⟩)) w := fun _ => by kernel_rfl
theorem fa_40_0 (b o : Nat) : ∀ w, (Instr.fieldAt 40 (.pointer (some ⟨b, o, none⟩)) 0).run Tryz.prog w = .ok (.pointer (some ⟨b, o + 0, none⟩)) w := fun _ => by kernel_rfl
theorem zdl (b o : Nat) : ∀ w, (Instr.fieldAt 77 (.pointer (some ⟨b, o, none⟩)) 0).run Tryz.prog w = .ok (.pointer (some ⟨b, o + 0, none⟩)) w := fun _ => by kernel_rfl
theorem zch (b o : Nat) : ∀ w, (Instr.fieldAt 77 (.pointer (some ⟨b, o, none⟩)) 2).run Tryz.prog w = .ok (.pointer (some ⟨b, o + 2, none⟩)) w := fun _ => by kernel_rfl
theorem zcg (b o : Nat) : ∀ w, (Instr.fieldAt 77 (.pointer (some ⟨b, o, none⟩)) 3).run Tryz.prog w = .ok (.pointer (some ⟨b, o + 3, none⟩)) w := fun _ => by kernel_rfl
theorem zcS (b o : Nat) : ∀ w, (Instr.fieldAt 77 (.pointer (some ⟨b, o, none⟩)) 4).run Tryz.prog w = .ok (.pointer (some ⟨b, o + 4, none⟩)) w := fun _ => by kernel_rfl
theorem fg_120_0 : ∀ vs : List Value, vs.length = 1 → ∀ w, (Instr.field 120 (.agg vs.toArray) 0).run Tryz.prog w = .ok (vs.getD 0 undef) w := fun vs h w => by
  obtain ⟨a, rfl⟩ := List.length_eq_one_iff.1 h
  kernel_rfl
theorem infz_20 : ∃ i, Tryz.prog.info? 20 = some i ∧ i.zero = some .nilIface ∧ i.size = 1 ∧ i.bytes = 16 := zaR (by kernel_rfl)
theorem und_75 : Tryz.prog.underlying 75 = some (.slice 20) := by kernel_rfl
end HdYtoanlikkhjohpaaGreatV17
open HdYtoanlikkhjohpaaGreatV17

set_option maxHeartbeats 4000000 in
set_option maxRecDepth 100000 in
theorem list_t (l : List RowD)  :
    CD Tryz.prog 43 [] [.ifc 121 (.agg [.sh 2 (l.map RowD.d)])] (isR (.sh 2 (l.map RowD.d))) := by
  refine zA Tryz.func43 rfl (N := 16) rfl rfl (fun C => ?_)
  refine JD.keep [0] [(0, .ifc 121 (.agg [.sh 2 (l.map RowD.d)]))] rfl (zd _ _ rfl rfl rfl (zb rfl (za rfl rfl (zg rfl) (zf rfl (ze (zd _ _ rfl rfl rfl (zd _ _ rfl rfl rfl (zb rfl (za rfl rfl (zc rfl) (za rfl rfl (zb1 rfl (fun _ _ => by kernel_rfl)) (za rfl rfl (zc rfl) (za rfl rfl (zY rfl rfl) (za rfl rfl (zY rfl rfl) (zi rfl rfl (zao (zv := (.agg #[(.slice none 0 0)])) Tryz.zeroValue121 ⟨rfl, trivial⟩ (Cv.vagg (by decide))) ?_))))))))))))))
  rintro _ _ ⟨g1, rfl, rfl⟩
  refine zi rfl rfl (zO (i := 0) (X' := .agg [.sh 2 (l.map RowD.d)]) rfl rfl rfl (CellD.agg) Tryz.sizeOf121 rfl rfl rfl) ?_
  rintro _ _ ⟨rfl, rfl⟩
  refine OpsD.norm [.bx g1 121 (.agg [.sh 2 (l.map RowD.d)])] rfl (za rfl rfl (zg rfl) (zf rfl (ze (zd _ _ rfl rfl rfl (zb rfl (za rfl rfl (zc rfl) (zf rfl (ze (zbx _ rfl rfl rfl (zd _ _ rfl rfl rfl (zb rfl (za rfl rfl (zh rfl fa_121_0 rfl) (za rfl rfl (zm rfl (i := 0) rfl Tryz.isAgg22 rfl) (za rfl rfl (zg rfl) (zf rfl (ze (JD.keep [0, 2] [(0, .ifc 121 (.agg [.sh 2 (l.map RowD.d)])), (2, .sh 2 (l.map RowD.d))] rfl (zH rfl (zL ?_)))))))))))))))))))
  exact zG Tryz.results43 (.cons (zI rfl) .nil) rfl HSub.none ⟨rfl, rfl⟩

set_option maxHeartbeats 4000000 in
set_option maxRecDepth 100000 in
theorem list_f (l : List RowD)  :
    CD Tryz.prog 43 [] [.ifc 120 (.agg [.sh 2 (l.map RowD.d)])] (isR (.sh 2 (l.map RowD.d))) := by
  refine zA Tryz.func43 rfl (N := 16) rfl rfl (fun C => ?_)
  refine JD.keep [0] [(0, .ifc 120 (.agg [.sh 2 (l.map RowD.d)]))] rfl (zd _ _ rfl rfl rfl (zb rfl (za rfl rfl (zg rfl) (zf rfl (ze (zd _ _ rfl rfl rfl (zd _ _ rfl rfl rfl (zb rfl (za rfl rfl (zc rfl) (za rfl rfl ((zb2 (zv := (.agg #[(.slice none 0 0)])) rfl (fun _ _ => by kernel_rfl)).cv (Cv.tup (.cons (Cv.vagg (by decide)) (.cons Cv.rfl' .nil)))) (za rfl rfl (zc rfl) (za rfl rfl (zY rfl rfl) (za rfl rfl (zY rfl rfl) (zi rfl rfl (zao (zv := (.agg #[(.slice none 0 0)])) Tryz.zeroValue121 ⟨rfl, trivial⟩ (Cv.vagg (by decide))) ?_))))))))))))))
  rintro _ _ ⟨g1, rfl, rfl⟩
  refine zi rfl rfl (zO (i := 0) (X' := .agg [dZ]) rfl rfl rfl (CellD.agg) Tryz.sizeOf121 rfl rfl rfl) ?_
  rintro _ _ ⟨rfl, rfl⟩
  refine OpsD.norm [.bx g1 121 (.agg [dZ])] rfl (za rfl rfl (zg rfl) (zf rfl (ze (zd _ _ rfl rfl rfl (zb rfl (za rfl rfl (zc rfl) (zf rfl (ze (zaw _ rfl rfl rfl (zD rfl (ze (zd _ _ rfl rfl rfl (zb rfl (za rfl rfl (zc rfl) (za rfl rfl (p_assert_1 rfl (fun _ _ => by kernel_rfl)) (za rfl rfl (p_field rfl rfl rfl fg_120_0 rfl) (za rfl rfl (zg rfl) (zf rfl (ze (JD.keep [2] [(2, .sh 2 (l.map RowD.d))] rfl (zH rfl ?_)))))))))))))))))))))
  exact zG Tryz.results43 (.cons (zI rfl) .nil) rfl HSub.none ⟨rfl, rfl⟩

theorem list_c (x : RunD) : CD Tryz.prog 43 [] [RunD.d x] (isR (.sh 2 (x.l.map RowD.d))) := by
  obtain ⟨m, l⟩ := x
  cases m
  · exact list_f l
  · exact list_t l

set_option maxHeartbeats 4000000 in
set_option maxRecDepth 100000 in
theorem heads_c (o : Int) (ll : LLs) (nl : ll.length ≤ 1000000000) (nt : za5 ll ≤ 1000000000) :
    CD Tryz.prog 141 [] [dI o, .sh 1 (ll.map (D.ls 2 RowD.d))] (zc2 1 3 ((runR o ll).2.map dN)) := by
  refine zA Tryz.func141 rfl (N := 14) rfl rfl (fun C => ?_)
  refine JD.keep [0, 1] [(0, dI o), (1, .sh 1 (ll.map (D.ls 2 RowD.d)))] rfl ?_
  refine JD.bd 1 rfl (fun bd1 => ?_)
  have nl1 := zaB bd1
  refine zd _ _ rfl rfl rfl (zb rfl (za rfl rfl (zg rfl) (zf rfl (ze (zd _ _ rfl rfl rfl (zb rfl (za rfl rfl (zc rfl) (za rfl rfl (zc rfl) (zi rfl rfl (zx [] [] [] rfl rfl (.cons ArgC.id (.cons ArgC.id .nil)) zr Tryz.call143 (all_c o ll nl nt) (.inl rfl)) ?_)))))))))
  rintro _ _ ⟨_, ⟨ov, hv, rs, hs, rfl, rfl, hrun⟩, rfl⟩
  refine OpsD.norm [.sl ov 2 71 (rs.map RowD.d), .sl hv 1 3 (hs.map dN)] rfl (za rfl rfl (zc rfl) (za rfl rfl (zY rfl rfl) (za rfl rfl (zY rfl rfl) (za rfl rfl (zg rfl) (za rfl rfl (zg rfl) (zf rfl (ze (JD.keep [4, 6] [(4, dZ), (6, .ov hv)] rfl (zd _ _ rfl rfl rfl (zb rfl (za rfl rfl (zc rfl) (za rfl rfl (zg rfl) (zf rfl (ze (zH rfl ?_)))))))))))))))
  have hrr := runR_eq hrun
  refine PD.norm [.sl ov 2 71 (rs.map RowD.d), .sl hv 1 3 (((runR o ll).2).map dN)] (by rw [hrr]) (PD.subH (HSub.less (zb5 (i := 1) rfl)) ?_)
  exact zbr Tryz.results141 (.cons (zI rfl) .nil) rfl ⟨_, rfl, rfl⟩

set_option maxHeartbeats 4000000 in
set_option maxRecDepth 100000 in
theorem rows_c (o : Int) (ll : LLs) (nl : ll.length ≤ 1000000000) (nt : za5 ll ≤ 1000000000) :
    CD Tryz.prog 106 [] [dI o, .sh 1 (ll.map (D.ls 2 RowD.d))] (zc2 2 71 ((runR o ll).1.map RowD.d)) := by
  refine zA Tryz.func106 rfl (N := 14) rfl rfl (fun C => ?_)
  refine JD.keep [0, 1] [(0, dI o), (1, .sh 1 (ll.map (D.ls 2 RowD.d)))] rfl ?_
  refine JD.bd 1 rfl (fun bd1 => ?_)
  have nl1 := zaB bd1
  refine zd _ _ rfl rfl rfl (zb rfl (za rfl rfl (zg rfl) (zf rfl (ze (zd _ _ rfl rfl rfl (zb rfl (za rfl rfl (zc rfl) (za rfl rfl (zc rfl) (zi rfl rfl (zx [] [] [] rfl rfl (.cons ArgC.id (.cons ArgC.id .nil)) zr Tryz.call143 (all_c o ll nl nt) (.inl rfl)) ?_)))))))))
  rintro _ _ ⟨_, ⟨ov, hv, rs, hs, rfl, rfl, hrun⟩, rfl⟩
  refine OpsD.norm [.sl ov 2 71 (rs.map RowD.d), .sl hv 1 3 (hs.map dN)] rfl (za rfl rfl (zc rfl) (za rfl rfl (zY rfl rfl) (za rfl rfl (zY rfl rfl) (za rfl rfl (zg rfl) (za rfl rfl (zg rfl) (zf rfl (ze (JD.keep [4, 5] [(4, dZ), (5, .ov ov)] rfl (zd _ _ rfl rfl rfl (zb rfl (za rfl rfl (zc rfl) (za rfl rfl (zg rfl) (zf rfl (ze (zH rfl ?_)))))))))))))))
  have hrr := runR_eq hrun
  refine PD.norm [.sl ov 2 71 (((runR o ll).1).map RowD.d), .sl hv 1 3 (hs.map dN)] (by rw [hrr]) (PD.subH (HSub.less (zb5 (i := 0) rfl)) ?_)
  exact zbr Tryz.results106 (.cons (zI rfl) .nil) rfl ⟨_, rfl, rfl⟩

set_option maxHeartbeats 4000000 in
set_option maxRecDepth 100000 in
theorem give_c (gs gp : Nat) (u : Value) (o fan : Int) (s : SortD) (l : List RowD) (hp : s.p.Ok) (hl : z9 l) :
    CD Tryz.prog 140 [.bx gs 77 (.agg [dI o, dI fan, dP gp 0, .ov u, dI s.nr, dI s.nm, dI 0]), .bx gp 115 (.agg [dI s.p.room, dI s.p.now, dI s.p.high])] [dP gs 0, .sh 2 (l.map RowD.d)] (fun r H' => r = .tup [] ∧ H' = [.bx gs 77 (.agg [dI o, dI fan, dP gp 0, .ov u, dI s.nr, dI s.nm, dI 0]), .bx gp 115 (.agg [dI ((z0 s.p l).room), dI ((z0 s.p l).now), dI ((z0 s.p l).high)])]) := by
  refine zA Tryz.func140 rfl (N := 20) rfl rfl (fun C => ?_)
  refine JD.keep [0, 1] [(0, dP gs 0), (1, .sh 2 (l.map RowD.d))] rfl ?_
  refine JD.bd 1 rfl (fun bd1 => ?_)
  have nl1 := zaB bd1
  refine zd _ _ rfl rfl rfl (zb rfl (za rfl rfl (zc rfl) (za rfl rfl (zat (n := l.length) rfl Tryz.runUnderlying22 (by simp only [lm, lc, ln])) (za rfl rfl (zc rfl) (zf rfl (ze (zu _ rfl rfl (zM (fun (g : Nat) => [(0, dP gs 0), (6, .sh 2 (l.map RowD.d)), (7, dN l.length), (8, dN g)]) (fun (g : Nat) => [.bx gs 77 (.agg [dI o, dI fan, dP gp 0, .ov u, dI s.nr, dI s.nm, dI 0]), .bx gp 115 (.agg [dI ((z0 s.p (l.take g)).room), dI ((z0 s.p (l.take g)).now), dI ((z0 s.p (l.take g)).high)])]) (fun (g : Nat) => True) (fun (g : Nat) => l.length - g) _ 0 rfl rfl ⟨sk rfl, sk rfl, sk rfl, sk rfl, trivial⟩ HSub.rfl' trivial ?_))))))))
  rintro k _
  refine JD.keep [0, 6, 7, 8] [(0, dP gs 0), (6, .sh 2 (l.map RowD.d)), (7, dN l.length), (8, dN k)] rfl (JD.norm [.bx gs 77 (.agg [dI o, dI fan, dP gp 0, .ov u, dI s.nr, dI s.nm, dI 0]), .bx gp 115 (.agg [dI ((z0 s.p (l.take k)).room), dI ((z0 s.p (l.take k)).now), dI ((z0 s.p (l.take k)).high)])] rfl (zd _ _ rfl rfl rfl (zb rfl (za rfl rfl (zU rfl rfl rfl) (zf rfl (ze (zd _ _ rfl rfl rfl ?_)))))))
  refine zy _ _ rfl rfl rfl rfl (fun hc1 => ?_) (fun hc1 => ?_)
  · replace hc1 := of_decide_eq_true hc1
    refine zD rfl (ze (zd _ _ rfl rfl rfl (zu _ rfl rfl (zd _ _ rfl rfl rfl (zb rfl ?_)))))
    obtain ⟨x1, hx1⟩ := zJ l k (by omega)
    have hcbx1 := zaP (hl x1 (zai hx1))
    refine za rfl rfl (zE (k := k) rfl rfl Tryz.runUnderlying22 Tryz.sizeOf71 (by first | rfl | omega) (zl hx1)) (za rfl rfl (zaj (d := RowD.d x1) rfl Tryz.isAgg71 Tryz.sizeOf71 rfl rfl) (zi rfl rfl (zao (zv := (.agg #[(.slice none 0 0), (.int .i64 0)])) Tryz.zeroValue71 ⟨rfl, rfl, trivial⟩ (Cv.vagg (by decide))) ?_))
    rintro _ _ ⟨g2, rfl, rfl⟩
    refine zi rfl rfl (zO (i := 0) (X' := RowD.d x1) rfl rfl rfl (CellD.agg) Tryz.sizeOf71 rfl rfl rfl) ?_
    rintro _ _ ⟨rfl, rfl⟩
    refine OpsD.norm [.bx g2 71 (RowD.d x1), .bx gs 77 (.agg [dI o, dI fan, dP gp 0, .ov u, dI s.nr, dI s.nm, dI 0]), .bx gp 115 (.agg [dI ((z0 s.p (l.take k)).room), dI ((z0 s.p (l.take k)).now), dI ((z0 s.p (l.take k)).high)])] rfl (zf rfl (ze (JD.keep [0, 5, 6, 7, 8, 9, 10, 11] [(0, dP gs 0), (5, dP g2 0), (6, .sh 2 (l.map RowD.d)), (7, dN l.length), (8, dN k), (9, dB (decide (((k : Nat) : Int) < ((l.length : Nat) : Int)))), (10, .el (RowD.d x1) 0), (11, RowD.d x1)] rfl (JD.norm [.bx g2 71 (RowD.d x1), .bx gs 77 (.agg [dI o, dI fan, dP gp 0, .ov u, dI s.nr, dI s.nm, dI 0]), .bx gp 115 (.agg [dI ((z0 s.p (l.take k)).room), dI ((z0 s.p (l.take k)).now), dI ((z0 s.p (l.take k)).high)])] rfl ?_))))
    refine z7 6 [(12, dP gs 0, none), (13, dP gs 0, none), (14, dP gs 2, none), (15, dP gp 0, none), (16, RowD.d x1, none), (17, dI (zp x1), none)] [.bx g2 71 (RowD.d x1), .bx gs 77 (.agg [dI o, dI fan, dP gp 0, .ov u, dI s.nr, dI s.nm, dI 0]), .bx gp 115 (.agg [dI ((z0 s.p (l.take k)).room), dI ((z0 s.p (l.take k)).now), dI ((z0 s.p (l.take k)).high)])] (Hn := [.bx g2 71 (RowD.d x1), .bx gs 77 (.agg [dI o, dI fan, dP gp 0, .ov u, dI s.nr, dI s.nm, dI 0]), .bx gp 115 (.agg [dI ((z0 s.p (l.take k)).room), dI ((z0 s.p (l.take k)).now), dI ((z0 s.p (l.take k)).high)])]) zar rfl rfl rfl rfl HSub.rfl' rfl ⟨sa_p rfl rfl rfl (zc rfl), sa_p rfl rfl rfl (zs rfl), sa_p rfl rfl rfl (zh rfl zch rfl), sa_p rfl rfl rfl (zm rfl (i := 1) rfl Tryz.isAgg73 rfl), sa_p rfl rfl rfl (zaq (d := RowD.d x1) rfl (i := 0) rfl Tryz.isAgg71 Tryz.sizeOf71 rfl rfl), sa_q rfl rfl rfl (zbw rfl (.cons Cv.rfl' .nil) Tryz.call45 (zde x1 (hl x1 (zai hx1))) zby), trivial⟩ ?_
    refine OpsD.keep [0, 5, 6, 7, 8, 9, 10, 11, 12, 13, 14, 15, 16, 17] [(0, dP gs 0), (5, dP g2 0), (6, .sh 2 (l.map RowD.d)), (7, dN l.length), (8, dN k), (9, dB (decide (((k : Nat) : Int) < ((l.length : Nat) : Int)))), (10, .el (RowD.d x1) 0), (11, RowD.d x1), (12, dP gs 0), (13, dP gs 0), (14, dP gs 2), (15, dP gp 0), (16, RowD.d x1), (17, dI (zp x1))] rfl (OpsD.subH (HSub.perm (zk (i := 2) rfl)) (OpsD.norm [.bx gp 115 (.agg [dI ((z0 s.p (l.take k)).room), dI ((z0 s.p (l.take k)).now), dI ((z0 s.p (l.take k)).high)]), .bx g2 71 (RowD.d x1), .bx gs 77 (.agg [dI o, dI fan, dP gp 0, .ov u, dI s.nr, dI s.nm, dI 0])] rfl ?_))
    refine zi rfl rfl (zx [.bx gp 115 (.agg [dI ((z0 s.p (l.take k)).room), dI ((z0 s.p (l.take k)).now), dI ((z0 s.p (l.take k)).high)])] [.bx g2 71 (RowD.d x1), .bx gs 77 (.agg [dI o, dI fan, dP gp 0, .ov u, dI s.nr, dI s.nm, dI 0])] [] rfl rfl (.cons ArgC.id (.cons ArgC.id .nil)) zr Tryz.call142 (Give_c gp (z0 s.p (l.take k)) (zp x1) (giveAll_ok hp _).1 (by omega)) (.inl rfl)) ?_
    rintro _ _ ⟨_, ⟨rfl, rfl⟩, rfl⟩
    refine OpsD.norm [.bx gp 115 (.agg [dI (((z0 s.p (l.take k)).give (zp x1)).room), dI (((z0 s.p (l.take k)).give (zp x1)).now), dI (((z0 s.p (l.take k)).give (zp x1)).high)]), .bx g2 71 (RowD.d x1), .bx gs 77 (.agg [dI o, dI fan, dP gp 0, .ov u, dI s.nr, dI s.nm, dI 0])] rfl (zf rfl (zP (ze (zb rfl (za rfl rfl (z5 (c := ((k + 1 : Nat) : Int)) rfl rfl (zR (by omega) (by omega))) (za rfl rfl (zc rfl) (zf rfl (PD.subH (HSub.perm (zk (i := 2) rfl)) (PD.norm [.bx gs 77 (.agg [dI o, dI fan, dP gp 0, .ov u, dI s.nr, dI s.nm, dI 0]), .bx gp 115 (.agg [dI (((z0 s.p (l.take k)).give (zp x1)).room), dI (((z0 s.p (l.take k)).give (zp x1)).now), dI (((z0 s.p (l.take k)).give (zp x1)).high)]), .bx g2 71 (RowD.d x1)] rfl (PD.subH (HSub.fst 2 rfl) ?_))))))))))
    refine PD.norm [.bx gs 77 (.agg [dI o, dI fan, dP gp 0, .ov u, dI s.nr, dI s.nm, dI 0]), .bx gp 115 (.agg [dI (((z0 s.p (l.take k)).give (zp x1)).room), dI (((z0 s.p (l.take k)).give (zp x1)).now), dI (((z0 s.p (l.take k)).give (zp x1)).high)])] rfl (PD.norm [.bx gs 77 (.agg [dI o, dI fan, dP gp 0, .ov u, dI s.nr, dI s.nm, dI 0]), .bx gp 115 (.agg [dI ((z0 s.p (l.take (k + 1))).room), dI ((z0 s.p (l.take (k + 1))).now), dI ((z0 s.p (l.take (k + 1))).high)])] (by rw [giveAll_snoc hx1]) ?_)
    exact zW (k + 1) ⟨sk rfl, sk rfl, sk rfl, sk rfl, trivial⟩ HSub.rfl' trivial (by omega)
  · replace hc1 := of_decide_eq_false hc1
    refine zN rfl (zw (zt (zq (PD.norm [.bx gs 77 (.agg [dI o, dI fan, dP gp 0, .ov u, dI s.nr, dI s.nm, dI 0]), .bx gp 115 (.agg [dI ((z0 s.p l).room), dI ((z0 s.p l).now), dI ((z0 s.p l).high)])] (by rw [List.take_of_length_le (by omega)]) ?_))))
    exact zaO Tryz.results140 .nil rfl (HSub.fst 2 rfl) ⟨rfl, rfl⟩

set_option maxHeartbeats 4000000 in
set_option maxRecDepth 100000 in
theorem end_c (gs gp : Nat) (u : Value) (o fan : Int) (s : SortD) (l : List RowD) (hp : s.p.Ok) (hnr : 0 ≤ s.nr ∧ s.nr ≤ 100000) (hlr : s.runs.length ≤ 100000) (hl : z9 l) (hll : l.length ≤ 1000000) :
    CD Tryz.prog 104 [.bx gs 77 (.agg [dI o, dI fan, dP gp 0, .ov u, dI s.nr, dI s.nm, dI 0]), .bx gp 115 (.agg [dI s.p.room, dI s.p.now, dI s.p.high]), .slo u 1 20 (s.runs.map RunD.d)] [dP gs 0, .sh 2 (l.map RowD.d)] (fun r H' => ∃ u', r = .tup [] ∧ H' = [.bx gs 77 (.agg [dI o, dI fan, dP gp 0, .ov u', dI ((endS o s l).nr), dI ((endS o s l).nm), dI 0]), .bx gp 115 (.agg [dI (((endS o s l).p).room), dI (((endS o s l).p).now), dI (((endS o s l).p).high)]), .slo u' 1 20 (((endS o s l).runs).map RunD.d)]) := by
  refine zA Tryz.func104 rfl (N := 36) rfl rfl (fun C => ?_)
  refine JD.keep [0, 1] [(0, dP gs 0), (1, .sh 2 (l.map RowD.d))] rfl ?_
  refine JD.bd 1 rfl (fun bd1 => ?_)
  have nl1 := zaB bd1
  refine zd _ _ rfl rfl rfl (zb rfl (za rfl rfl (zc rfl) (za rfl rfl (zat (n := l.length) rfl Tryz.runUnderlying22 (by simp only [lm, lc, ln])) (za rfl rfl (za4 rfl rfl rfl) (zf rfl (ze ?_))))))
  refine zy _ _ rfl rfl rfl rfl (fun hc1 => ?_) (fun hc1 => ?_)
  · replace hc1 := of_decide_eq_true hc1
    refine zd _ _ rfl rfl rfl (JD.subH (HSub.perm (zk (i := 2) rfl)) (JD.norm [.slo u 1 20 (s.runs.map RunD.d), .bx gs 77 (.agg [dI o, dI fan, dP gp 0, .ov u, dI s.nr, dI s.nm, dI 0]), .bx gp 115 (.agg [dI s.p.room, dI s.p.now, dI s.p.high])] rfl (JD.keep [0, 1, 4, 5, 6] [(0, dP gs 0), (1, .sh 2 (l.map RowD.d)), (4, .sh 2 (l.map RowD.d)), (5, dN l.length), (6, dB (decide ((0 : Int) < ((l.length : Nat) : Int))))] rfl (JD.norm [.slo u 1 20 (s.runs.map RunD.d), .bx gs 77 (.agg [dI o, dI fan, dP gp 0, .ov u, dI s.nr, dI s.nm, dI 0]), .bx gp 115 (.agg [dI s.p.room, dI s.p.now, dI s.p.high])] rfl ?_))))
    refine zbD 15 [(7, .q (dP gs 0)), (8, .q (dP gs 0)), (9, .q (dP gs 0)), (10, .q (dP gs 3)), (11, .q (.ov u)), (12, .q (dP gs 0)), (13, .q (dP gs 0)), (14, .q (dP gs 0)), (15, .q (dI o)), (16, .q (.sh 2 (l.map RowD.d))), (17, .q (.sh 2 ((zag (zC o) l).map RowD.d))), (18, .q (.agg [.sh 2 ((zag (zC o) l).map RowD.d)])), (19, .q (.ifc 121 (.agg [.sh 2 ((zag (zC o) l).map RowD.d)]))), (20, .q (.sh 1 ([(RunD.mk true (zag (zC o) l))].map RunD.d))), (21, .o (fun γ => [.slo (γ 14) 1 20 ((s.runs ++ [(RunD.mk true (zag (zC o) l))]).map RunD.d), .bx gs 77 (.agg [dI o, dI fan, dP gp 0, .ov u, dI s.nr, dI s.nm, dI 0]), .bx gp 115 (.agg [dI s.p.room, dI s.p.now, dI s.p.high])]))] [.bx gs 77 (.agg [dI o, dI fan, dP gp 0, .ov u, dI s.nr, dI s.nm, dI 0]), .bx gp 115 (.agg [dI s.p.room, dI s.p.now, dI s.p.high])] (Hn := fun γ => [.slo (γ 14) 1 20 ((s.runs ++ [(RunD.mk true (zag (zC o) l))]).map RunD.d), .bx gs 77 (.agg [dI o, dI fan, dP gp 0, .ov u, dI s.nr, dI s.nm, dI 0]), .bx gp 115 (.agg [dI s.p.room, dI s.p.now, dI s.p.high])]) zar rfl rfl (by kernel_rfl) (by kernel_rfl) (by kernel_rfl) (HSub.lst 1 rfl) (fun _ => rfl) (fun γ => ⟨so_p rfl rfl rfl (zc rfl), so_p rfl rfl rfl (zc rfl), so_p rfl rfl rfl (zs rfl), so_p rfl rfl rfl (zh rfl zcg rfl), so_p rfl rfl rfl (zm rfl (i := 0) rfl Tryz.isAgg75 rfl), so_p rfl rfl rfl (zc rfl), so_p rfl rfl rfl (zs rfl), so_p rfl rfl rfl (zh rfl zdl rfl), so_p rfl rfl rfl (zm rfl (i := 0) rfl Tryz.isAgg3 rfl), so_p rfl rfl rfl (zc rfl), so_q rfl rfl rfl (zbw rfl (.cons Cv.rfl' (.cons Cv.rfl' .nil)) Tryz.call139 (SortR_c o l (by omega)) isOwn_share), so_p rfl rfl rfl (zau [0] [.tmp 17] (zv := (.agg #[(.slice none 0 0)])) rfl rfl (.cons CellD.sh .nil) (Tryz.runUnderlying121) Tryz.zeroValue121 bd_121 ⟨rfl, trivial⟩ rfl), so_p rfl rfl rfl (zaZ rfl (fun _ _ => by kernel_rfl)), so_q rfl rfl rfl (zaT [.tmp 19] rfl rfl (.cons CellD.ifc .nil) rfl Tryz.runUnderlying75 Tryz.sizeOf20 Tryz.zeroValue20 rfl rfl rfl rfl), so_o rfl rfl rfl rfl ((ef_append_slo (f := RunD.d) (l := s.runs) (l' := [(RunD.mk true (zag (zC o) l))]) (i := 0) rfl rfl rfl (SrcD.sh) (by simp) und_75 infz_20 rfl rfl (by unfold maxLen; (try simp only [la, lc, ln, lm, lt', ld, ls, lr]); omega) (by (try simp only [la, lc, ln, lm, lt', ld, ls, lr]); omega)).mono (by rintro _ _ ⟨v, rfl, rfl⟩; exact ⟨v, rfl, rfl⟩)) (fun _ => HSub.lst 1 rfl), trivial⟩) (fun γ => ?_)
    refine OpsD.keep [0, 1, 4, 5, 6, 7, 8, 9, 10, 11, 12, 13, 14, 15, 16, 17, 18, 19, 20, 21] [(0, dP gs 0), (1, .sh 2 (l.map RowD.d)), (4, .sh 2 (l.map RowD.d)), (5, dN l.length), (6, dB (decide ((0 : Int) < ((l.length : Nat) : Int)))), (7, dP gs 0), (8, dP gs 0), (9, dP gs 0), (10, dP gs 3), (11, .ov u), (12, dP gs 0), (13, dP gs 0), (14, dP gs 0), (15, dI o), (16, .sh 2 (l.map RowD.d)), (17, .sh 2 ((zag (zC o) l).map RowD.d)), (18, .agg [.sh 2 ((zag (zC o) l).map RowD.d)]), (19, .ifc 121 (.agg [.sh 2 ((zag (zC o) l).map RowD.d)])), (20, .sh 1 ([(RunD.mk true (zag (zC o) l))].map RunD.d)), (21, .ov (γ 14))] rfl (za rfl rfl (zs rfl) (za rfl rfl (zh rfl zcg rfl) (zi rfl rfl (zO (i := 1) (X' := .agg [dI o, dI fan, dP gp 0, .ov (γ 14), dI s.nr, dI s.nm, dI 0]) rfl rfl rfl (CellD.o) Tryz.sizeOf75 rfl rfl rfl) ?_)))
    rintro _ _ ⟨rfl, rfl⟩
    refine OpsD.norm [.slo (γ 14) 1 20 ((s.runs ++ [(RunD.mk true (zag (zC o) l))]).map RunD.d), .bx gs 77 (.agg [dI o, dI fan, dP gp 0, .ov (γ 14), dI s.nr, dI s.nm, dI 0]), .bx gp 115 (.agg [dI s.p.room, dI s.p.now, dI s.p.high])] rfl (zf rfl (ze (JD.keep [0, 1] [(0, dP gs 0), (1, .sh 2 (l.map RowD.d))] rfl (zd _ _ rfl rfl rfl (zb rfl (za rfl rfl (zc rfl) (za rfl rfl (zs rfl) (za rfl rfl (zh rfl zcS rfl) (za rfl rfl (zh rfl fa_40_0 rfl) (za rfl rfl (zm rfl (i := 1) rfl Tryz.isAgg3 rfl) (za rfl rfl (z5 (c := (s.nr + 1)) rfl rfl (zR (by omega) (by omega))) (za rfl rfl (zs rfl) (za rfl rfl (zh rfl zcS rfl) (za rfl rfl (zh rfl fa_40_0 rfl) (zi rfl rfl (zO (i := 1) (X' := .agg [dI o, dI fan, dP gp 0, .ov (γ 14), dI (s.nr + 1), dI s.nm, dI 0]) rfl rfl rfl (CellD.v rfl) Tryz.sizeOf3 rfl rfl rfl) ?_)))))))))))))))
    rintro _ _ ⟨rfl, rfl⟩
    refine OpsD.norm [.slo (γ 14) 1 20 ((s.runs ++ [(RunD.mk true (zag (zC o) l))]).map RunD.d), .bx gs 77 (.agg [dI o, dI fan, dP gp 0, .ov (γ 14), dI (s.nr + 1), dI s.nm, dI 0]), .bx gp 115 (.agg [dI s.p.room, dI s.p.now, dI s.p.high])] rfl (zf rfl (ze (JD.keep [0, 1] [(0, dP gs 0), (1, .sh 2 (l.map RowD.d))] rfl (zb rfl (za rfl rfl (zc rfl) (za rfl rfl (zc rfl) (OpsD.subH (HSub.perm (zk (i := 2) rfl)) (OpsD.norm [.bx gp 115 (.agg [dI s.p.room, dI s.p.now, dI s.p.high]), .slo (γ 14) 1 20 ((s.runs ++ [(RunD.mk true (zag (zC o) l))]).map RunD.d), .bx gs 77 (.agg [dI o, dI fan, dP gp 0, .ov (γ 14), dI (s.nr + 1), dI s.nm, dI 0])] rfl (OpsD.subH (HSub.perm (zk (i := 2) rfl)) (OpsD.norm [.bx gs 77 (.agg [dI o, dI fan, dP gp 0, .ov (γ 14), dI (s.nr + 1), dI s.nm, dI 0]), .bx gp 115 (.agg [dI s.p.room, dI s.p.now, dI s.p.high]), .slo (γ 14) 1 20 ((s.runs ++ [(RunD.mk true (zag (zC o) l))]).map RunD.d)] rfl ?_))))))))))
    refine zi rfl rfl (zx [.bx gs 77 (.agg [dI o, dI fan, dP gp 0, .ov (γ 14), dI (s.nr + 1), dI s.nm, dI 0]), .bx gp 115 (.agg [dI s.p.room, dI s.p.now, dI s.p.high])] [.slo (γ 14) 1 20 ((s.runs ++ [(RunD.mk true (zag (zC o) l))]).map RunD.d)] [] rfl rfl (.cons ArgC.id (.cons ArgC.id .nil)) zr Tryz.call140 (give_c gs gp (γ 14) o fan (SortD.mk [] (s.nr + 1) s.nm s.p) l hp hl) (.inl rfl)) ?_
    rintro _ _ ⟨_, ⟨rfl, rfl⟩, rfl⟩
    refine OpsD.norm [.bx gs 77 (.agg [dI o, dI fan, dP gp 0, .ov (γ 14), dI (s.nr + 1), dI s.nm, dI 0]), .bx gp 115 (.agg [dI ((z0 s.p l).room), dI ((z0 s.p l).now), dI ((z0 s.p l).high)]), .slo (γ 14) 1 20 ((s.runs ++ [(RunD.mk true (zag (zC o) l))]).map RunD.d)] rfl (zf rfl (PD.norm [.bx gs 77 (.agg [dI o, dI fan, dP gp 0, .ov (γ 14), dI (s.nr + 1), dI s.nm, dI 0]), .bx gp 115 (.agg [dI ((z0 s.p l).room), dI ((z0 s.p l).now), dI ((z0 s.p l).high)]), .slo (γ 14) 1 20 ((s.runs ++ [(RunD.mk true (zag (zC o) l))]).map RunD.d)] rfl (PD.norm [.bx gs 77 (.agg [dI o, dI fan, dP gp 0, .ov (γ 14), dI ((endS o s l).nr), dI ((endS o s l).nm), dI 0]), .bx gp 115 (.agg [dI (((endS o s l).p).room), dI (((endS o s l).p).now), dI (((endS o s l).p).high)]), .slo (γ 14) 1 20 (((endS o s l).runs).map RunD.d)] (by rw [zbV (by omega)]) ?_)))
    exact zaO Tryz.results104 .nil rfl HSub.rfl' ⟨_, rfl, rfl⟩
  · replace hc1 := of_decide_eq_false hc1
    refine zD rfl (PD.norm [.bx gs 77 (.agg [dI o, dI fan, dP gp 0, .ov u, dI s.nr, dI s.nm, dI 0]), .bx gp 115 (.agg [dI s.p.room, dI s.p.now, dI s.p.high]), .slo u 1 20 (s.runs.map RunD.d)] rfl (PD.norm [.bx gs 77 (.agg [dI o, dI fan, dP gp 0, .ov u, dI ((endS o s l).nr), dI ((endS o s l).nm), dI 0]), .bx gp 115 (.agg [dI (((endS o s l).p).room), dI (((endS o s l).p).now), dI (((endS o s l).p).high)]), .slo u 1 20 (((endS o s l).runs).map RunD.d)] (by rw [zcw (by omega)]) ?_))
    exact zaO Tryz.results104 .nil rfl HSub.rfl' ⟨_, rfl, rfl⟩
end Lp
