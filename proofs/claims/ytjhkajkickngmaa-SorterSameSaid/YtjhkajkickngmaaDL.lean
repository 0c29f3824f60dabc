/-
  The tail of a row of the call's own, as a slice: read, cut and grown.
-/
import Derived.Test.YtjhkajkickngmaaPSorter
set_option linter.unusedVariables false
namespace Lp
open Go Go.RowKit

theorem Qu.ef {P : Program} {op : Op} {ty : TypeId} {K : Kd} {H : List Hp} {d : D} (h : Qu P op ty K H d) : Ef P op ty K H (fun d' H' => d' = d ∧ H' = H) := ⟨fun C ρ w F hk g => (h.out ρ w F hk g.flt g.h.ok).mono fun u w' ⟨E, hr⟩ => by
  obtain ⟨g', k⟩ := g.fn E
  exact ⟨_, d, H, ⟨rfl, rfl⟩, hr, g', k⟩⟩
theorem addr_add (g o j : Nat) : (⟨g, o, none⟩ : Addr).add j = ⟨g, o + j, none⟩ := by cases j <;> simp [Addr.add]
/-- a row is a tail of itself -/
theorem HSub.slo {H : List Hp} {v : Value} {z : Nat} {T : TypeId} {xs : List D} : HSub (.sl v z T xs :: H) (.slo v z T xs :: H) := ⟨fun C w F gd => by
  have key : (Hp.sl v z T xs).ok w F → (Hp.slo v z T xs).ok w F := by
    rintro ⟨us, hr, ho⟩
    refine ⟨us, hr, ?_⟩
    have hm := ho.1
    rcases hm.2 with ⟨e, h0⟩ | ⟨g, cap, cur, e, hb, hg, hc, rest⟩
    · exact ⟨Option.none, 0, by rw [e, h0], by omega, .inl rfl⟩
    · refine ⟨_, cap, e, hc, .inr ⟨g, [], by simp, ?_⟩⟩
      simp only [List.length_nil, Nat.zero_add, List.nil_append]
      rw [← e]; exact ho
  have hbl : ∀ b, (Hp.slo v z T xs).blk b → (Hp.sl v z T xs).blk b := by
    rintro b ⟨A, n, c, e, _, hb⟩
    show v.ownBlock = some b
    rw [e]; show some A.block = _; rw [hb]
  have ha := List.pairwise_cons.1 gd.h.apart
  exact { gd with h := ⟨List.pairwise_cons.2 ⟨fun h hh b hb => ha.1 h hh b (hbl b hb), ha.2⟩, fun h hh => by
    rcases List.mem_cons.1 hh with e | e
    · rw [e]; exact key (gd.h.ok _ List.mem_cons_self)
    · exact gd.h.ok h (List.mem_cons_of_mem _ e), fun b ⟨h, hh, hb⟩ => by
    rcases List.mem_cons.1 hh with e | e
    · rw [e] at hb; exact gd.h.mine b ⟨_, List.mem_cons_self, hbl b hb⟩
    · exact gd.h.mine b ⟨h, List.mem_cons_of_mem _ e, hb⟩⟩ }⟩
theorem cut0 {z n m c : Nat} {A : Option Addr} (h : c = 0 ∨ ∃ g o, A = some ⟨g, o, none⟩) : cut z (.slice A m c) 0 n = .slice A n c := by
  unfold cut
  simp only [Nat.zero_mul, Nat.sub_zero]
  rcases h with h | ⟨g, o, h⟩
  · rw [if_pos h]
  · subst h; rw [Option.map_some, addr_add]; simp
theorem TlOk.cut0 {w : World} {z n : Nat} {T : TypeId} {u : Value} {us : List Value} (h : TlOk w z T u us) : ∃ A c, u = .slice A us.length c ∧ us.length ≤ c ∧ Lp.cut z u 0 n = .slice A n c ∧ (0 < us.length → ∃ g o, A = some ⟨g, o, none⟩) := by
  obtain ⟨A, c, e, hle, h⟩ := h
  refine ⟨A, c, e, hle, ?_, fun hl => ?_⟩
  · rw [e]; refine Lp.cut0 ?_
    rcases h with h | ⟨g, p, h, _⟩
    · exact .inl h
    · exact .inr ⟨g, _, h⟩
  · rcases h with h | ⟨g, p, h, _⟩
    · omega
    · exact ⟨g, _, h⟩
section
variable {P : Program} {ty : TypeId} {K : Kd} {H : List Hp}
theorem p_len_slo {t e : TypeId} {x : Operand} {z n j : Nat} {u : Value} {T : TypeId} {xs : List D} (hx : opO K x = some u) (hm : nth H j = some (.slo u z T xs)) (ht : ∀ w, (underlying t).run P w = .ok (.slice e) w) (hn : xs.length = n) : Pu P (.call { callee := .builtin .len, args := #[x], argTypes := #[t] }) ty K H (.v (.int .i64 (n : Int))) :=
  ⟨fun ρ w F hk _ hH => by
    obtain ⟨us, hr, A, c, e, _⟩ := hH _ (nth_mem hm)
    exact e_len (n := n) (knows_lkO ρ [x]) (opv1 ρ (hk.opO hx)) ht ⟨A, c, by rw [e, hr.len, hn]⟩ ⟨rfl, rfl⟩⟩
/-- the front part of a tail, only to be read -/
theorem p_slice_slo {t e : TypeId} {z b j : Nat} {x : Operand} {hi : Option Operand} {u : Value} {T : TypeId} {xs : List D} {rh : Option Int} (hx : opO K x = some u) (hm : nth H j = some (.slo u z T xs)) (hhi : bndD K hi = some rh) (hb : Bnd rh xs.length b)
    (ht : ∀ w, (underlying t).run P w = .ok (.slice e) w) (hs : ∀ w, (Go.sizeOf e).run P w = .ok z w) (hbn : b ≤ xs.length) : Pu P (.slice t x none hi none) ty K H (.v (cut z u 0 b)) :=
  ⟨fun ρ w F hk hF hH => by
    obtain ⟨us, hr, A, c, e, hle, _⟩ := hH _ (nth_mem hm)
    have hl := hr.len
    exact e_slice (n := xs.length) (a := 0) (b := b) (z := z) (knows_lkO ρ [x]) (opv1 ρ (hk.opO hx)) rfl rfl (.inl ⟨rfl, rfl⟩) (hb.out (bndD_rep hk hhi)) ht hs ⟨A, c, by rw [e, hl], by omega⟩ (Nat.zero_le _) ⟨rfl, rfl⟩⟩
theorem p_len_slo_cut {t e : TypeId} {x : Operand} {z b j : Nat} {u : Value} {T : TypeId} {xs : List D} (hx : opD K x = some (.v (cut z u 0 b))) (hm : nth H j = some (.slo u z T xs)) (ht : ∀ w, (underlying t).run P w = .ok (.slice e) w) : Pu P (.call { callee := .builtin .len, args := #[x], argTypes := #[t] }) ty K H (.v (.int .i64 (b : Int))) :=
  ⟨fun ρ w F hk _ hH => by
    obtain ⟨us, hr, h⟩ := hH _ (nth_mem hm)
    obtain ⟨A, c, _, _, e, _⟩ := h.cut0 (n := b)
    exact e_len (n := b) (knows_lkO ρ [x]) (opv1 ρ (hk.op hx)) ht ⟨A, c, e⟩ ⟨rfl, rfl⟩⟩
theorem p_indexAddr_slo {t e : TypeId} {z q j : Nat} {x i : Operand} {u : Value} {kd : IntKind} {m : Int} {T : TypeId} {xs : List D} (hx : opO K x = some u) (hm : nth H j = some (.slo u z T xs)) (hi : opD K i = some (.v (.int kd m))) (ht : ∀ w, (underlying t).run P w = .ok (.slice e) w) (hs : ∀ w, (Go.sizeOf e).run P w = .ok z w) (hmq : m = (q : Int)) (hq : q < xs.length) :
    Pu P (.indexAddr t x i) ty K H (.v (.pointer (some ⟨bl u, of_ u + q * z, none⟩))) :=
  ⟨fun ρ w F hk hF hH => by
    obtain ⟨us, hr, h⟩ := hH _ (nth_mem hm)
    have hl := hr.len
    obtain ⟨A, c, e, _, _, hA⟩ := h.cut0 (n := 0)
    obtain ⟨g, o, eA⟩ := hA (by omega)
    subst eA
    exact e_indexAddr (k := q) (z := z) (knows_lkO ρ [x, i]) (opv2a ρ (hk.opO hx)) (opv2b ρ (hk.op hi)) ht hs ⟨g, o, us.length, c, e, by omega⟩ hmq ⟨rfl, rfl⟩⟩
theorem p_indexAddr_slo_cut {t e : TypeId} {z q b j : Nat} {x i : Operand} {u : Value} {kd : IntKind} {m : Int} {T : TypeId} {xs : List D} (hx : opD K x = some (.v (cut z u 0 b))) (hm : nth H j = some (.slo u z T xs)) (hi : opD K i = some (.v (.int kd m))) (ht : ∀ w, (underlying t).run P w = .ok (.slice e) w) (hs : ∀ w, (Go.sizeOf e).run P w = .ok z w) (hmq : m = (q : Int)) (hq : q < b) (hb : b ≤ xs.length) :
    Pu P (.indexAddr t x i) ty K H (.v (.pointer (some ⟨bl u, of_ u + q * z, none⟩))) :=
  ⟨fun ρ w F hk hF hH => by
    obtain ⟨us, hr, h⟩ := hH _ (nth_mem hm)
    have hl := hr.len
    obtain ⟨A, c, e, _, e2, hA⟩ := h.cut0 (n := b)
    obtain ⟨g, o, eA⟩ := hA (by omega)
    subst eA
    refine e_indexAddr (k := q) (z := z) (knows_lkO ρ [x, i]) (opv2a ρ (hk.op hx)) (opv2b ρ (hk.op hi)) ht hs ⟨g, o, b, c, e2, hq⟩ hmq ⟨rfl, ?_⟩
    rw [e2, e]; rfl⟩
theorem p_load_slo {t : TypeId} {x : Operand} {u : Value} {z q j : Nat} {T : TypeId} {xs : List D} {X d : D} (hx : opD K x = some (.v (.pointer (some ⟨bl u, of_ u + q * z, none⟩)))) (hm : nth H j = some (.slo u z T xs)) (hX : xs[q]? = some X) (hg : ∀ w, (isAgg t).run P w = .ok false w) (hd : nth X.cells 0 = some d) : Pu P (.load t x) ty K H d :=
  ⟨fun ρ w F hk _ hH => by
    obtain ⟨us, hr, A, c, e, hle, h⟩ := hH _ (nth_mem hm)
    obtain ⟨v, hv, h2, h3, h4⟩ := hr.get hX
    have hlt : q < us.length := (List.getElem?_eq_some_iff.1 hv).1
    rcases h with h | ⟨g, p, eA, ho⟩
    · omega
    · have hat := ho.sl.at_ (k := p.length + q) (x := v) (by rw [List.getElem?_append_right (by omega), show p.length + q - p.length = q by omega]; exact hv)
      have eo : of_ u = p.length * z := by rw [e, eA]; rfl
      have eb : bl u = g := by rw [e, eA]; rfl
      refine load_one (p := of_ u + q * z) (o := 0) (by rw [Nat.add_zero]; exact hk.op hx) hg h2 h3 ?_ hd
      rw [eo, eb, ← Nat.add_mul]
      simpa [bl, of_] using hat⟩
/-- what is left of a tail -/
theorem ef_slice_slo {t e : TypeId} {z a j : Nat} {x : Operand} {lo : Option Operand} {u : Value} {T : TypeId} {xs : List D} {rl : Option Int} (hx : opO K x = some u) (hm : nth H j = some (.slo u z T xs)) (hlo : bndD K lo = some rl) (ha : Bnd rl 0 a)
    (ht : ∀ w, (underlying t).run P w = .ok (.slice e) w) (hs : ∀ w, (Go.sizeOf e).run P w = .ok z w) (han : a ≤ xs.length) : Ef P (.slice t x lo none none) ty K H (fun d H' => ∃ u', d = .ov u' ∧ H' = H.set j (.slo u' z T (xs.drop a))) :=
  ⟨fun C ρ w F hk gd => by
    obtain ⟨us, hr, A, c, e, hle, h⟩ := gd.h.ok _ (nth_mem hm)
    have hl := hr.len
    refine e_slice (n := xs.length) (a := a) (b := xs.length) (z := z) (knows_lkO ρ [x]) (opv1 ρ (hk.opO hx)) rfl rfl (ha.out (bndD_rep hk hlo)) (.inl ⟨rfl, rfl⟩) ht hs ⟨A, c, by rw [e, hl], by omega⟩ han ?_
    have hdl : (us.drop a).length = xs.length - a := by rw [List.length_drop, hl]
    have hok : ∀ kp : Keep w F w F, (Hp.slo (cut z u a xs.length) z T (xs.drop a)).ok w F := fun _ => by
      refine ⟨us.drop a, hr.drop a, if c = a then A else A.map (·.add (a * z)), c - a, by rw [e, hdl]; rfl, by omega, ?_⟩
      rcases h with h | ⟨g, p, eA, ho⟩
      · left; omega
      · by_cases hca : c = a
        · left; omega
        · right
          refine ⟨g, p ++ us.take a, ?_, ?_⟩
          · rw [if_neg hca, eA, Option.map_some, addr_add, List.length_append, List.length_take, Nat.min_eq_left (by omega), Nat.add_mul]
          · rw [List.append_assoc, List.take_append_drop, List.length_append, List.length_take, Nat.min_eq_left (by omega), hdl, show p.length + a + (xs.length - a) = p.length + us.length by omega, show p.length + a + (c - a) = p.length + c by omega]
            exact ho
    have := gd.turn (h' := .slo (cut z u a xs.length) z T (xs.drop a)) hm (fun q _ _ => rfl) (Nat.le_refl _) rfl rfl rfl (fun q ⟨A', n', c', e', hc', hb'⟩ => by
      left
      rw [e] at e'
      unfold cut at e'
      injection e' with e1 _ e2
      have hca : ¬ c = a := by omega
      rw [if_neg hca] at e1
      cases hA : A with
      | none => rw [hA] at e1; cases e1
      | some A0 =>
        rw [hA] at e1; injection e1 with e1
        refine ⟨A0, _, c, by rw [e, hA], by omega, ?_⟩
        rw [← hb', ← e1]
        rcases h with h | ⟨g, p, eA, _⟩
        · omega
        · rw [eA] at hA; injection hA with hA; rw [← hA]; show _ = (Addr.add _ _).block; rw [addr_add]) hok
    exact ⟨F, .ov _, _, ⟨_, rfl, rfl⟩, ⟨rfl, by rw [e]; rfl⟩, this.1, this.2⟩⟩
end

theorem ef_slice_slo_m {P : Program} {ty : TypeId} {K : Kd} {H : List Hp} {α : Type} {f : α → D} {t e : TypeId} {z a j : Nat} {x : Operand} {lo : Option Operand} {u : Value} {T : TypeId} {l : List α} {rl : Option Int} (hx : opO K x = some u) (hm : nth H j = some (.slo u z T (l.map f))) (hlo : bndD K lo = some rl) (ha : Bnd rl 0 a)
    (ht : ∀ w, (underlying t).run P w = .ok (.slice e) w) (hs : ∀ w, (Go.sizeOf e).run P w = .ok z w) (han : a ≤ l.length) : Ef P (.slice t x lo none none) ty K H (fun d H' => ∃ u', d = .ov u' ∧ H' = H.set j (.slo u' z T ((l.drop a).map f))) := by
  have := ef_slice_slo (ty := ty) hx hm hlo ha ht hs (by rw [List.length_map]; exact han)
  rw [← List.map_drop] at this
  exact this
theorem append_tail_in {P : Program} {w w' : World} {t ty E k n c g m c2 : Nat} {B : Option Addr} {v' : Value} {i : TypeInfo} (ht : P.underlying t = some (.slice E)) (hi : P.info? E = some i) (hn : n + m ≤ c)
    (h : (Builtin.append_ #[t, t] ty #[.slice (some ⟨g, 0, none⟩) (k + n) (k + c), .slice B m c2]).run P w = .ok v' w') : (Builtin.append_ #[t, t] ty #[.slice (some ⟨g, k * i.size, none⟩) n c, .slice B m c2]).run P w = .ok (.slice (some ⟨g, k * i.size, none⟩) (n + m) c) w' := by
  simp [Builtin.append_, run_underlying ht, Go.sizeOf, typeInfo, hi, Builtin.lenOf, show k + n + m ≤ k + c by omega, addr_add] at h
  obtain ⟨a, w1, h1, h⟩ := then_ok h
  obtain ⟨b, w2, h2, h⟩ := then_ok h
  cases h
  have e : k * i.size + n * i.size = (k + n) * i.size := by rw [Nat.add_mul]
  simp [Builtin.append_, run_underlying ht, Go.sizeOf, typeInfo, hi, Builtin.lenOf, hn, addr_add, e, h1, h2]
theorem append_tail_new {P : Program} {w : World} {t ty E n c m c2 bytes z : Nat} {A : Option Addr} {B : Addr} {zv : Value} {i : TypeInfo} (ht : P.underlying t = some (.slice E)) (i1 : P.info? E = some i) (i2 : i.zero = some zv) (i3 : i.size = z) (i4 : i.bytes = bytes)
    (olds news : List Value) (hlo : olds.length = n * z) (holds : ∀ a, A = some a → ∀ j u, olds[j]? = some u → w.cell? (a.add j) = some u) (hA : A = none → n = 0 ∧ c = 0) (hl : news.length = m * z) (hnews : ∀ j u, news[j]? = some u → w.cell? (B.add j) = some u)
    (hg : c < n + m) (h63 : n + m ≤ maxLen) (hb : (n + m) * bytes ≤ 140737488355328) (hzs : zv.cells.size = z) :
    ∃ v' w' cap, (Builtin.append_ #[t, t] ty #[.slice A n c, .slice (some B) m c2]).run P w = .ok v' w' ∧ v' = .slice (some ⟨w.heap.size, 0, none⟩) (n + m) cap ∧ w'.ownsRow 0 E z v' (n + m) (olds ++ news) ∧ Ext w w' := by
  have hs63 : n + m ≤ 9223372036854775807 := by simp only [maxLen] at h63; omega
  have hlen : (olds ++ news).length = (n + m) * z := by rw [List.length_append, hlo, hl, Nat.add_mul]
  have own : ∀ old, old < n + m → (w.drew.alloc (.cells (olds.toArray ++ news.toArray ++ Builtin.zeroCells zv.cells (grownCap w (n + m) old E - (n + m))) E)).ownsRow 0 E z (.slice (some ⟨w.heap.size, 0, none⟩) (n + m) (grownCap w (n + m) old E)) (n + m) (olds ++ news) := by
    intro old ho
    have hge := grownCap_ge w (n + m) old E
    have hcm := grownCap_le_maxLen w (n + m) old E h63
    refine ⟨hlen, .inr ⟨w.heap.size, _, _, rfl, Nat.zero_le _, heap_alloc_new w.drew _, hge, hcm, ?_, ?_⟩⟩
    · simp only [Array.size_append, List.size_toArray, size_zeroCells, hzs, hlo, hl, ← Nat.add_mul]
      congr 1
      omega
    · simp only [Array.toList_append, List.append_assoc]
      rw [← List.append_assoc, ← hlen]
      exact List.take_left ..
  subst i3
  cases A with
  | none =>
    obtain ⟨rfl, rfl⟩ := hA rfl
    have hx : olds = [] := List.eq_nil_of_length_eq_zero (by simpa using hlo)
    subst hx
    have hr := run_append_nil (P := P) w t ty E i zv ht i1 i2 B m c2 news hl hnews (by omega) (by omega) (by rw [i4]; have hb' := hb; simp only [Nat.zero_add] at hb'; omega)
    have ho := own 0 (by omega)
    simp only [Nat.zero_add, List.nil_append, Array.empty_append] at ho hr ⊢
    exact ⟨_, _, _, hr, rfl, ho, (Ext.drew w).trans (Ext.alloc _ _)⟩
  | some a =>
    have hr := run_append_grow (P := P) w t ty E i zv ht i1 i2 a n c olds hlo (holds a rfl) B m c2 news hl hnews hg (by omega) (by rw [i4]; exact growslice_fits (by omega) hb)
    exact ⟨_, _, _, hr, rfl, own c (by omega), (Ext.drew w).trans (Ext.alloc _ _)⟩

/-- append onto a row that has room -/
theorem append_row_in {P : Program} {w : World} {t ty E z g n cap : Nat} {i : TypeInfo} {xs : List Value} (ht : P.underlying t = some (.slice E)) (hi : P.info? E = some i) (hs : i.size = z) (hown : w.ownsRow 0 E z (.slice (some ⟨g, 0, none⟩) n cap) n xs)
    (a : Addr) (m c : Nat) (news : List Value) (hl : news.length = m * z) (hnews : ∀ j u, news[j]? = some u → w.cell? (a.add j) = some u) (h1 : ∀ u ∈ news, u.oneCell' = true) (hroom : n + m ≤ cap) :
    ∃ v' w', (Builtin.append_ #[t, t] ty #[.slice (some ⟨g, 0, none⟩) n cap, .slice (some a) m c]).run P w = .ok v' w' ∧ w'.ownsRow 0 E z v' (n + m) (xs ++ news) ∧ w.grownBy w' (some g) := by
  subst hs
  have hlen : (xs ++ news).length = (n + m) * i.size := by rw [List.length_append, hown.1, hl, Nat.add_mul]
  rcases hown.2 with ⟨e, _⟩ | ⟨g', cap', cur, e, hbg, hg, hnc, hcm, hcs, htake⟩
  · cases e
  · injection e with e1 _ e2; injection e1 with e1; injection e1 with e1
    subst e1; subst e2
    have hfit : n * i.size + news.length ≤ cur.size := by rw [hl, hcs, ← Nat.add_mul]; exact Nat.mul_le_mul_right _ hroom
    have hr := run_append_room (P := P) w t ty E i ht hi g n cap cur hg a m c news hl hnews h1 hroom hfit
    refine ⟨_, _, hr, ⟨hlen, .inr ⟨g, cap, _, rfl, hbg, setRow_heap w g cur _ E _ hg, hroom, hcm, ?_, ?_⟩⟩, ⟨rfl, rfl, rfl, by simp, fun k _ hk => setRow_other w g k _ (fun e => hk (by rw [e]))⟩⟩
    · simp only [List.size_toArray, List.length_append, List.length_take, List.length_drop, Array.length_toList]
      omega
    · rw [htake, ← hlen]
      exact List.take_left ..

section
variable {P : Program} {ty : TypeId} {K : Kd} {H : List Hp} {α : Type} {f : α → D}
/-- append onto a tail: it grows in its place, or moves -/
theorem ef_append_slo {t : TypeId} {x y : Operand} {z bytes i : Nat} {u zv : Value} {T : TypeId} {l l' : List α} {d : D} (hx : opO K x = some u) (hm : nth H i = some (.slo u z T (l.map f))) (hy : opD K y = some d) (hsrc : SrcD H z d (l'.map f)) (hl' : 0 < l'.length) (ht : P.underlying t = some (.slice T))
    (hi' : ∃ i, P.info? T = some i ∧ i.zero = some zv ∧ i.size = z ∧ i.bytes = bytes) (hzs : zv.cells.size = z) (hsz : Nat.blt 0 z = true) (hlen : l.length + l'.length ≤ maxLen) (hbytes : (l.length + l'.length) * bytes ≤ 140737488355328) :
    Ef P (.call { callee := .builtin .append, args := #[x, y], argTypes := #[t, t] }) ty K H (fun d H' => ∃ u', d = .ov u' ∧ H' = H.set i (.slo u' z T ((l ++ l').map f))) :=
  ⟨fun C ρ w F hk gd => by
    obtain ⟨us, hus, A, c, eu, hnc, hcase⟩ := gd.h.ok _ (nth_mem hm)
    obtain ⟨vs, hvs, hsl⟩ := hsrc.out w F _ gd.flt gd.h.ok (hk.op hy)
    have hul := hus.len
    have hvl := hvs.len
    rw [List.length_map] at hul hvl
    have hz := blt_iff.1 hsz
    obtain ⟨j, i1, i2, i3, i4⟩ := hi'
    have hsl0 := hsl
    obtain ⟨B, c2, es, e2, e3, e4, _⟩ := hsl
    simp only [List.length_map] at es e2
    obtain ⟨b, o, eB, _⟩ := e4 (by intro e; have := congrArg List.length e; simp at this; subst this; simp at hvl; omega)
    have hvz := hvs.size
    have hfl : (vs.flatMap vcs).length = vs.length * z := flat_len hvz
    have hall : ∀ u ∈ vs.flatMap vcs, u.oneCell' = true := by
      intro u hu
      obtain ⟨y, hy, huy⟩ := List.mem_flatMap.1 hu
      exact hvs.one y hy u huy
    have hcells : ∀ j u, (vs.flatMap vcs)[j]? = some u → w.cell? ((⟨b, o, none⟩ : Addr).add j) = some u := by
      intro j u hu
      rw [addr_add]; exact hsl0.cell_flat (by rw [es, eB]) j u hu
    have hex : ev ρ x = u := hk.opO hx
    have hey : ev ρ y = .slice (some ⟨b, o, none⟩) vs.length c2 := by rw [← eB]; exact es
    by_cases hin : us.length + vs.length ≤ c
    · -- in its place
      rcases hcase with hc0 | ⟨g, p, eA, hown⟩
      · omega
      · have hcm : p.length + c ≤ maxLen := by
          rcases hown.1.2 with ⟨e, _⟩ | ⟨g', cap, cur, e, _, _, _, hm', _⟩
          · cases e
          · injection e with _ _ e; rw [e]; exact hm'
        have hrow := hown.1
        rw [List.length_append] at hrow
        obtain ⟨v', w', r1, r2, r3⟩ := append_row_in (P := P) (w := w) (ty := ty) ht i1 i3 hrow ⟨b, o, none⟩ vs.length c2 (vs.flatMap vcs) hfl hcells hall (by omega)
        have e1 := append_inplace ht i1 (by omega) r1
        have r6 := append_tail_in (P := P) (g := g) ht i1 hin r1
        rw [i3] at r6
        refine EOp.of_run (v := .slice (some ⟨g, p.length * z, none⟩) (us.length + vs.length) c) (w' := w') (by simp [execOp, mkOper, resolve, invoke, builtin, hex, hey, eu, eA, r6]) ?_
        have hnew : Own vcs z T w' 0 v' (p ++ us ++ vs) := ⟨by rw [List.length_append, List.length_append, List.flatMap_append]; exact r2, fun q hq => by
          rcases List.mem_append.1 hq with hq | hq
          · exact hown.2 q hq
          · exact hvz q hq⟩
        have := gd.turn (h' := .slo (.slice (some ⟨g, p.length * z, none⟩) (us.length + vs.length) c) z T ((l ++ l').map f)) hm (fun q hq hn => r3.block q hq (fun e => hn ⟨_, _, _, by rw [eu, eA], by omega, by injection e with e; exact e.symm⟩)) r3.size r3.os r3.tape r3.output (fun q ⟨A', n', c', e', hc', hb'⟩ => by
          injection e' with e' _ e''; injection e' with e'
          exact .inl ⟨_, _, _, by rw [eu, eA], by omega, by rw [← hb', ← e']⟩) (fun kp => ⟨us ++ vs, by rw [List.map_append]; exact (hus.keep kp).app (hvs.keep kp), _, c, by rw [List.length_append], by rw [List.length_append]; omega, .inr ⟨g, p, rfl, by
            rw [List.append_assoc] at hnew
            rw [List.length_append, ← Nat.add_assoc, ← e1]; exact hnew⟩⟩)
        exact ⟨F, .ov _, _, ⟨_, rfl, rfl⟩, ⟨rfl, rfl⟩, this.1, this.2⟩
    · -- it moves
      have hdz := hus.size
      have hold : ∀ a, A = some a → ∀ q x, (us.flatMap vcs)[q]? = some x → w.cell? (a.add q) = some x := by
        intro a ea q x hq
        rcases hcase with hc0 | ⟨g, p, eA, hown⟩
        · have : us = [] := List.eq_nil_of_length_eq_zero (by omega)
          rw [this] at hq; simp at hq
        · rw [ea] at eA; injection eA with eA; subst eA
          rw [addr_add]
          have hz' : ∀ q ∈ p, (vcs q).length = z := fun q hq => hown.2 q (List.mem_append_left _ hq)
          have hpl : (p.flatMap vcs).length = p.length * z := flat_len hz'
          have := hown.1.cells (g := g) rfl (p.length * z + q) x (by rw [List.flatMap_append, List.getElem?_append_right (by omega), hpl, show p.length * z + q - p.length * z = q by omega]; exact hq)
          rw [addr_add, Nat.zero_add] at this; exact this
      obtain ⟨v', w', cap', r1, rv, r2, E⟩ := append_tail_new (P := P) (w := w) (ty := ty) (n := us.length) (c := c) (m := vs.length) (c2 := c2) (A := A) (B := ⟨b, o, none⟩) ht i1 i2 i3 i4 (us.flatMap vcs) (vs.flatMap vcs) (flat_len hdz) hold
        (fun ea => by
          rcases hcase with hc0 | ⟨g, p, eA, _⟩
          · omega
          · rw [ea] at eA; cases eA) hfl hcells (by omega) (by omega) (by rw [hul, hvl]; exact hbytes) hzs
      refine EOp.of_run (v := v') (w' := w') (by simp [execOp, mkOper, resolve, invoke, builtin, hex, hey, eu, r1]) ?_
      have hnew : Own vcs z T w' 0 v' (us ++ vs) := ⟨by rw [List.length_append, List.flatMap_append]; exact r2, fun q hq => by
        rcases List.mem_append.1 hq with hq | hq
        · exact hdz q hq
        · exact hvz q hq⟩
      have hcp : us.length + vs.length ≤ cap' := by
        rcases r2.2 with ⟨e, _⟩ | ⟨g, cp, cur, e, _, _, hcp, _⟩
        · rw [rv] at e; cases e
        · rw [rv] at e; injection e with _ _ e; omega
      have := gd.turn (h' := .slo v' z T ((l ++ l').map f)) hm (fun q hq _ => E.block q hq (.inr (Nat.zero_le _))) E.size E.os E.tape E.output (fun q ⟨A', n', c', e', _, hb'⟩ => by
        rw [rv] at e'; injection e' with e' _ _; injection e' with e'
        rw [← hb', ← e']; exact .inr (Nat.le_refl _)) (fun kp => ⟨us ++ vs, by rw [List.map_append]; exact (hus.keep kp).app (hvs.keep kp), _, cap', by rw [rv, List.length_append], by rw [List.length_append]; exact hcp, .inr ⟨w.heap.size, [], by simp, by
          simp only [List.length_nil, Nat.zero_add, List.nil_append, List.length_append]
          rw [← rv]; exact hnew⟩⟩)
      exact ⟨F, .ov _, _, ⟨_, rfl, rfl⟩, ⟨rfl, by rw [rv]; rfl⟩, this.1, this.2⟩⟩
end
end Lp
