/-
  The document's own quotation marks and texts of labels, as plain data.
-/
import Derived.Test.YtoanlikkhjohpaaGreatV21
set_option linter.unusedVariables false
namespace Lp
open Go
theorem get_extract {s : ByteArray} {p k : Nat} : (s.extract p s.size).get! k = s.get! (p + k) := by
  have hsz : (s.extract p s.size).size = s.size - p := by simp
  rcases Nat.lt_or_ge (p + k) s.size with h | h
  · have h1 := za5 (s := s.extract p s.size) (p := k) (by omega)
    have h2 := za5 h
    have e : bts (s.extract p s.size) k = bts s (p + k) := by
      show (s.extract p s.size).data.toList.drop k = _
      rw [extract_bts]; unfold bts; rw [List.drop_drop]
    rw [e, h2] at h1
    injection h1 with h1 _; exact h1.symm
  · have e1 : (s.extract p s.size).get! k = default := by
      show (s.extract p s.size).data[k]! = _
      exact getElem!_neg _ _ (by simpa using (by omega : s.size - p ≤ k))
    have e2 : s.get! (p + k) = default := by
      show s.data[p + k]! = _
      exact getElem!_neg _ _ (by simpa using h)
    rw [e1, e2]
theorem decode_extract {s : ByteArray} {p q : Nat} : Utf8.decode (s.extract p s.size) q = Utf8.decode s (p + q) := by
  have hsz : (s.extract p s.size).size = s.size - p := by simp
  have hc : ∀ k, decide (q + k < s.size - p) = decide (p + q + k < s.size) := fun k => by rw [decide_eq_decide]; omega
  unfold Utf8.decode
  simp only [get_extract, hsz, hc, ← Nat.add_assoc]
theorem decW_extract {s : ByteArray} {p q : Nat} : decW (s.extract p s.size) q = decW s (p + q) := by unfold decW; rw [decode_extract]
/-- the bytes of one rune -/
def cutB (s : ByteArray) (p : Nat) : ByteArray := s.extract p (p + decW s p)
theorem cutB_bts {s : ByteArray} {p : Nat} : (cutB s p).data.toList = (bts s p).take (decW s p) := by
  unfold cutB bts
  simp only [ByteArray.data_extract, Array.toList_extract, List.extract]
  congr 1; omega
theorem zaO {s : ByteArray} {p : Nat} (h : p < s.size) : (cutB s p).size = decW s p := by
  have := zaG s p h
  unfold cutB; simp; omega
theorem bts_len (s : ByteArray) (p : Nat) : (bts s p).length = s.size - p := by unfold bts; simp
theorem cutB_enc {s : ByteArray} {p : Nat} (h : p < s.size) (e : bts s p = encR (decR s p) ++ bts s (p + decW s p)) : (cutB s p).data.toList = encR (decR s p) := by
  have hw := zaG s p h
  have hl := congrArg List.length e
  rw [List.length_append, bts_len, bts_len] at hl
  rw [cutB_bts, e, List.take_left' (by omega)]
theorem rq_bad {s : ByteArray} {p : Nat} (h : p < s.size) (h1 : decR s p = 65533) (h2 : ¬ cutB s p = wide) : decW s p = 1 ∧ hasP (s.extract p s.size) wide = false := by
  rcases dec_cases s p h with e | ⟨_, e2, e3⟩
  · exfalso
    refine h2 (ByteArray.ext (Array.toList_inj.1 ?_))
    rw [cutB_enc h e, h1]; rfl
  · exact ⟨e2, e3⟩
theorem rq_good {s : ByteArray} {p : Nat} (h : p < s.size) (h1 : ¬ (decR s p = 65533 ∧ ¬ cutB s p = wide)) : (cutB s p).data.toList = encR (decR s p) := by
  rcases dec_cases s p h with e | ⟨e1, e2, e3⟩
  · exact cutB_enc h e
  · exfalso
    have hw : cutB s p = wide := by
      by_cases hw : cutB s p = wide
      · exact hw
      · exact absurd ⟨e1, hw⟩ h1
    have := zaO h
    rw [hw, e2] at this
    exact absurd this (by decide)
/-- what a rune becomes, four ways -/
theorem rq_1 {s : ByteArray} {p : Nat} (h : p < s.size) (h1 : decR s p = 65533) (h2 : ¬ cutB s p = wide) : zbr s p = [92, 120, hexB (zbO s p / 16), hexB (zbO s p % 16)] :=
  piece_3 (by rw [h1]; decide) (by rw [h1]; decide) ⟨h1, (rq_bad h h1 h2).2⟩
theorem rq_2 {s : ByteArray} {p : Nat} (h : p < s.size) (h1 : decR s p = 34 ∨ decR s p = 92) : zbr s p = 92 :: (cutB s p).data.toList := by
  rw [piece_1 h1, rq_good h (fun e => by rcases h1 with h1 | h1 <;> (rw [h1] at e; exact absurd e.1 (by decide)))]; rfl
theorem rq_4 {s : ByteArray} {p : Nat} (h : p < s.size) (h1 : ¬ (decR s p = 65533 ∧ ¬ cutB s p = wide)) (h2 : ¬ (decR s p = 34 ∨ decR s p = 92)) (h3 : ¬ decR s p = 10) : zbr s p = (cutB s p).data.toList := by
  rw [rq_good h h1]
  by_cases h4 : decR s p = 65533 ∧ hasP (s.extract p s.size) wide = false
  · exfalso
    have hg := rq_good h h1
    rw [h4.1] at hg
    refine absurd h4.2 ?_
    have hc : cutB s p = wide := ByteArray.ext (Array.toList_inj.1 hg)
    have hz := zaO h
    rw [hc] at hz
    have hw : decW s p = 3 := hz.symm
    have hle := zaG s p h
    have e : (s.extract p s.size).extract 0 wide.size = wide := by
      rw [← hc]; unfold cutB
      rw [hw]
      apply ByteArray.ext; apply Array.toList_inj.1
      simp only [ByteArray.data_extract, Array.toList_extract, List.extract, List.drop_zero, Nat.sub_zero, ByteArray.size_extract]
      rw [List.take_take]; congr 1; omega
    unfold hasP
    rw [e]
    have : wide.size = 3 := rfl
    rw [this, decide_eq_true (show 3 ≤ (s.extract p s.size).size by simp; omega)]; simp
  · exact piece_4 h2 h3 h4
theorem hex_sub {n : Nat} (h : n < 16) : hexd.extract n (n + 1) = ⟨#[hexB n]⟩ := by
  revert h; revert n; decide
theorem zbm {s : ByteArray} {p : Nat} {o : ByteArray} {w : List UInt8} (hq : 34 :: zaD s 0 = o.data.toList ++ zaD s p) (h : p < s.size) (hp : zbr s p = w) {o' : ByteArray} (ho : o'.data.toList = o.data.toList ++ w) : 34 :: zaD s 0 = o'.data.toList ++ zaD s (p + decW s p) := by
  rw [hq, zbj h, hp, ho, List.append_assoc]
theorem quote_end {s : ByteArray} {p : Nat} {o : ByteArray} (hq : 34 :: zaD s 0 = o.data.toList ++ zaD s p) (h : s.size ≤ p) : o ++ (⟨#[34]⟩ : ByteArray) = zaV s := by
  rw [quoteAt_ge h, List.append_nil] at hq
  apply ByteArray.ext; apply Array.toList_inj.1
  rw [ByteArray.data_append, Array.toList_append, ← hq]
  show _ = (zcW s).toArray.toList
  unfold zcW; simp
theorem rq_byte {s : ByteArray} {p : Nat} {u : UInt8} (h : p < s.size) (hu : (s.extract p (p + decW s p))[0]? = some u) : u.toNat = zbO s p := by
  have hz : 0 < (cutB s p).size := by rw [zaO h]; have := zai s p; omega
  have e1 := byteAt_at hu
  rw [e1]; show zbO (cutB s p) 0 = _
  rw [byteAt_get hz, byteAt_get h]
  congr 1
  have h1 := za5 hz
  have h2 := za5 h
  have e : bts (cutB s p) 0 = (bts s p).take (decW s p) := by
    show (cutB s p).data.toList.drop 0 = _; rw [List.drop_zero, cutB_bts]
  rw [h1, h2] at e
  obtain ⟨w, hw⟩ : ∃ w, decW s p = w + 1 := ⟨decW s p - 1, by have := zai s p; omega⟩
  rw [hw, List.take_succ_cons] at e
  injection e
theorem zct (a b : ByteArray) : (a ++ b).data.toList = a.data.toList ++ b.data.toList := by simp
theorem rq_out {o : ByteArray} {n m : Nat} (hn : n < 16) (hm : m < 16) : (o ++ (⟨#[92, 120]⟩ : ByteArray) ++ hexd.extract n (n + 1) ++ hexd.extract m (m + 1)).data.toList = o.data.toList ++ [92, 120, hexB n, hexB m] := by
  rw [hex_sub hn, hex_sub hm]; simp only [zct, List.append_assoc]; rfl
theorem hasN_snoc {ns : List ByteArray} {n y : ByteArray} {k : Nat} (h : ns[k]? = some y) : hasN (ns.take (k + 1)) n = (hasN (ns.take k) n || decide (y = n)) := by
  rw [zap h]; unfold hasN; rw [List.any_append]; simp
abbrev dLentL (l : List Lbl) : D := .shr 2 l.length ((l ++ [Lbl.mk (⟨#[109, 97, 114, 107]⟩ : ByteArray) ByteArray.empty]).map Lbl.d)
abbrev dLentT (l : List ByteArray) : D := .shr 1 l.length ((l ++ [(⟨#[109, 97, 114, 107]⟩ : ByteArray)]).map D.s)
/-! ### texts of labels -/
def zaM (l : List Lbl) (k : Nat) : ByteArray := (⟨#[123]⟩ : ByteArray) ++ zcc ⟨#[44]⟩ ((l.take k).map zbe)
theorem ba_assoc (a b c : ByteArray) : a ++ b ++ c = a ++ (b ++ c) := ByteArray.append_assoc
theorem txtTo_1 {l : List Lbl} {x : Lbl} (h : l[0]? = some x) : zaM l 1 = zaM l 0 ++ x.n ++ (⟨#[61]⟩ : ByteArray) ++ zaV x.v := by
  unfold zaM
  rw [show (1 : Nat) = 0 + 1 from rfl, zap h]
  show _ ++ zcc _ [zbe x] = _
  have : zcc ⟨#[44]⟩ [zbe x] = zbe x := (joinB_one (l := [zbe x]) rfl rfl).symm
  rw [this]; unfold zbe
  show _ = (⟨#[123]⟩ : ByteArray) ++ ByteArray.empty ++ x.n ++ _ ++ _
  rw [ByteArray.append_empty]; simp only [ba_assoc]
theorem txtTo_next {l : List Lbl} {k : Nat} {x : Lbl} (h : l[k]? = some x) (hk : 0 < k) : zaM l (k + 1) = zaM l k ++ (⟨#[44]⟩ : ByteArray) ++ x.n ++ (⟨#[61]⟩ : ByteArray) ++ zaV x.v := by
  obtain ⟨j, rfl⟩ : ∃ j, k = j + 1 := ⟨k - 1, by omega⟩
  unfold zaM
  rw [zap h, List.map_append]
  have hj : (l.take (j + 1)).map zbe ≠ [] := by
    intro e
    have := congrArg List.length e
    have hl := zdk h
    rw [List.length_map, List.length_take] at this
    simp only [List.length_nil] at this; omega
  have e : zcc ⟨#[44]⟩ ((l.take (j + 1)).map zbe ++ [x].map zbe) = zcc ⟨#[44]⟩ ((l.take (j + 1)).map zbe) ++ (⟨#[44]⟩ : ByteArray) ++ zbe x := by
    apply ByteArray.ext; apply Array.toList_inj.1
    show (zbo _ _).toArray.toList = _
    rw [List.map_cons, List.map_nil, joinL_snoc _ _ _ hj]
    simp [zcc]
  rw [e]; unfold zbe; simp only [ba_assoc]
theorem txtTo_end {l : List Lbl} {k : Nat} (h : l.length ≤ k) : zaM l k ++ (⟨#[125]⟩ : ByteArray) = zbx l := by
  unfold zaM zbx; rw [List.take_of_length_le h]
theorem txtTo_size {l : List Lbl} (hz : ∀ x ∈ l, x.n.size ≤ 100000 ∧ x.v.size ≤ 100000) (hl : l.length ≤ 1000) (k : Nat) : (zaM l k).size ≤ 1000001001 + 1 := by
  have h1 := sumSz_parts hl hz k
  have h2 := zb3 (sep := ⟨#[44]⟩) rfl ((l.take k).map zbe)
  rw [List.length_map, List.length_take] at h2
  unfold zaM
  rw [ByteArray.size_append]
  have : (⟨#[123]⟩ : ByteArray).size = 1 := rfl
  omega
end Lp
/-
  Ways that meet again, with ghosts; functions as values.
-/
set_option linter.unusedVariables false
namespace Lp
open Go Go.RowKit
section
variable {P : Program} {N : Nat} {C : Ctx} {c : Code} {K : Kd} {H : List Hp} {Q : za6}
end
/-- as Mv, and what all could read they still can -/
structure Mvk (K : Kd) (H : List Hp) (K' : Kd) (H' : List Hp) : Prop where
  out : ∀ C w F ρ, KOk w F ρ K → Good C H w F → ∃ F', KOk w F' ρ K' ∧ Good C H' w F' ∧ Keep w F w F'
theorem frz_good {C : Ctx} {w : World} {F : Nat → Prop} {L H1 H1' : List Hp} (hh : HL L H1 H1') (g : Good C (L ++ H1) w F) : Good C H1' w (fun b => F b ∨ blks L b) := by
  have hap := List.pairwise_append.1 g.h.apart
  have hokL : ∀ h ∈ L, h.ok w F := fun h hh => g.h.ok h (List.mem_append_left _ hh)
  refine { g with fsub := fun b hb => .inl (g.fsub b hb), fnew := ?_, flt := ?_, h := ⟨pairwise_blk hh.blk hap.2.1, hh.out g.flt hokL (fun h hm => g.h.ok h (List.mem_append_right _ hm)), fun b hb => ?_⟩ }
  · rintro b (h | ⟨x, hx, e⟩)
    · exact g.fnew b h
    · exact .inr (g.h.mine b ⟨x, List.mem_append_left _ hx, e⟩).1
  · rintro b (h | ⟨x, hx, e⟩)
    · exact g.flt b h
    · exact Hp.lt (hokL x hx) e
  · obtain ⟨x, hx, e⟩ := blks_eq hh.blk hb
    have hm := g.h.mine b ⟨x, List.mem_append_right _ hx, e⟩
    refine ⟨hm.1, ?_⟩
    rintro (h | ⟨y, hy, e'⟩)
    · exact hm.2 h
    · exact hap.2.2 y hy x hx b e' e
theorem Mvk.freeze {K : Kd} (L : List Hp) {K' : Kd} {H1 H1' : List Hp} (hs : SubL L K' K) (hh : HL L H1 H1') : Mvk K (L ++ H1) K' H1' := ⟨fun C w F ρ hk g => by
  have hokL : ∀ h ∈ L, h.ok w F := fun h hh => g.h.ok h (List.mem_append_left _ hh)
  exact ⟨fun b => F b ∨ blks L b, hs.out g.flt hokL hk, frz_good hh g, ⟨fun _ h => .inl h, fun _ _ _ => rfl⟩⟩⟩
theorem Ef.mv {P : Program} {op : Op} {ty : TypeId} {K K' : Kd} {H H' : List Hp} {R : D → List Hp → Prop} (m : Mvk K H K' H') (h : Ef P op ty K' H' R) : Ef P op ty K H R := ⟨fun C ρ w F hk g => by
  obtain ⟨F1, hk1, g1, k1⟩ := m.out C w F ρ hk g
  exact (h.out C ρ w F1 hk1 g1).mono fun u w' ⟨F', d, H1, h1, h2, h3, h4⟩ => ⟨F', d, H1, h1, h2, h3, ⟨fun b hb => h4.sub b (k1.sub b hb), fun b hb hl => h4.same b (k1.sub b hb) hl⟩⟩⟩
theorem HL.rfl' (L : List Hp) : ∀ H : List Hp, HL L H H
  | [] => .nil
  | _ :: r => .same (HL.rfl' L r)
section
variable {P : Program} {ty : TypeId} {K : Kd} {H : List Hp}
end
end Lp
/-
  The tail of a row of the call's own, as a slice: read, cut and grown.
-/
set_option linter.unusedVariables false
namespace Lp
open Go Go.RowKit

theorem Qu.ef {P : Program} {op : Op} {ty : TypeId} {K : Kd} {H : List Hp} {d : D} (h : Qu P op ty K H d) : Ef P op ty K H (fun d' H' => d' = d ∧ H' = H) := ⟨fun C ρ w F hk g => (h.out ρ w F hk g.flt g.h.ok).mono fun u w' ⟨E, hr⟩ => by
  obtain ⟨g', k⟩ := g.fn E
  exact ⟨_, d, H, ⟨rfl, rfl⟩, hr, g', k⟩⟩
theorem addr_add (g o j : Nat) : (⟨g, o, none⟩ : Addr).add j = ⟨g, o + j, none⟩ := by cases j <;> simp [Addr.add]
/-- a row is a tail of itself -/
theorem HSub.slo {H : List Hp} {v : Value} {z : Nat} {T : TypeId} {xs : List D} : HSub (.sl v z T xs :: H) (.slo v z T xs :: H) := ⟨fun C w F gd => by
  have key : (Hp.sl v z T xs).ok w F → (Hp.slo v z T xs).ok w F := by
    rintro ⟨us, hr, ho⟩
    refine ⟨us, hr, ?_⟩
    have hm := ho.1
    rcases hm.2 with ⟨e, h0⟩ | ⟨g, cap, cur, e, hb, hg, hc, rest⟩
    · exact ⟨Option.none, 0, by rw [e, h0], by omega, .inl rfl⟩
    · refine ⟨_, cap, e, hc, .inr ⟨g, [], by simp, ?_⟩⟩
      simp only [List.length_nil, Nat.zero_add, List.nil_append]
      rw [← e]; exact ho
  have hbl : ∀ b, (Hp.slo v z T xs).blk b → (Hp.sl v z T xs).blk b := by
    rintro b ⟨A, n, c, e, _, hb⟩
    show v.ownBlock = some b
    rw [e]; show some A.block = _; rw [hb]
  have ha := List.pairwise_cons.1 gd.h.apart
  exact { gd with h := ⟨List.pairwise_cons.2 ⟨fun h hh b hb => ha.1 h hh b (hbl b hb), ha.2⟩, fun h hh => by
    rcases List.mem_cons.1 hh with e | e
    · rw [e]; exact key (gd.h.ok _ List.mem_cons_self)
    · exact gd.h.ok h (List.mem_cons_of_mem _ e), fun b ⟨h, hh, hb⟩ => by
    rcases List.mem_cons.1 hh with e | e
    · rw [e] at hb; exact gd.h.mine b ⟨_, List.mem_cons_self, hbl b hb⟩
    · exact gd.h.mine b ⟨h, List.mem_cons_of_mem _ e, hb⟩⟩ }⟩
theorem cut0 {z n m c : Nat} {A : Option Addr} (h : c = 0 ∨ ∃ g o, A = some ⟨g, o, none⟩) : cut z (.slice A m c) 0 n = .slice A n c := by
  unfold cut
  simp only [Nat.zero_mul, Nat.sub_zero]
  rcases h with h | ⟨g, o, h⟩
  · rw [if_pos h]
  · subst h; rw [Option.map_some, addr_add]; simp
theorem TlOk.cut0 {w : World} {z n : Nat} {T : TypeId} {u : Value} {us : List Value} (h : TlOk w z T u us) : ∃ A c, u = .slice A us.length c ∧ us.length ≤ c ∧ Lp.cut z u 0 n = .slice A n c ∧ (0 < us.length → ∃ g o, A = some ⟨g, o, none⟩) := by
  obtain ⟨A, c, e, hle, h⟩ := h
  refine ⟨A, c, e, hle, ?_, fun hl => ?_⟩
  · rw [e]; refine Lp.cut0 ?_
    rcases h with h | ⟨g, p, h, _⟩
    · exact .inl h
    · exact .inr ⟨g, _, h⟩
  · rcases h with h | ⟨g, p, h, _⟩
    · omega
    · exact ⟨g, _, h⟩
section
variable {P : Program} {ty : TypeId} {K : Kd} {H : List Hp}
end

section
variable {P : Program} {ty : TypeId} {K : Kd} {H : List Hp} {α : Type} {f : α → D}
end
end Lp
/-
  Slices with room behind them in which what stands is known.
-/
set_option linter.unusedVariables false
namespace Lp
open Go Go.RowKit
theorem rep_shr {w : World} {F : Nat → Prop} {z n : Nat} {xs : List D} {a : Value} (h : D.rep w F (.shr z n xs) a) : ∃ A c, a = .slice A n c ∧ n ≤ xs.length ∧ D.rep w F (.sh z xs) (.slice A xs.length c) ∧ xs.length ≤ c := by
  obtain ⟨A, c, e, h0, h1, h2, h3⟩ := h
  exact ⟨A, c, e, h0, ⟨A, c, rfl, h1, h2, h3⟩, h1⟩
theorem shr_rep {w : World} {F : Nat → Prop} {z n : Nat} {xs : List D} {A : Option Addr} {c : Nat} (h0 : n ≤ xs.length) (h : D.rep w F (.sh z xs) (.slice A xs.length c)) : D.rep w F (.shr z n xs) (.slice A n c) := by
  obtain ⟨A', c', e, h1, h2, h3⟩ := h
  injection e with e1 _ e2
  subst e1; subst e2
  exact ⟨A, c, rfl, h0, h1, h2, h3⟩
theorem rep_take {w : World} {F : Nat → Prop} {z n : Nat} {xs : List D} {A : Option Addr} {c : Nat} (hF : ∀ b, F b → b < w.heap.size) (h0 : n ≤ xs.length) (h : D.rep w F (.sh z xs) (.slice A xs.length c)) : D.rep w F (.sh z (xs.take n)) (.slice A n c) := by
  have hl : (xs.take n).length = n := by rw [List.length_take]; omega
  obtain ⟨us, hr, hsl, hblk, hmx⟩ := D.rep_sl hF h
  have hul := hr.len
  cases xs with
  | nil =>
    have : n = 0 := by simpa using h0
    subst this
    exact ⟨A, c, rfl, Nat.zero_le _, Nat.zero_le _, fun e => absurd rfl e⟩
  | cons x r =>
    obtain ⟨b', o', c', hv', hF'⟩ := hblk (by simp)
    injection hv' with e1 _ e2
    subst e1; subst e2
    have h2 := hsl.cut 0 n (Nat.zero_le _) (by omega)
    rw [cut0 (.inr ⟨_, _, rfl⟩), List.drop_zero] at h2
    have := D.sl_rep (hr.take n) h2 (fun _ g hg => by cases hg; exact hF') (by rw [List.length_take]; omega)
    exact this
theorem slice_of_sh {w : World} {F : Nat → Prop} {z : Nat} {xs : List D} {a : Value} (h : D.rep w F (.sh z xs) a) : ∃ A c, a = .slice A xs.length c ∧ xs.length ≤ c ∧ (xs ≠ [] → ∃ b o, A = some ⟨b, o, none⟩) := by
  obtain ⟨A, c, e, h1, _, h3⟩ := h
  exact ⟨A, c, e, h1, fun hn => by obtain ⟨b, o, e, _⟩ := h3 hn; exact ⟨b, o, e⟩⟩
/-- an argument with room behind it, read as what it is -/
theorem ArgC.shr {L : List Hp} {z n : Nat} {xs : List D} : ArgC L (.shr z n xs) (.sh z (xs.take n)) := ⟨fun w F u hF hL hr => by
  obtain ⟨A, c, rfl, h0, h, _⟩ := rep_shr hr
  exact D.keep (Keep.wide _) _ _ (rep_take hF h0 h)⟩
theorem ArgC.cutr {L : List Hp} {z j n : Nat} {v : Value} {T : TypeId} {ys : List D} (hm : nth L j = some (.sl v z T ys)) (hn : n ≤ ys.length) (h0 : ys ≠ []) : ArgC L (.v (Lp.cut z v 0 n)) (.shr z n ys) := ⟨fun w F u hF hL hr => by
  have e : u = _ := hr
  subst e
  have ho : D.rep w F (.ov v) v := ⟨rfl, by obtain ⟨us, _, ho⟩ := hL _ (z7 hm); exact ho.one⟩
  have h := (ArgC.own hm (d := .ov v) rfl).out w F v hF hL ho
  obtain ⟨A, c, e, hc, hA⟩ := slice_of_sh h
  obtain ⟨b, o, eA⟩ := hA h0
  rw [e] at h ⊢
  rw [cut0 (.inr ⟨b, o, eA⟩)]
  exact shr_rep hn h⟩
section
variable {P : Program} {ty : TypeId} {K : Kd} {H : List Hp}
theorem p_len_shr {t e : TypeId} {x : Operand} {z n : Nat} {xs : List D} (hx : opD K x = some (.shr z n xs)) (ht : ∀ w, (underlying t).run P w = .ok (.slice e) w) : Pu P (.call { callee := .builtin .len, args := #[x], argTypes := #[t] }) ty K H (.v (.int .i64 (n : Int))) :=
  ⟨fun ρ w F hk _ hH => by
    obtain ⟨A, c, e, _⟩ := rep_shr (hk.op hx)
    exact zdq (n := n) (zK ρ [x]) (opv1 ρ rfl) ht ⟨A, c, e⟩ ⟨rfl, rfl⟩⟩
/-- with the room behind it -/
theorem p_slice_shr {t e : TypeId} {z n b : Nat} {x : Operand} {hi : Option Operand} {xs : List D} {rh : Option Int} (hx : opD K x = some (.shr z n xs)) (hhi : bndD K hi = some rh) (hb : Bnd rh n b)
    (ht : ∀ w, (underlying t).run P w = .ok (.slice e) w) (hs : ∀ w, (Go.sizeOf e).run P w = .ok z w) (hbn : b ≤ xs.length) (h0 : xs ≠ []) : Pu P (.slice t x none hi none) ty K H (.sh z (xs.take b)) :=
  ⟨fun ρ w F hk hF hH => by
    obtain ⟨A, c, e, hn, h, hc⟩ := rep_shr (hk.op hx)
    obtain ⟨A', c', e', _, hA⟩ := slice_of_sh h
    injection e' with e1 _ e2
    subst e1; subst e2
    obtain ⟨b', o', eA⟩ := hA h0
    refine e_slice (n := n) (a := 0) (b := b) (z := z) (zK ρ [x]) (opv1 ρ rfl) rfl rfl (.inl ⟨rfl, rfl⟩) (hb.out (zbv hk hhi)) ht hs ⟨A, c, e, by omega⟩ (Nat.zero_le _) ⟨rfl, ?_⟩
    rw [e, cut0 (.inr ⟨b', o', eA⟩)]
    exact rep_take hF hbn h⟩
end
/-- lists that are read otherwise, each -/
theorem CvL.map {α : Type} {f g : α → D} (h : ∀ x, Cv (f x) (g x)) : ∀ l : List α, CvL (l.map f) (l.map g)
  | [] => .nil
  | x :: r => .cons (h x) (CvL.map h r)
theorem ArgC.lent {L : List Hp} {α : Type} {f : α → D} {z : Nat} {l : List α} {x : α} : ArgC L (.shr z l.length ((l ++ [x]).map f)) (.sh z (l.map f)) := by
  have := ArgC.shr (L := L) (z := z) (n := l.length) (xs := (l ++ [x]).map f)
  rwa [← List.map_take, List.take_left] at this
theorem lent_all {α : Type} {f : α → D} {z : Nat} {l : List α} {x : α} : D.sh z (((l ++ [x]).map f).take (l.length + 1)) = .sh z ((l ++ [x]).map f) := by
  rw [List.take_of_length_le]; simp
end Lp
/-
  Lists that are kept: rows of the call's own, any number of them.
-/
set_option linter.unusedVariables false
namespace Lp
open Go Go.RowKit
variable {P : Program} {ty : TypeId} {K : Kd} {H : List Hp}

structure Kp (α : Type) where
  v : Value
  l : List α
/-- a list that has grown: v0 is what it was, of m elements -/
structure K2 (α : Type) where
  v0 : Value
  v : Value
  m : Nat
  l : List α
abbrev Kp.d {α : Type} (p : Kp α) : D := .ov p.v
abbrev Kp.h {α : Type} (z : Nat) (T : TypeId) (f : α → D) (p : Kp α) : Hp := .sl p.v z T (p.l.map f)
abbrev K2.d0 {α : Type} (p : K2 α) : D := .ov p.v0
abbrev K2.d1 {α : Type} (p : K2 α) : D := .ov p.v
abbrev K2.h {α : Type} (z : Nat) (T : TypeId) (f : α → D) (p : K2 α) : Hp := .sl2 p.v0 p.v z T p.m (p.l.map f)
theorem zdg {α β : Type} {A : List Hp} {h : α → Hp} {g : β → Hp} {P : List β} {K R : List α} {x : α} (e : K = x :: R) : HSub (A ++ (P.map g ++ K.map h)) (h x :: A ++ (P.map g ++ R.map h)) := by
  subst e
  refine HSub.perm ?_
  rw [List.map_cons, ← List.append_assoc, ← List.append_assoc]
  exact List.perm_middle
theorem zds {α β : Type} {A : List Hp} {h : α → Hp} {g : β → Hp} {P : List β} {R : List α} {y : β} : HSub (g y :: A ++ (P.map g ++ R.map h)) (A ++ ((P ++ [y]).map g ++ R.map h)) := by
  refine HSub.perm ?_
  rw [List.map_append, List.map_cons, List.map_nil, List.append_assoc, List.singleton_append, ← List.append_assoc, ← List.append_assoc]
  exact List.perm_middle.symm
theorem zdh {α β : Type} {h : α → Hp} {g : β → Hp} {P Q : List β} {R : List α} {A : List Hp} (e : R = []) (e2 : P = Q) : A ++ (P.map g ++ R.map h) = A ++ Q.map g := by subst e; subst e2; simp
theorem zbD {A B T : List Hp} : ((A ++ B) ++ T).Perm ((A ++ T) ++ B) := by
  rw [List.append_assoc, List.append_assoc]
  exact List.perm_append_comm.append_left A
theorem put_next {α : Type} {m l : List α} {k : Nat} {y : α} (hm : m[k]? = some y) (hl : l.length = m.length) : (m.take k ++ l.drop k).set k y = m.take (k + 1) ++ l.drop (k + 1) := by
  have hk := zdk hm
  rw [List.set_append_right _ _ (by rw [List.length_take]; omega), List.length_take, Nat.min_eq_left (by omega), Nat.sub_self, List.drop_eq_getElem_cons (by omega), List.set_cons_zero, zap hm, List.append_assoc]
  rfl
theorem p_len_own2 {t e : TypeId} {x : Operand} {z n m j : Nat} {v0 v : Value} {T : TypeId} {xs : List D} (hx : opO K x = some v) (hm : nth H j = some (.sl2 v0 v z T m xs)) (ht : ∀ w, (underlying t).run P w = .ok (.slice e) w) (hn : xs.length = n) : Pu P (.call { callee := .builtin .len, args := #[x], argTypes := #[t] }) ty K H (.v (.int .i64 (n : Int))) :=
  ⟨fun ρ w F hk _ hH => by
    obtain ⟨us, hr, ho, _⟩ := hH _ (z7 hm)
    exact zdq (n := n) (zK ρ [x]) (opv1 ρ (hk.opO hx)) ht (by have := ho.len; rw [hr.len, hn] at this; exact this) ⟨rfl, rfl⟩⟩
theorem p_len_own0 {t e : TypeId} {x : Operand} {z n m j : Nat} {v0 v : Value} {T : TypeId} {xs : List D} (hx : opO K x = some v0) (hm : nth H j = some (.sl2 v0 v z T m xs)) (ht : ∀ w, (underlying t).run P w = .ok (.slice e) w) (hn : (xs.take m).length = n) : Pu P (.call { callee := .builtin .len, args := #[x], argTypes := #[t] }) ty K H (.v (.int .i64 (n : Int))) :=
  ⟨fun ρ w F hk _ hH => by
    obtain ⟨us, hr, _, ho, _⟩ := hH _ (z7 hm)
    exact zdq (n := n) (zK ρ [x]) (opv1 ρ (hk.opO hx)) ht (by have := ho.len; rw [List.length_take, hr.len, ← List.length_take, hn] at this; exact this) ⟨rfl, rfl⟩⟩
end Lp
