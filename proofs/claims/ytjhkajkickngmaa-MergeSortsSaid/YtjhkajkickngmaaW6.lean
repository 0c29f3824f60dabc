/- Walks, printed by a program of mine (wip/tools/vc.py): each theorem says what a function of the translation hands back. -/
import Derived.Test.YtjhkajkickngmaaW5
import Derived.Test.YtjhkajkickngmaaMSrt
set_option linter.unusedSimpArgs false
set_option linter.unusedVariables false
namespace Lp
open Go Go.RowKit Go.Proofs


set_option maxHeartbeats 2000000 in
set_option maxRecDepth 100000 in
theorem MergeSorts_law (o : Int) (v : Value) (ll : List LR) (c : Int) (lo hi : Nat) (w : World) (h1 : RLL w lo hi v ll) (hc1 : -9223372036854775808 ≤ c) (hc2 : c ≤ 9223372036854775807) (n1 : ll.length ≤ 9223372036854775807) (n2 : ∀ y ∈ ll, y.rs.length ≤ 9223372036854775807 ∧ ∀ r ∈ y.rs, r.ls.length ≤ 9223372036854775807 ∧ ∀ x ∈ r.ls, x.n.size ≤ 9223372036854775807 ∧ x.v.size ≤ 9223372036854775807) :
    Calls Try.prog 5 #[.int .i64 o, v, .int .i64 c] w (Ret fun res w' => Ext w w' ∧ res = .bool true) := by
  refine calls_of_J Try.func5 rfl (N := 86) rfl rfl ?_
  have top_h1 := h1.top
  have E0 : Ext w w := Ext.rfl'
  refine jp_seq [false] [true] rfl rfl rfl ?_
  refine j_region rfl ?_
  refine ops_val rfl rfl (fun _ hk => e_assign hk rfl ⟨rfl, rfl⟩) ?_
  refine ops_end rfl ?_
  refine post_seq ?_
  refine jp_seq [true, false] [true, true] rfl rfl rfl ?_
  refine jp_seq [true, false, false] [true, false, true] rfl rfl rfl ?_
  refine J.sub [(0, .int .i64 o), (1, v), (2, .int .i64 c), (6, .bool false)] ⟨rfl, rfl, rfl, rfl, trivial⟩ ?_
  refine j_sum 19 ((!(lightLL ll) && true)) (fun _ hQ3 => ?_) (fun w1 E2 => ?_)
  · skip
    rcases Bool.eq_false_or_eq_true (lightLL ll) with hg4 | hg4
    · skip
      refine j_region rfl ?_
      refine ops_val rfl rfl (fun _ hk => e_move hk rfl ⟨rfl, rfl⟩) ?_
      refine ops_rel (fun r_ w' => Ext w w' ∧ r_ = .bool true) rfl rfl (fun _ hk => e_call hk rfl Try.call12 (LightLL_spec _ ll _ _ _ h1 n1 n2) (fun _ _ h => ⟨h.1, h.2.trans (congrArg Value.bool hg4)⟩)) ?_
      rintro _ w5 ⟨E6, rfl⟩
      have zE6 := E6.size
      replace E0 := E0.trans E6
      replace h1 := h1.ext E6
      refine ops_val rfl rfl (fun _ hk => e_not hk rfl ⟨rfl, rfl⟩) ?_
      refine ops_val rfl rfl (fun _ hk => e_move hk rfl ⟨rfl, rfl⟩) ?_
      refine ops_runrel _ rfl rfl rfl rfl rfl (fun _ hk => e_call hk rfl Try.call13 (alive_spec _) (fun _ _ h => h)) ?_
      rintro _ w7 ⟨E8, rfl⟩
      have zE8 := E8.size
      replace E0 := E0.trans E8
      replace h1 := h1.ext E8
      refine ops_run rfl rfl rfl rfl rfl (fun _ hk => e_not hk rfl ⟨rfl, rfl⟩) ?_
      refine ops_val rfl rfl (fun _ hk => e_pick_f hk rfl rfl ⟨rfl, rfl⟩) ?_
      refine ops_end rfl ?_
      exact Post.sub ((19, .bool ((!(lightLL ll) && true))) :: [(0, .int .i64 o), (1, v), (2, .int .i64 c), (6, .bool false)]) ⟨(congrArg (fun b => some (Value.bool b)) (by simp [hg4])), rfl, rfl, rfl, rfl, trivial⟩ (hQ3 _ (E6.trans E8))
    · skip
      refine j_region rfl ?_
      refine ops_val rfl rfl (fun _ hk => e_move hk rfl ⟨rfl, rfl⟩) ?_
      refine ops_rel (fun r_ w' => Ext w w' ∧ r_ = .bool false) rfl rfl (fun _ hk => e_call hk rfl Try.call12 (LightLL_spec _ ll _ _ _ h1 n1 n2) (fun _ _ h => ⟨h.1, h.2.trans (congrArg Value.bool hg4)⟩)) ?_
      rintro _ w9 ⟨E10, rfl⟩
      have zE10 := E10.size
      replace E0 := E0.trans E10
      replace h1 := h1.ext E10
      refine ops_val rfl rfl (fun _ hk => e_not hk rfl ⟨rfl, rfl⟩) ?_
      refine ops_val rfl rfl (fun _ hk => e_move hk rfl ⟨rfl, rfl⟩) ?_
      refine ops_skip rfl rfl rfl rfl rfl ?_
      refine ops_skip rfl rfl rfl rfl rfl ?_
      refine ops_val rfl rfl (fun _ hk => e_pick_t hk rfl rfl ⟨rfl, rfl⟩) ?_
      refine ops_end rfl ?_
      exact Post.sub ((19, .bool ((!(lightLL ll) && true))) :: [(0, .int .i64 o), (1, v), (2, .int .i64 c), (6, .bool false)]) ⟨(congrArg (fun b => some (Value.bool b)) (by simp [hg4])), rfl, rfl, rfl, rfl, trivial⟩ (hQ3 _ E10)
  · skip
    have zE2 := E2.size
    replace E0 := E0.trans E2
    replace h1 := h1.ext E2
    refine post_seq ?_
    refine jp_cond [true, false, true, false] [true, false, true, true] rfl rfl rfl rfl (fun hc11 => ?_) (fun hc11 => ?_)
    · simp only [Bool.and_eq_true, Bool.or_eq_true, Bool.not_eq_true', Bool.not_eq_false', Bool.and_eq_false_iff, Bool.or_eq_false_iff, decide_eq_true_eq, decide_eq_false_iff_not, Decidable.not_not, ne_eq] at hc11
      refine jp_seq [true, false, true, false, false] [true, false, true, false, true] rfl rfl rfl ?_
      refine j_region rfl ?_
      refine ops_rel _ rfl rfl (fun _ hk => e_call hk rfl Try.call13 (alive_spec _) (fun _ _ h => h)) ?_
      rintro _ w12 ⟨E13, rfl⟩
      have zE13 := E13.size
      replace E0 := E0.trans E13
      replace h1 := h1.ext E13
      refine ops_val rfl rfl (fun _ hk => e_assign hk rfl ⟨rfl, rfl⟩) ?_
      refine ops_end rfl ?_
      refine post_seq ?_
      refine jp_ret rfl ?_
      refine post_seq_ret ?_
      refine post_ret [.bool true] (.bool true) Try.results5 ⟨rfl, trivial⟩ rfl ?_
      exact ⟨E0, rfl⟩
    · simp only [Bool.and_eq_true, Bool.or_eq_true, Bool.not_eq_true', Bool.not_eq_false', Bool.and_eq_false_iff, Bool.or_eq_false_iff, decide_eq_true_eq, decide_eq_false_iff_not, Decidable.not_not, ne_eq] at hc11
      have hc : lightLL ll = true := by simpa using hc11
      have hlen := lightLL_len hc
      have hS := light_small hc
      have htt := light_total hc
      have hR : Rws w1 lo hi ll := h1.row
      refine jp_skip rfl ?_
      refine post_seq ?_
      refine jp_seq [true, true, false] [true, true, true] rfl rfl rfl ?_
      refine j_region rfl ?_
      refine ops_val rfl rfl (fun _ hk => e_assign hk rfl ⟨rfl, rfl⟩) ?_
      refine ops_end rfl ?_
      refine post_seq ?_
      refine jp_seq [true, true, true, false] [true, true, true, true] rfl rfl rfl ?_
      refine j_region rfl ?_
      refine ops_val rfl rfl (fun _ hk => e_assign hk rfl ⟨rfl, rfl⟩) ?_
      refine ops_end rfl ?_
      refine post_seq ?_
      refine jp_seq [true, true, true, true, false] [true, true, true, true, true] rfl rfl rfl ?_
      refine jp_seq [true, true, true, true, false, false] [true, true, true, true, false, true] rfl rfl rfl ?_
      refine j_region rfl ?_
      refine ops_val rfl rfl (fun _ hk => e_assign hk rfl ⟨rfl, rfl⟩) ?_
      refine ops_end rfl ?_
      refine post_seq ?_
      refine jp_block [true, true, true, true, false, true, false] rfl rfl ?_
      refine jp_loop (fun (g : Nat × Value × List RowD × Value × List LR) => [(0, .int .i64 o), (1, v), (2, .int .i64 c), (6, .bool false), (9, .int .i64 ((g.1 : Nat) : Int)), (7, g.2.1), (8, g.2.2.2.1)]) (fun (g : Nat × Value × List RowD × Value × List LR) (wl : World) => (Ext w1 wl) ∧ (g.1 ≤ ll.length) ∧ (Own RowD.cs 2 34 wl w1.heap.size g.2.1 g.2.2.1) ∧ (g.2.2.1 = (lls (ll.take g.1)).flatten) ∧ (Own LR.cs 1 27 wl w1.heap.size g.2.2.2.1 g.2.2.2.2) ∧ (lls g.2.2.2.2 = (lls (ll.take g.1)).map (sortR o)) ∧ (Srt wl w1.heap.size g.2.1 lo hi g.2.2.2.2)) (fun (g : Nat × Value × List RowD × Value × List LR) => ll.length - g.1) [true, true, true, true, false, true, false, false] ((0, .slice none 0 0, [], .slice none 0 0, [])) rfl rfl ⟨rfl, rfl, rfl, rfl, rfl, rfl, rfl, trivial⟩ ⟨Ext.rfl', Nat.zero_le _, Own.nil _ _, rfl, Own.nil _ _, rfl, Srt.nil _ _ _ _ _⟩ ?_
      rintro ⟨k, fv, fl, lsv, lss⟩ w15 ⟨E14, hk, hfl, hfe, hls, hle, hsr⟩
      replace hk : k ≤ ll.length := hk
      replace hfl : Own RowD.cs 2 34 w15 w1.heap.size fv fl := hfl
      replace hfe : fl = (lls (ll.take k)).flatten := hfe
      replace hls : Own LR.cs 1 27 w15 w1.heap.size lsv lss := hls
      replace hle : lls lss = (lls (ll.take k)).map (sortR o) := hle
      replace hsr : Srt w15 w1.heap.size fv lo hi lss := hsr
      have zE14 := E14.size
      replace E0 := E0.trans E14
      replace h1 := h1.ext E14
      replace hR := hR.ext E14
      refine J.sub [(0, .int .i64 o), (1, v), (2, .int .i64 c), (6, .bool false), (9, .int .i64 ((k : Nat) : Int)), (7, fv), (8, lsv)] ⟨rfl, rfl, rfl, rfl, rfl, rfl, rfl, trivial⟩ ?_
      have lt_hfl := fun g h => (hfl.lt (g := g) h).2
      have lt_hls := fun g h => (hls.lt (g := g) h).2
      refine jp_seq [true, true, true, true, false, true, false, false, false] [true, true, true, true, false, true, false, false, true] rfl rfl rfl ?_
      refine jp_seq [true, true, true, true, false, true, false, false, false, false] [true, true, true, true, false, true, false, false, false, true] rfl rfl rfl ?_
      refine j_region rfl ?_
      refine ops_val rfl rfl (fun _ hk => e_move hk rfl ⟨rfl, rfl⟩) ?_
      refine ops_val rfl rfl (fun _ hk => e_move hk rfl ⟨rfl, rfl⟩) ?_
      refine ops_val rfl rfl (fun _ hk => e_len hk rfl Try.runUnderlying22 h1.sl.len ⟨rfl, rfl⟩) ?_
      refine ops_val rfl rfl (fun _ hk => e_lss hk rfl rfl rfl ⟨rfl, rfl⟩) ?_
      refine ops_end rfl ?_
      refine post_seq ?_
      refine jp_cond [true, true, true, true, false, true, false, false, false, true, false] [true, true, true, true, false, true, false, false, false, true, true] rfl rfl rfl rfl (fun hc16 => ?_) (fun hc16 => ?_)
      · replace hc16 := of_decide_eq_true hc16
        obtain ⟨y, hy⟩ := get_some ll k (by omega)
        have hr_y := hR y (mem_get hy)
        have hfe2 := srt_fe hfe hy
        have hfn : (fl ++ y.rs).length ≤ 200 := by rw [hfe2, flat_total]; exact Nat.le_trans (total_take ll (k + 1)) htt
        rw [List.length_append] at hfn
        have hln : lss.length ≤ 20 := by have := congrArg List.length hle; simp [lls] at this; omega
        refine jp_skip rfl ?_
        refine post_seq ?_
        refine jp_seq [true, true, true, true, false, true, false, false, true, false] [true, true, true, true, false, true, false, false, true, true] rfl rfl rfl ?_
        refine jp_block [true, true, true, true, false, true, false, false, true, false, false] rfl rfl ?_
        refine jp_seq [true, true, true, true, false, true, false, false, true, false, false, false] [true, true, true, true, false, true, false, false, true, false, false, true] rfl rfl rfl ?_
        refine j_region rfl ?_
        refine ops_val rfl rfl (fun _ hk => e_move hk rfl ⟨rfl, rfl⟩) ?_
        refine ops_val rfl rfl (fun _ hk => e_move hk rfl ⟨rfl, rfl⟩) ?_
        refine ops_val rfl rfl (fun _ hk => e_move hk rfl ⟨rfl, rfl⟩) ?_
        refine ops_val rfl rfl (fun _ hk => e_move hk rfl ⟨rfl, rfl⟩) ?_
        have A17 := h1.sl.at_ hy
        have qA17 := h1.sl.block (by omega)
        have hr_y := hR y (mem_get hy)
        have nr_y := hS.row hy
        have nl_y : ∀ r ∈ y.rs, r.ls.length ≤ 1000000000 := fun r hr => (hS _ (List.mem_of_getElem? (lls_get hy))).2 r hr
        refine ops_val rfl rfl (fun _ hk => e_indexAddr (k := k) hk rfl rfl Try.runUnderlying22 Try.sizeOf27 (h1.sl.has (by omega)) (by omega) ⟨rfl, rfl⟩) ?_
        refine ops_val rfl rfl (fun _ hk => e_load1 hk rfl Try.isAgg27 (A17.cell 0 rfl) ⟨rfl, rfl⟩) ?_
        refine ops_rel _ rfl rfl (fun _ hk => e_call hk rfl Try.call28 (Sort_spec o _ y.rs _ _ _ hr_y (by have := nr_y; omega) nl_y) (fun _ _ h => h)) ?_
        rintro so w18 ⟨E19, hso, hlb⟩
        have zE19 := E19.size
        replace E0 := E0.trans E19
        replace h1 := h1.ext E19
        replace hR := hR.ext E19
        replace hfl := hfl.ext E19
        replace hls := hls.ext E19
        replace hsr := hsr.ext E19
        replace E14 := E14.trans E19
        replace A17 := A17.ext E19
        replace hr_y := hr_y.ext E19
        refine ops_rel (fun r_ w' => ∃ g, r_ = .slice (some ⟨g, 0, none⟩) 1 1 ∧ New w18 w' g 27 [so]) rfl rfl (fun _ hk => e_buildSlice [.tmp 33] [[so]] hk rfl rfl Try.runUnderlying22 Try.sizeOf27 Try.zeroValue27 rfl rfl rfl rfl ⟨cells_one hso.sl.one, rfl, trivial⟩ (fun g w' n => ⟨g, rfl, n⟩)) ?_
        rintro _ w21 ⟨g20, rfl, N22⟩
        have EN22 := N22.ext
        have nN22 := N22.num
        have sN22 := N22.size
        have zEN22 := EN22.size
        replace E0 := E0.trans EN22
        replace h1 := h1.ext EN22
        replace hR := hR.ext EN22
        replace hfl := hfl.ext EN22
        replace hls := hls.ext EN22
        replace hsr := hsr.ext EN22
        replace E14 := E14.trans EN22
        replace A17 := A17.ext EN22
        replace hr_y := hr_y.ext EN22
        replace hso := hso.ext EN22
        replace hlb := hlb.ext EN22
        have b23 := N22.box
        have b23a := b23.at_
        have b23s := At.sl (cs := LR.cs) (z := 1) (xs := [⟨so, (sortR o y.rs)⟩]) b23a rfl (by intro x _; rfl) rfl
        refine ops_rel (fun r_ w' => Own LR.cs 1 27 w' w1.heap.size r_ (lss ++ [⟨so, (sortR o y.rs)⟩]) ∧ ∃ a b, Upd a b w21 w' ∧ ((a = 0 ∧ b = 0) ∨ ((lsv).ownBlock = some a ∧ b = a + 1 ∧ w1.heap.size ≤ a)) ∧ (r_.ownBlock = (lsv).ownBlock ∨ r_.ownBlock = some w21.heap.size)) rfl rfl (fun _ hk => e_append (cs := LR.cs) (z := 1) (base := w1.heap.size) hk rfl rfl und_22 infz_27 rfl (by decide) hls b23s (by intro r_ hr_; simp at hr_; subst hr_; exact ⟨hso.one, trivial⟩) (by unfold maxLen; (try simp only [List.length_append, List.length_cons, List.length_nil]); omega) (by (try simp only [List.length_append, List.length_cons, List.length_nil]); omega) (by omega) (fun v_ w_ h1 h2 h3 => ⟨h1, by obtain ⟨a, b, h4, h5⟩ := h2; exact ⟨a, b, h4, h5, h3⟩⟩)) ?_
        rintro v24 w25 ⟨ho26, a28, b29, U27, hU27, nv24⟩
        have hzU27 : (a28 = 0 ∧ b29 = 0) ∨ (b29 = a28 + 1 ∧ w1.heap.size ≤ a28 ∧ a28 < w15.heap.size) := by rcases hU27 with h | ⟨h1, h2, h3⟩; exact .inl h; exact .inr ⟨h2, h3, lt_hls a28 h1⟩
        have zU27 := U27.size
        replace E0 := Ext.then_ E0 U27 (by omega)
        replace h1 := h1.upd U27 (by omega)
        replace hR := hR.upd U27 (by omega)
        replace hfl := Own.app hfl hls (by decide) U27 hU27
        replace hsr := Srt.app hsr hls (by decide) U27 hU27 (by omega)
        replace E14 := Ext.then_ E14 U27 (by omega)
        replace hr_y := hr_y.upd U27 (by omega)
        replace hso := Own.app hso hls (by decide) U27 hU27
        replace hlb := hlb.upd U27 (by omega)
        replace b23 := b23.upd U27 (by omega)
        replace b23a := b23a.upd U27 (by omega)
        replace b23s := b23s.upd U27 (by omega)
        have lt_ho26 := fun g h => (ho26.lt (g := g) h).2
        replace hsr := hsr.snoc (x := ⟨so, sortR o y.rs⟩) hso hlb (by omega) (fun g hg => by have := lt_hfl g hg; omega)
        refine ops_val rfl rfl (fun _ hk => e_assign hk rfl ⟨rfl, rfl⟩) ?_
        refine ops_end rfl ?_
        refine post_seq ?_
        refine j_region rfl ?_
        refine ops_val rfl rfl (fun _ hk => e_move hk rfl ⟨rfl, rfl⟩) ?_
        refine ops_val rfl rfl (fun _ hk => e_move hk rfl ⟨rfl, rfl⟩) ?_
        refine ops_val rfl rfl (fun _ hk => e_move hk rfl ⟨rfl, rfl⟩) ?_
        have A30 := h1.sl.at_ hy
        have qA30 := h1.sl.block (by omega)
        have hr_y := hR y (mem_get hy)
        have nr_y := hS.row hy
        have nl_y : ∀ r ∈ y.rs, r.ls.length ≤ 1000000000 := fun r hr => (hS _ (List.mem_of_getElem? (lls_get hy))).2 r hr
        refine ops_val rfl rfl (fun _ hk => e_indexAddr (k := k) hk rfl rfl Try.runUnderlying22 Try.sizeOf27 (h1.sl.has (by omega)) (by omega) ⟨rfl, rfl⟩) ?_
        refine ops_val rfl rfl (fun _ hk => e_load1 hk rfl Try.isAgg27 (A30.cell 0 rfl) ⟨rfl, rfl⟩) ?_
        refine ops_rel (fun r_ w' => Own RowD.cs 2 34 w' w1.heap.size r_ (fl ++ y.rs) ∧ ∃ a b, Upd a b w25 w' ∧ ((a = 0 ∧ b = 0) ∨ ((fv).ownBlock = some a ∧ b = a + 1 ∧ w1.heap.size ≤ a)) ∧ (r_.ownBlock = (fv).ownBlock ∨ r_.ownBlock = some w25.heap.size)) rfl rfl (fun _ hk => e_append (cs := RowD.cs) (z := 2) (base := w1.heap.size) hk rfl rfl und_27 infz_34 rfl (by decide) hfl hr_y.sl (fun r hr => ⟨(hr_y.lab r hr).one, rfl, trivial⟩) (by unfold maxLen; (try simp only [List.length_append, List.length_cons, List.length_nil]); omega) (by (try simp only [List.length_append, List.length_cons, List.length_nil]); omega) (by omega) (fun v_ w_ h1 h2 h3 => ⟨h1, by obtain ⟨a, b, h4, h5⟩ := h2; exact ⟨a, b, h4, h5, h3⟩⟩)) ?_
        rintro v31 w32 ⟨ho33, a35, b36, U34, hU34, nv31⟩
        have hzU34 : (a35 = 0 ∧ b36 = 0) ∨ (b36 = a35 + 1 ∧ w1.heap.size ≤ a35 ∧ a35 < w15.heap.size) := by rcases hU34 with h | ⟨h1, h2, h3⟩; exact .inl h; exact .inr ⟨h2, h3, lt_hfl a35 h1⟩
        have zU34 := U34.size
        replace E0 := Ext.then_ E0 U34 (by omega)
        replace h1 := h1.upd U34 (by omega)
        replace hR := hR.upd U34 (by omega)
        replace hsr := Srt.flat hsr U34 hU34 nv31 (by omega)
        replace E14 := Ext.then_ E14 U34 (by omega)
        replace b23 := b23.upd U34 (by omega)
        replace b23a := b23a.upd U34 (by omega)
        replace b23s := b23s.upd U34 (by omega)
        replace ho26 := Own.app ho26 hfl (by decide) U34 hU34
        replace hr_y := hr_y.upd U34 (by omega)
        have lt_ho33 := fun g h => (ho33.lt (g := g) h).2
        refine ops_val rfl rfl (fun _ hk => e_assign hk rfl ⟨rfl, rfl⟩) ?_
        refine ops_end rfl ?_
        refine post_block ?_
        refine post_seq ?_
        refine j_region rfl ?_
        refine ops_val rfl rfl (fun _ hk => e_move hk rfl ⟨rfl, rfl⟩) ?_
        refine ops_val rfl rfl (fun _ hk => e_add hk rfl rfl (w64eq (c := ((k + 1 : Nat) : Int)) (by omega) (by omega)) ⟨rfl, rfl⟩) ?_
        refine ops_val rfl rfl (fun _ hk => e_assign hk rfl ⟨rfl, rfl⟩) ?_
        refine ops_end rfl ?_
        exact post_loop ((k + 1, v31, (fl ++ y.rs), v24, (lss ++ [⟨so, (sortR o y.rs)⟩]))) ⟨rfl, rfl, rfl, rfl, rfl, rfl, rfl, trivial⟩ ⟨E14, by omega, ho33, hfe2, ho26, srt_le hle hy, hsr⟩ (by omega)
      · replace hc16 := of_decide_eq_false hc16
        obtain rfl : k = ll.length := by omega
        rw [List.take_length] at hfe hle
        have hSs := srt_small hle hS
        have hts := srt_total hle
        have hsd := srt_sorted hle
        have hln : lss.length = ll.length := by have := congrArg List.length hle; simpa [lls] using this
        have hfn : fl.length ≤ 200 := by rw [hfe, flat_total]; exact htt
        have hRs := hsr.rws
        refine jp_exit rfl ?_
        refine post_seq_exit ?_
        refine post_loop_exit ?_
        refine post_block_exit ?_
        refine post_seq ?_
        refine jp_seq [true, true, true, true, true, false] [true, true, true, true, true, true] rfl rfl rfl ?_
        refine j_region rfl ?_
        refine ops_val rfl rfl (fun _ hk => e_move hk rfl ⟨rfl, rfl⟩) ?_
        refine ops_val rfl rfl (fun _ hk => e_move hk rfl ⟨rfl, rfl⟩) ?_
        refine ops_rel _ rfl rfl (fun _ hk => e_call hk rfl Try.call16 (RowsS_spec o _ lss _ _ 0 _ _ hls.sl hRs hSs (by omega) (by omega) (by omega) hsd) (fun _ _ h => h)) ?_
        rintro hv w37 ⟨E38, hh1, hh2⟩
        have zE38 := E38.size
        replace E0 := E0.trans E38
        replace h1 := h1.ext E38
        replace hR := hR.ext E38
        replace hfl := hfl.ext E38
        replace hls := hls.ext E38
        replace hsr := hsr.ext E38
        replace hRs := hRs.ext E38
        have hh := rrow_of hh1 hh2
        have hnl := small_flat (o := o) hSs (by omega)
        have hnl1 := hnl.1
        have hsl := sortR_length o fl
        refine ops_val rfl rfl (fun _ hk => e_assign hk rfl ⟨rfl, rfl⟩) ?_
        refine ops_end rfl ?_
        refine post_seq ?_
        refine J.sub [(0, .int .i64 o), (2, .int .i64 c), (6, .bool false), (7, fv), (8, lsv), (10, hv)] ⟨rfl, rfl, rfl, rfl, rfl, rfl, trivial⟩ ?_
        refine jp_seq [true, true, true, true, true, true, false] [true, true, true, true, true, true, true] rfl rfl rfl ?_
        refine j_region rfl ?_
        refine ops_val rfl rfl (fun _ hk => e_move hk rfl ⟨rfl, rfl⟩) ?_
        refine ops_val rfl rfl (fun _ hk => e_move hk rfl ⟨rfl, rfl⟩) ?_
        refine ops_val rfl rfl (fun _ hk => e_len hk rfl Try.runUnderlying22 hls.sl.len ⟨rfl, rfl⟩) ?_
        refine ops_val rfl rfl (fun _ hk => e_add hk rfl rfl (w64eq (c := ((lss.length + 1 : Nat) : Int)) (by omega) (by omega)) ⟨rfl, rfl⟩) ?_
        have ht39a := Int.tmod_lt_of_pos c (show 0 < ((lss.length + 1 : Nat) : Int) by omega)
        have ht39b := Int.lt_tmod_of_pos c (show 0 < ((lss.length + 1 : Nat) : Int) by omega)
        have ht39c : 0 ≤ c → 0 ≤ (Int.tmod c ((lss.length + 1 : Nat) : Int)) := fun h => Int.tmod_nonneg _ h
        refine ops_val rfl rfl (fun _ hk => e_rem (c := (Int.tmod c ((lss.length + 1 : Nat) : Int))) hk rfl rfl (by omega) rfl ⟨rfl, rfl⟩) ?_
        refine ops_val rfl rfl (fun _ hk => e_move hk rfl ⟨rfl, rfl⟩) ?_
        refine ops_val rfl rfl (fun _ hk => e_len hk rfl Try.runUnderlying22 hls.sl.len ⟨rfl, rfl⟩) ?_
        refine ops_val rfl rfl (fun _ hk => e_add hk rfl rfl (w64eq (c := ((Int.tmod c ((lss.length + 1 : Nat) : Int)) + ((lss.length : Nat) : Int))) (by omega) (by omega)) ⟨rfl, rfl⟩) ?_
        refine ops_val rfl rfl (fun _ hk => e_add hk rfl rfl (w64eq (c := (((Int.tmod c ((lss.length + 1 : Nat) : Int)) + ((lss.length : Nat) : Int)) + 1)) (by omega) (by omega)) ⟨rfl, rfl⟩) ?_
        refine ops_val rfl rfl (fun _ hk => e_move hk rfl ⟨rfl, rfl⟩) ?_
        refine ops_val rfl rfl (fun _ hk => e_len hk rfl Try.runUnderlying22 hls.sl.len ⟨rfl, rfl⟩) ?_
        refine ops_val rfl rfl (fun _ hk => e_add hk rfl rfl (w64eq (c := ((lss.length + 1 : Nat) : Int)) (by omega) (by omega)) ⟨rfl, rfl⟩) ?_
        have ht40a := Int.tmod_lt_of_pos (((Int.tmod c ((lss.length + 1 : Nat) : Int)) + ((lss.length : Nat) : Int)) + 1) (show 0 < ((lss.length + 1 : Nat) : Int) by omega)
        have ht40b := Int.lt_tmod_of_pos (((Int.tmod c ((lss.length + 1 : Nat) : Int)) + ((lss.length : Nat) : Int)) + 1) (show 0 < ((lss.length + 1 : Nat) : Int) by omega)
        have ht40c : 0 ≤ (((Int.tmod c ((lss.length + 1 : Nat) : Int)) + ((lss.length : Nat) : Int)) + 1) → 0 ≤ (Int.tmod (((Int.tmod c ((lss.length + 1 : Nat) : Int)) + ((lss.length : Nat) : Int)) + 1) ((lss.length + 1 : Nat) : Int)) := fun h => Int.tmod_nonneg _ h
        refine ops_val rfl rfl (fun _ hk => e_rem (c := (Int.tmod (((Int.tmod c ((lss.length + 1 : Nat) : Int)) + ((lss.length : Nat) : Int)) + 1) ((lss.length + 1 : Nat) : Int))) hk rfl rfl (by omega) rfl ⟨rfl, rfl⟩) ?_
        refine ops_val rfl rfl (fun _ hk => e_assign hk rfl ⟨rfl, rfl⟩) ?_
        refine ops_end rfl ?_
        obtain ⟨at_, hat, hatl⟩ : ∃ q : Nat, (Int.tmod (((Int.tmod c ((lss.length + 1 : Nat) : Int)) + ((lss.length : Nat) : Int)) + 1) ((lss.length + 1 : Nat) : Int)) = ((q : Nat) : Int) ∧ q ≤ lss.length := ⟨((Int.tmod (((Int.tmod c ((lss.length + 1 : Nat) : Int)) + ((lss.length : Nat) : Int)) + 1) ((lss.length + 1 : Nat) : Int))).toNat, by omega, by omega⟩
        rw [hat]
        refine post_seq ?_
        refine J.sub [(0, .int .i64 o), (6, .bool false), (7, fv), (8, lsv), (10, hv), (11, .int .i64 ((at_ : Nat) : Int))] ⟨rfl, rfl, rfl, rfl, rfl, rfl, trivial⟩ ?_
        refine jp_seq [true, true, true, true, true, true, true, false] [true, true, true, true, true, true, true, true] rfl rfl rfl ?_
        refine J.sub [(0, .int .i64 o), (6, .bool false), (7, fv), (8, lsv), (10, hv), (11, .int .i64 ((at_ : Nat) : Int))] ⟨rfl, rfl, rfl, rfl, rfl, rfl, trivial⟩ ?_
        refine wp_draw 13 mixed rfl rfl ?_
        refine dr_val rfl rfl (fun ρ_ w_ E_ hk _ => e_move hk rfl ⟨Ext.rfl', rfl⟩) ?_
        refine dr_val rfl rfl (fun ρ_ w_ E_ hk _ => e_move hk rfl ⟨Ext.rfl', rfl⟩) ?_
        refine dr_val rfl rfl (fun ρ_ w_ E_ hk _ => e_move hk rfl ⟨Ext.rfl', rfl⟩) ?_
        refine dr_val rfl rfl (fun ρ_ w_ E_ hk _ => e_move hk rfl ⟨Ext.rfl', rfl⟩) ?_
        have hs41 := hls.sl.cut (0) (at_) (by omega) (by omega)
        refine dr_val rfl rfl (fun ρ_ w_ E_ hk _ => e_slice (n := lss.length) (a := 0) (b := at_) hk rfl rfl (congrArg some (hk.op rfl)) (.inl ⟨rfl, rfl⟩) (.inr ⟨_, rfl⟩) Try.runUnderlying22 Try.sizeOf27 (hls.sl.capLe (by omega)) (by omega) ⟨Ext.rfl', rfl⟩) ?_
        refine dr_opq (φ := (fun v w => ∃ hi, RRow w 0 hi v (sortR o (lls ((lss.take at_).drop 0)).flatten))) rfl rfl (fun _ _ _ E ⟨hi, h⟩ => ⟨hi, h.ext E⟩) (fun ρ_ w_ E_ hk _ => e_call hk rfl Try.call16 (RowsS_spec o _ _ _ _ 0 _ w_ (hs41.ext E_) ((hRs.ext E_).take 0 at_) (small_cut hSs 0 at_) (by rw [List.length_drop, List.length_take]; omega) (by rw [lls_cut]; exact Nat.le_trans (total_cut _ _ _) (by omega)) (Nat.le_trans (by omega) E_.size) (fun x hx => hsd x (by rw [lls_cut] at hx; exact mem_cut hx))) (fun v_ w9 h9 => ⟨h9.1, w9.heap.size, rrow_of h9.2.1 h9.2.2⟩)) ?_
        refine dr_val rfl rfl (fun ρ_ w_ E_ hk _ => e_move hk rfl ⟨Ext.rfl', rfl⟩) ?_
        refine dr_val rfl rfl (fun ρ_ w_ E_ hk _ => e_move hk rfl ⟨Ext.rfl', rfl⟩) ?_
        refine dr_val rfl rfl (fun ρ_ w_ E_ hk _ => e_move hk rfl ⟨Ext.rfl', rfl⟩) ?_
        have hs42 := hls.sl.cut (at_) (lss.length) (by omega) (by omega)
        refine dr_val rfl rfl (fun ρ_ w_ E_ hk _ => e_slice (n := lss.length) (a := at_) (b := lss.length) hk rfl (congrArg some (hk.op rfl)) rfl (.inr ⟨_, rfl⟩) (.inl ⟨rfl, rfl⟩) Try.runUnderlying22 Try.sizeOf27 (hls.sl.capLe (by omega)) (by omega) ⟨Ext.rfl', rfl⟩) ?_
        refine dr_opq (φ := (fun v w => ∃ hi, RRow w 0 hi v (sortR o (lls ((lss.take lss.length).drop at_)).flatten))) rfl rfl (fun _ _ _ E ⟨hi, h⟩ => ⟨hi, h.ext E⟩) (fun ρ_ w_ E_ hk ⟨⟨_, hq63⟩, _⟩ => e_call hk rfl Try.call16 (RowsS_spec o _ _ _ _ 0 _ w_ (hs42.ext E_) ((hRs.ext E_).take at_ lss.length) (small_cut hSs at_ lss.length) (by rw [List.length_drop, List.length_take]; omega) (by rw [lls_cut]; exact Nat.le_trans (total_cut _ _ _) (by omega)) (Nat.le_trans (by omega) E_.size) (fun x hx => hsd x (by rw [lls_cut] at hx; exact mem_cut hx))) (fun v_ w9 h9 => ⟨h9.1, w9.heap.size, rrow_of h9.2.1 h9.2.2⟩)) ?_
        refine dr_opq (φ := (fun v w => ∃ a b hi, RRow w 0 hi a (sortR o (lls ((lss.take at_).drop 0)).flatten) ∧ RRow w 0 hi b (sortR o (lls ((lss.take lss.length).drop at_)).flatten) ∧ ∃ x y, SlT LR.cs 1 w x y v [⟨a, sortR o (lls ((lss.take at_).drop 0)).flatten⟩, ⟨b, sortR o (lls ((lss.take lss.length).drop at_)).flatten⟩])) rfl rfl (fun _ _ _ E ⟨a, b, hi, h1, h2, x, y, h3⟩ => ⟨a, b, hi, h1.ext E, h2.ext E, x, y, h3.ext E⟩) (fun ρ_ w_ E_ hk ⟨⟨_, hq63⟩, ⟨_, hq68⟩, _⟩ => e_buildSlice [.tmp 63, .tmp 68] [[(ρ_ 63)], [(ρ_ 68)]] hk rfl rfl Try.runUnderlying22 Try.sizeOf27 Try.zeroValue27 rfl rfl rfl rfl ⟨cells_one hq63.sl.one, rfl, cells_one hq68.sl.one, rfl, trivial⟩ (fun g w' n => ⟨n.ext, _, _, _, (hq63.ext n.ext).all, (hq68.ext n.ext).all, _, _, At.sl n.box.at_ rfl (by intro x _; rfl) rfl⟩)) ?_
        refine dr_opq (φ := (fun v w => ∃ hi, RRow w 0 hi v (sortR o (lls lss).flatten))) rfl rfl (fun _ _ _ E ⟨hi, h⟩ => ⟨hi, h.ext E⟩) (fun ρ_ w_ E_ hk ⟨⟨a_, b_, _, ha_, hb_, _, _, hq69⟩, ⟨_, hq68⟩, _⟩ => e_call hk rfl Try.call16 (RowsS_spec o _ [⟨a_, sortR o (lls ((lss.take at_).drop 0)).flatten⟩, ⟨b_, sortR o (lls ((lss.take lss.length).drop at_)).flatten⟩] _ _ 0 _ w_ hq69 (rws2 ha_ hb_) (heaps_small hSs (by omega) at_ a_ b_) (by simp) (Nat.le_trans (heaps_total at_ a_ b_) (by omega)) ha_.top (heaps_sorted a_ b_)) (fun v_ w9 h9 => ⟨h9.1, w9.heap.size, heaps2 o lss at_ hatl a_ b_ ▸ rrow_of h9.2.1 h9.2.2⟩)) ?_
        refine dr_end rfl (fun w43 E44 v70 ⟨hi70, hv70⟩ v69 _ v68 ⟨hi68, hv68⟩ v63 ⟨hi63, hv63⟩ => ?_)
        have zE44 := E44.size
        replace E0 := E0.trans E44
        replace h1 := h1.ext E44
        replace hR := hR.ext E44
        replace hfl := hfl.ext E44
        replace hls := hls.ext E44
        replace hsr := hsr.ext E44
        replace hRs := hRs.ext E44
        replace hh1 := hh1.ext E44
        replace hh2 := hh2.ext E44
        replace hh := hh.ext E44
        replace hs41 := hs41.ext E44
        replace hs42 := hs42.ext E44
        refine Ops.sub [(0, .int .i64 o), (6, .bool false), (7, fv), (8, lsv), (10, hv), (11, .int .i64 ((at_ : Nat) : Int)), (58, .int .i64 o), (59, .int .i64 o), (60, lsv), (61, .int .i64 ((at_ : Nat) : Int)), (62, cut 1 lsv 0 at_), (63, v63), (64, .int .i64 o), (65, lsv), (66, .int .i64 ((at_ : Nat) : Int)), (67, cut 1 lsv at_ lss.length), (68, v68), (69, v69), (70, v70)] ⟨rfl, rfl, rfl, rfl, rfl, rfl, rfl, rfl, rfl, rfl, rfl, rfl, rfl, rfl, rfl, rfl, rfl, rfl, rfl, trivial⟩ ?_
        refine ops_val rfl rfl (fun _ hk => e_assign hk rfl ⟨rfl, rfl⟩) ?_
        refine ops_end rfl ?_
        refine post_seq ?_
        refine J.sub [(0, .int .i64 o), (6, .bool false), (7, fv), (10, hv), (12, v70)] ⟨rfl, rfl, rfl, rfl, rfl, trivial⟩ ?_
        refine jp_seq [true, true, true, true, true, true, true, true, false] [true, true, true, true, true, true, true, true, true] rfl rfl rfl ?_
        refine j_region rfl ?_
        refine ops_val rfl rfl (fun _ hk => e_move hk rfl ⟨rfl, rfl⟩) ?_
        refine ops_val rfl rfl (fun _ hk => e_move hk rfl ⟨rfl, rfl⟩) ?_
        refine ops_rel (fun r_ w' => Ext w43 w' ∧ r_ = .bool true) rfl rfl (fun _ hk => e_call hk rfl Try.call25 (InOrder_spec o _ (sortR o (lls lss).flatten) _ _ _ hh (by omega) hnl.2) (fun _ _ h => ⟨h.1, h.2.trans (congrArg Value.bool (sortedB_iff.2 (sortR_stable o _).sorted))⟩)) ?_
        rintro _ w45 ⟨E46, rfl⟩
        have zE46 := E46.size
        replace E0 := E0.trans E46
        replace h1 := h1.ext E46
        replace hR := hR.ext E46
        replace hfl := hfl.ext E46
        replace hls := hls.ext E46
        replace hsr := hsr.ext E46
        replace hRs := hRs.ext E46
        replace hh1 := hh1.ext E46
        replace hh2 := hh2.ext E46
        replace hh := hh.ext E46
        replace hs41 := hs41.ext E46
        replace hs42 := hs42.ext E46
        replace hv63 := hv63.ext E46
        replace hv68 := hv68.ext E46
        replace hv70 := hv70.ext E46
        refine ops_val rfl rfl (fun _ hk => e_move hk rfl ⟨rfl, rfl⟩) ?_
        refine ops_run rfl rfl rfl rfl rfl (fun _ hk => e_move hk rfl ⟨rfl, rfl⟩) ?_
        refine ops_run rfl rfl rfl rfl rfl (fun _ hk => e_move hk rfl ⟨rfl, rfl⟩) ?_
        refine ops_run rfl rfl rfl rfl rfl (fun _ hk => e_move hk rfl ⟨rfl, rfl⟩) ?_
        refine ops_runrel _ rfl rfl rfl rfl rfl (fun _ hk => e_call hk rfl Try.call28 (Sort_spec o _ fl _ _ _ (⟨hfl.sl.wide (Nat.zero_le _) (Nat.le_refl _) (Nat.le_refl _), fun r hr => (flat_lab hfe hR r hr).wide (Nat.zero_le _) (by omega) (Nat.le_refl _)⟩ : RRow w45 0 _ _ fl) (by omega) (flat_len2 hfe hS)) (fun _ _ h => h)) ?_
        rintro so w47 ⟨E48, hso, hlb⟩
        have zE48 := E48.size
        replace E0 := E0.trans E48
        replace h1 := h1.ext E48
        replace hR := hR.ext E48
        replace hfl := hfl.ext E48
        replace hls := hls.ext E48
        replace hsr := hsr.ext E48
        replace hRs := hRs.ext E48
        replace hh1 := hh1.ext E48
        replace hh2 := hh2.ext E48
        replace hh := hh.ext E48
        replace hs41 := hs41.ext E48
        replace hs42 := hs42.ext E48
        replace hv63 := hv63.ext E48
        replace hv68 := hv68.ext E48
        replace hv70 := hv70.ext E48
        have hss := rrow_of hso hlb
        have hsn : ∀ r ∈ sortR o fl, r.ls.length ≤ 1000000000 := by have h9 := hnl.2; rw [hle, sortR_flatten, ← hfe] at h9; exact h9
        refine ops_runrel (fun r_ w' => Ext w47 w' ∧ r_ = .bool true) rfl rfl rfl rfl rfl (fun _ hk => e_call hk rfl Try.call15 (SameRows_spec _ _ (sortR o (lls lss).flatten) (sortR o fl) _ _ _ _ _ hh hss (by omega) (by omega) hnl.2 hsn) (fun _ _ h => ⟨h.1, h.2.trans (congrArg Value.bool (by rw [hfe, hle, sortR_flatten]; exact sameR_refl _))⟩)) ?_
        rintro _ w49 ⟨E50, rfl⟩
        have zE50 := E50.size
        replace E0 := E0.trans E50
        replace h1 := h1.ext E50
        replace hR := hR.ext E50
        replace hfl := hfl.ext E50
        replace hls := hls.ext E50
        replace hsr := hsr.ext E50
        replace hRs := hRs.ext E50
        replace hh1 := hh1.ext E50
        replace hh2 := hh2.ext E50
        replace hh := hh.ext E50
        replace hs41 := hs41.ext E50
        replace hs42 := hs42.ext E50
        replace hv63 := hv63.ext E50
        replace hv68 := hv68.ext E50
        replace hv70 := hv70.ext E50
        replace hss := hss.ext E50
        refine ops_val rfl rfl (fun _ hk => e_pick_t hk rfl rfl ⟨rfl, rfl⟩) ?_
        refine ops_val rfl rfl (fun _ hk => e_move hk rfl ⟨rfl, rfl⟩) ?_
        refine ops_run rfl rfl rfl rfl rfl (fun _ hk => e_move hk rfl ⟨rfl, rfl⟩) ?_
        refine ops_run rfl rfl rfl rfl rfl (fun _ hk => e_move hk rfl ⟨rfl, rfl⟩) ?_
        refine ops_runrel (fun r_ w' => Ext w49 w' ∧ r_ = .bool true) rfl rfl rfl rfl rfl (fun _ hk => e_call hk rfl Try.call15 (SameRows_spec _ _ (sortR o (lls lss).flatten) (sortR o (lls lss).flatten) _ _ _ _ _ hh hv70 (by omega) (by omega) hnl.2 hnl.2) (fun _ _ h => ⟨h.1, h.2.trans (congrArg Value.bool (sameR_refl _))⟩)) ?_
        rintro _ w51 ⟨E52, rfl⟩
        have zE52 := E52.size
        replace E0 := E0.trans E52
        replace h1 := h1.ext E52
        replace hR := hR.ext E52
        replace hfl := hfl.ext E52
        replace hls := hls.ext E52
        replace hsr := hsr.ext E52
        replace hRs := hRs.ext E52
        replace hh1 := hh1.ext E52
        replace hh2 := hh2.ext E52
        replace hh := hh.ext E52
        replace hs41 := hs41.ext E52
        replace hs42 := hs42.ext E52
        replace hv63 := hv63.ext E52
        replace hv68 := hv68.ext E52
        replace hv70 := hv70.ext E52
        replace hss := hss.ext E52
        refine ops_val rfl rfl (fun _ hk => e_pick_t hk rfl rfl ⟨rfl, rfl⟩) ?_
        refine ops_val rfl rfl (fun _ hk => e_assign hk rfl ⟨rfl, rfl⟩) ?_
        refine ops_end rfl ?_
        refine post_seq ?_
        refine J.sub [(6, .bool true)] ⟨rfl, trivial⟩ ?_
        refine jp_ret rfl ?_
        refine post_ret [.bool true] (.bool true) Try.results5 ⟨rfl, trivial⟩ rfl ?_
        exact ⟨E0, rfl⟩
end Lp
