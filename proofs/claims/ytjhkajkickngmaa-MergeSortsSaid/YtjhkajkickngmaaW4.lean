/- Walks, printed by a program of mine (wip/tools/vc.py): each theorem says what a function of the translation hands back. -/
import Derived.Test.YtjhkajkickngmaaW3
import Derived.Test.YtjhkajkickngmaaMOne
set_option linter.unusedSimpArgs false
set_option linter.unusedVariables false
namespace Lp
open Go Go.RowKit Go.Proofs


set_option maxHeartbeats 2000000 in
set_option maxRecDepth 100000 in
theorem alive_spec  (w : World)  :
    Calls Try.prog 13 #[] w (Ret fun res w' => Ext w w' ∧ res = .bool true) := by
  refine calls_of_J Try.func13 rfl (N := 37) rfl rfl ?_
  have E0 : Ext w w := Ext.rfl'
  refine jp_seq [false] [true] rfl rfl rfl ?_
  refine j_region rfl ?_
  refine ops_val rfl rfl (fun _ hk => e_assign hk rfl ⟨rfl, rfl⟩) ?_
  refine ops_end rfl ?_
  refine post_seq ?_
  refine jp_seq [true, false] [true, true] rfl rfl rfl ?_
  refine j_region rfl ?_
  refine ops_val rfl rfl (fun _ hk => e_build2 [1] [.const (.int .i64 1)] (.agg #[.slice none 0 0, .int .i64 1]) hk rfl rfl (fun _ => by kernel_rfl) ⟨rfl, rfl⟩) ?_
  refine ops_val rfl rfl (fun _ hk => e_build2 [1] [.const (.int .i64 4)] (.agg #[.slice none 0 0, .int .i64 4]) hk rfl rfl (fun _ => by kernel_rfl) ⟨rfl, rfl⟩) ?_
  refine ops_rel (fun r_ w' => ∃ g, r_ = .slice (some ⟨g, 0, none⟩) 2 2 ∧ New w w' g 34 [.slice none 0 0, .int .i64 1, .slice none 0 0, .int .i64 4]) rfl rfl (fun _ hk => e_buildSlice [.tmp 2, .tmp 3] [[.slice none 0 0, .int .i64 1], [.slice none 0 0, .int .i64 4]] hk rfl rfl Try.runUnderlying27 Try.sizeOf34 Try.zeroValue34 rfl rfl rfl rfl ⟨rfl, rfl, rfl, rfl, trivial⟩ (fun g w' n => ⟨g, rfl, n⟩)) ?_
  rintro _ w2 ⟨g1, rfl, N3⟩
  have EN3 := N3.ext
  have nN3 := N3.num
  have sN3 := N3.size
  have zEN3 := EN3.size
  replace E0 := E0.trans EN3
  have b4 := N3.box
  have b4a := b4.at_
  have b4s := At.sl (cs := RowD.cs) (z := 2) (xs := [⟨.slice none 0 0, [], 1⟩, ⟨.slice none 0 0, [], 4⟩]) b4a rfl (by intro x _; rfl) rfl
  have hrr0 := rrow_num b4s (by intro r hr; simp at hr; rcases hr with rfl | rfl <;> exact ⟨rfl, rfl⟩)
  refine ops_val rfl rfl (fun _ hk => e_build2 [1] [.const (.int .i64 1)] (.agg #[.slice none 0 0, .int .i64 1]) hk rfl rfl (fun _ => by kernel_rfl) ⟨rfl, rfl⟩) ?_
  refine ops_val rfl rfl (fun _ hk => e_build2 [1] [.const (.int .i64 2)] (.agg #[.slice none 0 0, .int .i64 2]) hk rfl rfl (fun _ => by kernel_rfl) ⟨rfl, rfl⟩) ?_
  refine ops_rel (fun r_ w' => ∃ g, r_ = .slice (some ⟨g, 0, none⟩) 2 2 ∧ New w2 w' g 34 [.slice none 0 0, .int .i64 1, .slice none 0 0, .int .i64 2]) rfl rfl (fun _ hk => e_buildSlice [.tmp 5, .tmp 6] [[.slice none 0 0, .int .i64 1], [.slice none 0 0, .int .i64 2]] hk rfl rfl Try.runUnderlying27 Try.sizeOf34 Try.zeroValue34 rfl rfl rfl rfl ⟨rfl, rfl, rfl, rfl, trivial⟩ (fun g w' n => ⟨g, rfl, n⟩)) ?_
  rintro _ w6 ⟨g5, rfl, N7⟩
  have EN7 := N7.ext
  have nN7 := N7.num
  have sN7 := N7.size
  have zEN7 := EN7.size
  replace E0 := E0.trans EN7
  replace b4 := b4.ext EN7
  replace b4a := b4a.ext EN7
  replace b4s := b4s.ext EN7
  have b8 := N7.box
  have b8a := b8.at_
  have b8s := At.sl (cs := RowD.cs) (z := 2) (xs := [⟨.slice none 0 0, [], 1⟩, ⟨.slice none 0 0, [], 2⟩]) b8a rfl (by intro x _; rfl) rfl
  have hrr1 := rrow_num b8s (by intro r hr; simp at hr; rcases hr with rfl | rfl <;> exact ⟨rfl, rfl⟩)
  refine ops_rel (fun r_ w' => ∃ g, r_ = .slice (some ⟨g, 0, none⟩) 2 2 ∧ New w6 w' g 27 [.slice (some ⟨g1, 0, none⟩) 2 2, .slice (some ⟨g5, 0, none⟩) 2 2]) rfl rfl (fun _ hk => e_buildSlice [.tmp 4, .tmp 7] [[.slice (some ⟨g1, 0, none⟩) 2 2], [.slice (some ⟨g5, 0, none⟩) 2 2]] hk rfl rfl Try.runUnderlying22 Try.sizeOf27 Try.zeroValue27 rfl rfl rfl rfl ⟨cells_one b4s.one, rfl, cells_one b8s.one, rfl, trivial⟩ (fun g w' n => ⟨g, rfl, n⟩)) ?_
  rintro _ w10 ⟨g9, rfl, N11⟩
  have EN11 := N11.ext
  have nN11 := N11.num
  have sN11 := N11.size
  have zEN11 := EN11.size
  replace E0 := E0.trans EN11
  replace b4 := b4.ext EN11
  replace b4a := b4a.ext EN11
  replace b4s := b4s.ext EN11
  replace b8 := b8.ext EN11
  replace b8a := b8a.ext EN11
  replace b8s := b8s.ext EN11
  have b12 := N11.box
  have b12a := b12.at_
  have b12s := At.sl (cs := LR.cs) (z := 1) (xs := [⟨.slice (some ⟨g1, 0, none⟩) 2 2, [⟨.slice none 0 0, [], 1⟩, ⟨.slice none 0 0, [], 4⟩]⟩, ⟨.slice (some ⟨g5, 0, none⟩) 2 2, [⟨.slice none 0 0, [], 1⟩, ⟨.slice none 0 0, [], 2⟩]⟩]) b12a rfl (by intro x _; rfl) rfl
  have hR : Rws w10 0 w10.heap.size [⟨.slice (some ⟨g1, 0, none⟩) 2 2, [⟨.slice none 0 0, [], 1⟩, ⟨.slice none 0 0, [], 4⟩]⟩, ⟨.slice (some ⟨g5, 0, none⟩) 2 2, [⟨.slice none 0 0, [], 1⟩, ⟨.slice none 0 0, [], 2⟩]⟩] := by
    intro x hx; simp at hx
    rcases hx with rfl | rfl
    · exact rrow_num b4s (by intro r hr; simp at hr; rcases hr with rfl | rfl <;> exact ⟨rfl, rfl⟩)
    · exact rrow_num b8s (by intro r hr; simp at hr; rcases hr with rfl | rfl <;> exact ⟨rfl, rfl⟩)
  refine ops_rel _ rfl rfl (fun _ hk => e_call hk rfl Try.call14 (Heads_spec 1 _ [⟨.slice (some ⟨g1, 0, none⟩) 2 2, [⟨.slice none 0 0, [], 1⟩, ⟨.slice none 0 0, [], 4⟩]⟩, ⟨.slice (some ⟨g5, 0, none⟩) 2 2, [⟨.slice none 0 0, [], 1⟩, ⟨.slice none 0 0, [], 2⟩]⟩] _ _ 0 _ _ b12s hR (by intro l hl; simp [lls] at hl; rcases hl with rfl | rfl <;> (refine ⟨by simp, fun r hr => ?_⟩; simp at hr; rcases hr with rfl | rfl <;> simp)) (by simp) (by simp [total, lls]) (Nat.le_refl _)) (fun _ _ h => h)) ?_
  rintro hv w13 ⟨E14, ov, rs, hs, hrun, ho1, ho2, hlab⟩
  have zE14 := E14.size
  replace E0 := E0.trans E14
  replace b4 := b4.ext E14
  replace b4a := b4a.ext E14
  replace b4s := b4s.ext E14
  replace b8 := b8.ext E14
  replace b8a := b8a.ext E14
  replace b8s := b8s.ext E14
  replace b12 := b12.ext E14
  replace b12a := b12a.ext E14
  replace b12s := b12s.ext E14
  replace hR := hR.ext E14
  obtain ⟨rfl, rfl⟩ := hrun.det alive_run
  have hlen4 : ([0, 1, 1, 0] : List Nat).length = 4 := rfl
  obtain ⟨e0, he0, ve0⟩ : ∃ e, ([0, 1, 1, 0] : List Nat)[0]? = some e ∧ e = 0 := ⟨_, rfl, rfl⟩
  obtain ⟨e1, he1, ve1⟩ : ∃ e, ([0, 1, 1, 0] : List Nat)[1]? = some e ∧ e = 1 := ⟨_, rfl, rfl⟩
  obtain ⟨e2, he2, ve2⟩ : ∃ e, ([0, 1, 1, 0] : List Nat)[2]? = some e ∧ e = 1 := ⟨_, rfl, rfl⟩
  obtain ⟨e3, he3, ve3⟩ : ∃ e, ([0, 1, 1, 0] : List Nat)[3]? = some e ∧ e = 0 := ⟨_, rfl, rfl⟩
  refine ops_val rfl rfl (fun _ hk => e_assign hk rfl ⟨rfl, rfl⟩) ?_
  refine ops_end rfl ?_
  refine post_seq ?_
  refine J.sub [(0, .bool false), (1, hv)] ⟨rfl, rfl, trivial⟩ ?_
  refine jp_seq [true, true, false] [true, true, true] rfl rfl rfl ?_
  refine j_region rfl ?_
  refine ops_val rfl rfl (fun _ hk => e_move hk rfl ⟨rfl, rfl⟩) ?_
  refine ops_val rfl rfl (fun _ hk => e_len hk rfl Try.runUnderlying25 ho2.sl.len ⟨rfl, rfl⟩) ?_
  refine ops_val rfl rfl (fun _ hk => e_eql hk rfl rfl (decide_eq_true rfl) ⟨rfl, rfl⟩) ?_
  refine ops_val rfl rfl (fun _ hk => e_move hk rfl ⟨rfl, rfl⟩) ?_
  refine ops_run rfl rfl rfl rfl rfl (fun _ hk => e_move hk rfl ⟨rfl, rfl⟩) ?_
  have A19 := ho2.sl.at_ he0
  have qA19 := ho2.sl.block (by omega)
  refine ops_run rfl rfl rfl rfl rfl (fun _ hk => e_indexAddr (k := 0) hk rfl rfl Try.runUnderlying25 Try.sizeOf3 (ho2.sl.has (by omega)) (by omega) ⟨rfl, rfl⟩) ?_
  refine ops_run rfl rfl rfl rfl rfl (fun _ hk => e_load1 hk rfl Try.isAgg3 (A19.cell 0 rfl) ⟨rfl, rfl⟩) ?_
  refine ops_run rfl rfl rfl rfl rfl (fun _ hk => e_eql hk rfl rfl (decide_eq_true (by omega)) ⟨rfl, rfl⟩) ?_
  refine ops_val rfl rfl (fun _ hk => e_pick_t hk rfl rfl ⟨rfl, rfl⟩) ?_
  refine ops_val rfl rfl (fun _ hk => e_move hk rfl ⟨rfl, rfl⟩) ?_
  refine ops_run rfl rfl rfl rfl rfl (fun _ hk => e_move hk rfl ⟨rfl, rfl⟩) ?_
  have A20 := ho2.sl.at_ he1
  have qA20 := ho2.sl.block (by omega)
  refine ops_run rfl rfl rfl rfl rfl (fun _ hk => e_indexAddr (k := 1) hk rfl rfl Try.runUnderlying25 Try.sizeOf3 (ho2.sl.has (by omega)) (by omega) ⟨rfl, rfl⟩) ?_
  refine ops_run rfl rfl rfl rfl rfl (fun _ hk => e_load1 hk rfl Try.isAgg3 (A20.cell 0 rfl) ⟨rfl, rfl⟩) ?_
  refine ops_run rfl rfl rfl rfl rfl (fun _ hk => e_eql hk rfl rfl (decide_eq_true (by omega)) ⟨rfl, rfl⟩) ?_
  refine ops_val rfl rfl (fun _ hk => e_pick_t hk rfl rfl ⟨rfl, rfl⟩) ?_
  refine ops_val rfl rfl (fun _ hk => e_move hk rfl ⟨rfl, rfl⟩) ?_
  refine ops_run rfl rfl rfl rfl rfl (fun _ hk => e_move hk rfl ⟨rfl, rfl⟩) ?_
  have A21 := ho2.sl.at_ he2
  have qA21 := ho2.sl.block (by omega)
  refine ops_run rfl rfl rfl rfl rfl (fun _ hk => e_indexAddr (k := 2) hk rfl rfl Try.runUnderlying25 Try.sizeOf3 (ho2.sl.has (by omega)) (by omega) ⟨rfl, rfl⟩) ?_
  refine ops_run rfl rfl rfl rfl rfl (fun _ hk => e_load1 hk rfl Try.isAgg3 (A21.cell 0 rfl) ⟨rfl, rfl⟩) ?_
  refine ops_run rfl rfl rfl rfl rfl (fun _ hk => e_eql hk rfl rfl (decide_eq_true (by omega)) ⟨rfl, rfl⟩) ?_
  refine ops_val rfl rfl (fun _ hk => e_pick_t hk rfl rfl ⟨rfl, rfl⟩) ?_
  refine ops_val rfl rfl (fun _ hk => e_move hk rfl ⟨rfl, rfl⟩) ?_
  refine ops_run rfl rfl rfl rfl rfl (fun _ hk => e_move hk rfl ⟨rfl, rfl⟩) ?_
  have A22 := ho2.sl.at_ he3
  have qA22 := ho2.sl.block (by omega)
  refine ops_run rfl rfl rfl rfl rfl (fun _ hk => e_indexAddr (k := 3) hk rfl rfl Try.runUnderlying25 Try.sizeOf3 (ho2.sl.has (by omega)) (by omega) ⟨rfl, rfl⟩) ?_
  refine ops_run rfl rfl rfl rfl rfl (fun _ hk => e_load1 hk rfl Try.isAgg3 (A22.cell 0 rfl) ⟨rfl, rfl⟩) ?_
  refine ops_run rfl rfl rfl rfl rfl (fun _ hk => e_eql hk rfl rfl (decide_eq_true (by omega)) ⟨rfl, rfl⟩) ?_
  refine ops_val rfl rfl (fun _ hk => e_pick_t hk rfl rfl ⟨rfl, rfl⟩) ?_
  refine ops_val rfl rfl (fun _ hk => e_assign hk rfl ⟨rfl, rfl⟩) ?_
  refine ops_end rfl ?_
  refine post_seq ?_
  refine J.sub [(0, .bool true)] ⟨rfl, trivial⟩ ?_
  refine jp_ret rfl ?_
  refine post_ret [.bool true] (.bool true) Try.results13 ⟨rfl, trivial⟩ rfl ?_
  exact ⟨E0, rfl⟩

set_option maxHeartbeats 2000000 in
set_option maxRecDepth 100000 in
theorem MergeOne_law (o : Int) (v : Value) (ll : List LR) (lo hi : Nat) (w : World) (h1 : RLL w lo hi v ll) (n1 : ll.length ≤ 9223372036854775807) (n2 : ∀ y ∈ ll, y.rs.length ≤ 9223372036854775807 ∧ ∀ r ∈ y.rs, r.ls.length ≤ 9223372036854775807 ∧ ∀ x ∈ r.ls, x.n.size ≤ 9223372036854775807 ∧ x.v.size ≤ 9223372036854775807) :
    Calls Try.prog 3 #[.int .i64 o, v] w (Ret fun res w' => Ext w w' ∧ res = .bool true) := by
  refine calls_of_J Try.func3 rfl (N := 96) rfl rfl ?_
  have top_h1 := h1.top
  have E0 : Ext w w := Ext.rfl'
  refine jp_seq [false] [true] rfl rfl rfl ?_
  refine j_region rfl ?_
  refine ops_val rfl rfl (fun _ hk => e_assign hk rfl ⟨rfl, rfl⟩) ?_
  refine ops_end rfl ?_
  refine post_seq ?_
  refine jp_seq [true, false] [true, true] rfl rfl rfl ?_
  refine jp_seq [true, false, false] [true, false, true] rfl rfl rfl ?_
  refine J.sub [(0, .int .i64 o), (1, v), (4, .bool false)] ⟨rfl, rfl, rfl, trivial⟩ ?_
  refine j_sum 15 ((!(lightLL ll) && true)) (fun _ hQ3 => ?_) (fun w1 E2 => ?_)
  · skip
    rcases Bool.eq_false_or_eq_true (lightLL ll) with hg4 | hg4
    · skip
      refine j_region rfl ?_
      refine ops_val rfl rfl (fun _ hk => e_move hk rfl ⟨rfl, rfl⟩) ?_
      refine ops_rel (fun r_ w' => Ext w w' ∧ r_ = .bool true) rfl rfl (fun _ hk => e_call hk rfl Try.call12 (LightLL_spec _ ll _ _ _ h1 n1 n2) (fun _ _ h => ⟨h.1, h.2.trans (congrArg Value.bool hg4)⟩)) ?_
      rintro _ w5 ⟨E6, rfl⟩
      have zE6 := E6.size
      replace E0 := E0.trans E6
      replace h1 := h1.ext E6
      refine ops_val rfl rfl (fun _ hk => e_not hk rfl ⟨rfl, rfl⟩) ?_
      refine ops_val rfl rfl (fun _ hk => e_move hk rfl ⟨rfl, rfl⟩) ?_
      refine ops_runrel _ rfl rfl rfl rfl rfl (fun _ hk => e_call hk rfl Try.call13 (alive_spec _) (fun _ _ h => h)) ?_
      rintro _ w7 ⟨E8, rfl⟩
      have zE8 := E8.size
      replace E0 := E0.trans E8
      replace h1 := h1.ext E8
      refine ops_run rfl rfl rfl rfl rfl (fun _ hk => e_not hk rfl ⟨rfl, rfl⟩) ?_
      refine ops_val rfl rfl (fun _ hk => e_pick_f hk rfl rfl ⟨rfl, rfl⟩) ?_
      refine ops_end rfl ?_
      exact Post.sub ((15, .bool ((!(lightLL ll) && true))) :: [(0, .int .i64 o), (1, v), (4, .bool false)]) ⟨(congrArg (fun b => some (Value.bool b)) (by simp [hg4])), rfl, rfl, rfl, trivial⟩ (hQ3 _ (E6.trans E8))
    · skip
      refine j_region rfl ?_
      refine ops_val rfl rfl (fun _ hk => e_move hk rfl ⟨rfl, rfl⟩) ?_
      refine ops_rel (fun r_ w' => Ext w w' ∧ r_ = .bool false) rfl rfl (fun _ hk => e_call hk rfl Try.call12 (LightLL_spec _ ll _ _ _ h1 n1 n2) (fun _ _ h => ⟨h.1, h.2.trans (congrArg Value.bool hg4)⟩)) ?_
      rintro _ w9 ⟨E10, rfl⟩
      have zE10 := E10.size
      replace E0 := E0.trans E10
      replace h1 := h1.ext E10
      refine ops_val rfl rfl (fun _ hk => e_not hk rfl ⟨rfl, rfl⟩) ?_
      refine ops_val rfl rfl (fun _ hk => e_move hk rfl ⟨rfl, rfl⟩) ?_
      refine ops_skip rfl rfl rfl rfl rfl ?_
      refine ops_skip rfl rfl rfl rfl rfl ?_
      refine ops_val rfl rfl (fun _ hk => e_pick_t hk rfl rfl ⟨rfl, rfl⟩) ?_
      refine ops_end rfl ?_
      exact Post.sub ((15, .bool ((!(lightLL ll) && true))) :: [(0, .int .i64 o), (1, v), (4, .bool false)]) ⟨(congrArg (fun b => some (Value.bool b)) (by simp [hg4])), rfl, rfl, rfl, trivial⟩ (hQ3 _ E10)
  · skip
    have zE2 := E2.size
    replace E0 := E0.trans E2
    replace h1 := h1.ext E2
    refine post_seq ?_
    refine jp_cond [true, false, true, false] [true, false, true, true] rfl rfl rfl rfl (fun hc11 => ?_) (fun hc11 => ?_)
    · simp only [Bool.and_eq_true, Bool.or_eq_true, Bool.not_eq_true', Bool.not_eq_false', Bool.and_eq_false_iff, Bool.or_eq_false_iff, decide_eq_true_eq, decide_eq_false_iff_not, Decidable.not_not, ne_eq] at hc11
      refine jp_seq [true, false, true, false, false] [true, false, true, false, true] rfl rfl rfl ?_
      refine j_region rfl ?_
      refine ops_rel _ rfl rfl (fun _ hk => e_call hk rfl Try.call13 (alive_spec _) (fun _ _ h => h)) ?_
      rintro _ w12 ⟨E13, rfl⟩
      have zE13 := E13.size
      replace E0 := E0.trans E13
      replace h1 := h1.ext E13
      refine ops_val rfl rfl (fun _ hk => e_assign hk rfl ⟨rfl, rfl⟩) ?_
      refine ops_end rfl ?_
      refine post_seq ?_
      refine jp_ret rfl ?_
      refine post_seq_ret ?_
      refine post_ret [.bool true] (.bool true) Try.results3 ⟨rfl, trivial⟩ rfl ?_
      exact ⟨E0, rfl⟩
    · simp only [Bool.and_eq_true, Bool.or_eq_true, Bool.not_eq_true', Bool.not_eq_false', Bool.and_eq_false_iff, Bool.or_eq_false_iff, decide_eq_true_eq, decide_eq_false_iff_not, Decidable.not_not, ne_eq] at hc11
      have hc : lightLL ll = true := by simpa using hc11
      have hlen := lightLL_len hc
      have hS := light_small hc
      have htt := light_total hc
      have hR : Rws w1 lo hi ll := h1.row
      refine jp_skip rfl ?_
      refine post_seq ?_
      refine jp_seq [true, true, false] [true, true, true] rfl rfl rfl ?_
      refine j_region rfl ?_
      refine ops_val rfl rfl (fun _ hk => e_move hk rfl ⟨rfl, rfl⟩) ?_
      refine ops_val rfl rfl (fun _ hk => e_len hk rfl Try.runUnderlying22 h1.sl.len ⟨rfl, rfl⟩) ?_
      refine ops_rel (fun r_ w' => Own natCs 1 3 w' w.heap.size r_ (List.replicate ll.length 0) ∧ Ext w1 w' ∧ r_.ownBlock = some w1.heap.size ∧ w'.heap.size = w1.heap.size + 1 ∧ bl r_ = w1.heap.size) rfl rfl (fun _ hk => e_makeOwn (cs := natCs) (z := 1) (base := w.heap.size) (n := ll.length) (d := 0) hk rfl rfl Try.runUnderlying25 inf_3 Try.zeroValue3 rfl rfl (by omega) (by omega) (by omega) (by omega) (by omega) (fun v_ w_ h1 h2 h3 h4 h5 => ⟨h1, h2, h3, h4, h5⟩)) ?_
      rintro v14 w15 ⟨ho16, E17, nb_v14, sz_v14, bl_v14⟩
      have zE17 := E17.size
      replace E0 := E0.trans E17
      replace h1 := h1.ext E17
      replace hR := hR.ext E17
      have lt_ho16 := fun g h => (ho16.lt (g := g) h).2
      refine ops_val rfl rfl (fun _ hk => e_assign hk rfl ⟨rfl, rfl⟩) ?_
      refine ops_end rfl ?_
      refine post_seq ?_
      refine jp_seq [true, true, true, false] [true, true, true, true] rfl rfl rfl ?_
      refine j_region rfl ?_
      refine ops_val rfl rfl (fun _ hk => e_move hk rfl ⟨rfl, rfl⟩) ?_
      refine ops_val rfl rfl (fun _ hk => e_move hk rfl ⟨rfl, rfl⟩) ?_
      refine ops_rel _ rfl rfl (fun _ hk => e_call hk rfl Try.call14 (Heads_spec o _ ll _ _ lo hi _ h1.sl hR hS (by omega) (by omega) (by omega)) (fun _ _ h => h)) ?_
      rintro hv w18 ⟨E19, ov, rs, hs, hrun, ho1, ho2, hlab⟩
      have zE19 := E19.size
      replace E0 := E0.trans E19
      replace h1 := h1.ext E19
      replace hR := hR.ext E19
      replace ho16 := ho16.ext E19
      refine ops_val rfl rfl (fun _ hk => e_assign hk rfl ⟨rfl, rfl⟩) ?_
      refine ops_end rfl ?_
      refine post_seq ?_
      refine J.sub [(0, .int .i64 o), (1, v), (4, .bool false), (5, v14), (6, hv)] ⟨rfl, rfl, rfl, rfl, rfl, trivial⟩ ?_
      refine jp_seq [true, true, true, true, false] [true, true, true, true, true] rfl rfl rfl ?_
      refine jp_seq [true, true, true, true, false, false] [true, true, true, true, false, true] rfl rfl rfl ?_
      refine j_region rfl ?_
      refine ops_val rfl rfl (fun _ hk => e_assign hk rfl ⟨rfl, rfl⟩) ?_
      refine ops_end rfl ?_
      refine post_seq ?_
      refine jp_block [true, true, true, true, false, true, false] rfl rfl ?_
      refine jp_loop (fun (g : Nat × List Nat) => [(0, .int .i64 o), (1, v), (5, v14), (6, hv), (7, .int .i64 ((g.1 : Nat) : Int))]) (fun (g : Nat × List Nat) (wl : World) => (Upd (bl v14) (bl v14 + 1) w18 wl) ∧ (Own natCs 1 3 wl w.heap.size v14 g.2) ∧ (Told ll.length hs g.1 g.2) ∧ (g.1 ≤ hs.length)) (fun (g : Nat × List Nat) => hs.length - g.1) [true, true, true, true, false, true, false, false] ((0, (List.replicate ll.length 0))) rfl rfl ⟨rfl, rfl, rfl, rfl, rfl, trivial⟩ ⟨Upd.refl _ _ _, ho16, Told.zero _ _, Nat.zero_le _⟩ ?_
      rintro ⟨k, c⟩ w21 ⟨E20, ho16, hct, hk⟩
      replace ho16 : Own natCs 1 3 w21 w.heap.size v14 c := ho16
      replace hct : Told ll.length hs k c := hct
      replace hk : k ≤ hs.length := hk
      have zE20 := E20.size
      replace E0 := Ext.then_ E0 E20 (by omega)
      replace h1 := h1.upd E20 (by omega)
      replace hR := hR.upd E20 (by omega)
      replace ho1 := Own.upd ho1 E20 (fun g hg => by have := ho1.lt hg; omega)
      replace ho2 := Own.upd ho2 E20 (fun g hg => by have := ho2.lt hg; omega)
      replace hlab := hlab.upd E20 (by omega)
      refine J.sub [(0, .int .i64 o), (1, v), (5, v14), (6, hv), (7, .int .i64 ((k : Nat) : Int))] ⟨rfl, rfl, rfl, rfl, rfl, trivial⟩ ?_
      refine jp_seq [true, true, true, true, false, true, false, false, false] [true, true, true, true, false, true, false, false, true] rfl rfl rfl ?_
      refine jp_seq [true, true, true, true, false, true, false, false, false, false] [true, true, true, true, false, true, false, false, false, true] rfl rfl rfl ?_
      refine j_region rfl ?_
      refine ops_val rfl rfl (fun _ hk => e_move hk rfl ⟨rfl, rfl⟩) ?_
      refine ops_val rfl rfl (fun _ hk => e_move hk rfl ⟨rfl, rfl⟩) ?_
      refine ops_val rfl rfl (fun _ hk => e_len hk rfl Try.runUnderlying25 ho2.sl.len ⟨rfl, rfl⟩) ?_
      refine ops_val rfl rfl (fun _ hk => e_lss hk rfl rfl rfl ⟨rfl, rfl⟩) ?_
      refine ops_end rfl ?_
      refine post_seq ?_
      refine jp_cond [true, true, true, true, false, true, false, false, false, true, false] [true, true, true, true, false, true, false, false, false, true, true] rfl rfl rfl rfl (fun hc22 => ?_) (fun hc22 => ?_)
      · replace hc22 := of_decide_eq_true hc22
        obtain ⟨x1, hx1⟩ := get_some hs (k) (by omega)
        have hxl := hrun.lt x1 (mem_get hx1)
        rw [lls_length] at hxl
        obtain ⟨nw, hnw⟩ := get_some c x1 (by have := hct.1; omega)
        have hcl := hct.1
        have hrl := hrun.length
        have hnb := count_le hct hnw (by omega)
        refine jp_skip rfl ?_
        refine post_seq ?_
        refine jp_seq [true, true, true, true, false, true, false, false, true, false] [true, true, true, true, false, true, false, false, true, true] rfl rfl rfl ?_
        refine jp_block [true, true, true, true, false, true, false, false, true, false, false] rfl rfl ?_
        refine jp_seq [true, true, true, true, false, true, false, false, true, false, false, false] [true, true, true, true, false, true, false, false, true, false, false, true] rfl rfl rfl ?_
        refine jp_seq [true, true, true, true, false, true, false, false, true, false, false, false, false] [true, true, true, true, false, true, false, false, true, false, false, false, true] rfl rfl rfl ?_
        have A23 := ho2.sl.at_ hx1
        have qA23 := ho2.sl.block (by omega)
        refine j_region rfl ?_
        refine ops_val rfl rfl (fun _ hk => e_move hk rfl ⟨rfl, rfl⟩) ?_
        refine ops_val rfl rfl (fun _ hk => e_move hk rfl ⟨rfl, rfl⟩) ?_
        have A25 := ho2.sl.at_ hx1
        have qA25 := ho2.sl.block (by omega)
        refine ops_val rfl rfl (fun _ hk => e_indexAddr (k := k) hk rfl rfl Try.runUnderlying25 Try.sizeOf3 (ho2.sl.has (by omega)) (by omega) ⟨rfl, rfl⟩) ?_
        refine ops_val rfl rfl (fun _ hk => e_load1 hk rfl Try.isAgg3 (A25.cell 0 rfl) ⟨rfl, rfl⟩) ?_
        refine ops_val rfl rfl (fun _ hk => e_lss hk rfl rfl (decide_eq_false (by omega)) ⟨rfl, rfl⟩) ?_
        refine ops_val rfl rfl (fun _ hk => e_move hk rfl ⟨rfl, rfl⟩) ?_
        refine ops_run rfl rfl rfl rfl rfl (fun _ hk => e_move hk rfl ⟨rfl, rfl⟩) ?_
        refine ops_run rfl rfl rfl rfl rfl (fun _ hk => e_move hk rfl ⟨rfl, rfl⟩) ?_
        have A26 := ho2.sl.at_ hx1
        have qA26 := ho2.sl.block (by omega)
        refine ops_run rfl rfl rfl rfl rfl (fun _ hk => e_indexAddr (k := k) hk rfl rfl Try.runUnderlying25 Try.sizeOf3 (ho2.sl.has (by omega)) (by omega) ⟨rfl, rfl⟩) ?_
        refine ops_run rfl rfl rfl rfl rfl (fun _ hk => e_load1 hk rfl Try.isAgg3 (A26.cell 0 rfl) ⟨rfl, rfl⟩) ?_
        refine ops_run rfl rfl rfl rfl rfl (fun _ hk => e_move hk rfl ⟨rfl, rfl⟩) ?_
        refine ops_run rfl rfl rfl rfl rfl (fun _ hk => e_len hk rfl Try.runUnderlying25 (by have e := ho16.len; rwa [hct.1] at e) ⟨rfl, rfl⟩) ?_
        refine ops_run rfl rfl rfl rfl rfl (fun _ hk => e_geq hk rfl rfl (decide_eq_false (by omega)) ⟨rfl, rfl⟩) ?_
        refine ops_val rfl rfl (fun _ hk => e_pick_f hk rfl rfl ⟨rfl, rfl⟩) ?_
        refine ops_end rfl ?_
        refine post_seq ?_
        refine jp_cond_f [true, true, true, true, false, true, false, false, true, false, false, false, true, true] rfl rfl rfl ?_
        refine jp_skip rfl ?_
        refine post_seq ?_
        refine j_region rfl ?_
        refine ops_val rfl rfl (fun _ hk => e_move hk rfl ⟨rfl, rfl⟩) ?_
        refine ops_val rfl rfl (fun _ hk => e_move hk rfl ⟨rfl, rfl⟩) ?_
        refine ops_val rfl rfl (fun _ hk => e_move hk rfl ⟨rfl, rfl⟩) ?_
        have A27 := ho2.sl.at_ hx1
        have qA27 := ho2.sl.block (by omega)
        refine ops_val rfl rfl (fun _ hk => e_indexAddr (k := k) hk rfl rfl Try.runUnderlying25 Try.sizeOf3 (ho2.sl.has (by omega)) (by omega) ⟨rfl, rfl⟩) ?_
        refine ops_val rfl rfl (fun _ hk => e_load1 hk rfl Try.isAgg3 (A27.cell 0 rfl) ⟨rfl, rfl⟩) ?_
        have A28 := ho16.sl.at_ hnw
        have qA28 := ho16.sl.block (by omega)
        refine ops_val rfl rfl (fun _ hk => e_indexAddr (k := x1) hk rfl rfl Try.runUnderlying25 Try.sizeOf3 (ho16.sl.has (by omega)) (by omega) ⟨rfl, rfl⟩) ?_
        refine ops_val rfl rfl (fun _ hk => e_load1 hk rfl Try.isAgg3 (A28.cell 0 rfl) ⟨rfl, rfl⟩) ?_
        refine ops_val rfl rfl (fun _ hk => e_add hk rfl rfl (w64eq (c := ((nw + 1 : Nat) : Int)) (by omega) (by omega)) ⟨rfl, rfl⟩) ?_
        have A29 := ho16.sl.at_ hnw
        have qA29 := ho16.sl.block (by omega)
        refine ops_val rfl rfl (fun _ hk => e_indexAddr (k := x1) hk rfl rfl Try.runUnderlying25 Try.sizeOf3 (ho16.sl.has (by omega)) (by omega) ⟨rfl, rfl⟩) ?_
        have nbU31 := ho16.block (by omega)
        have lbU31 := lt_ho16 _ nbU31.2.2.2
        refine ops_rel (fun _ w' => Own natCs 1 3 w' w.heap.size v14 (c.set x1 ((nw + 1))) ∧ Upd (bl v14) (bl v14 + 1) w21 w' ∧ w'.heap.size = w21.heap.size) rfl rfl (fun _ hk => e_storeRow (d := (nw + 1)) hk rfl rfl Try.sizeOf3 ho16 (by omega) rfl rfl ⟨rfl, trivial⟩ (fun w_ h1 h2 h3 => ⟨h1, h2, h3⟩)) ?_
        rintro _ w30 ⟨hnU31, U31, szU31⟩
        have zU31 := U31.size
        replace E0 := Ext.then_ E0 U31 (by omega)
        replace h1 := h1.upd U31 (by omega)
        replace hR := hR.upd U31 (by omega)
        replace ho1 := Own.upd ho1 U31 (fun g hg => by have := ho1.lt hg; omega)
        replace ho2 := Own.upd ho2 U31 (fun g hg => by have := ho2.lt hg; omega)
        replace hlab := hlab.upd U31 (by omega)
        replace E20 := Upd.then_ E20 U31 (by omega)
        replace ho16 := hnU31
        refine ops_end rfl ?_
        refine post_block ?_
        refine post_seq ?_
        refine j_region rfl ?_
        refine ops_val rfl rfl (fun _ hk => e_move hk rfl ⟨rfl, rfl⟩) ?_
        refine ops_val rfl rfl (fun _ hk => e_add hk rfl rfl (w64eq (c := ((k + 1 : Nat) : Int)) (by omega) (by omega)) ⟨rfl, rfl⟩) ?_
        refine ops_val rfl rfl (fun _ hk => e_assign hk rfl ⟨rfl, rfl⟩) ?_
        refine ops_end rfl ?_
        exact post_loop ((k + 1, (c.set x1 ((nw + 1))))) ⟨rfl, rfl, rfl, rfl, rfl, trivial⟩ ⟨E20, ho16, hct.next hx1 hxl hnw, by omega⟩ (by omega)
      · replace hc22 := of_decide_eq_false hc22
        refine jp_exit rfl ?_
        refine post_seq_exit ?_
        refine post_loop_exit ?_
        refine post_block_exit ?_
        refine post_seq ?_
        refine jp_seq [true, true, true, true, true, false] [true, true, true, true, true, true] rfl rfl rfl ?_
        refine jp_seq [true, true, true, true, true, false, false] [true, true, true, true, true, false, true] rfl rfl rfl ?_
        refine j_region rfl ?_
        refine ops_val rfl rfl (fun _ hk => e_assign hk rfl ⟨rfl, rfl⟩) ?_
        refine ops_end rfl ?_
        refine post_seq ?_
        refine jp_block [true, true, true, true, true, false, true, false] rfl rfl ?_
        refine jp_loop (fun (g : Nat) => [(0, .int .i64 o), (1, v), (5, v14), (8, .int .i64 ((g : Nat) : Int))]) (fun (g : Nat) (wl : World) => (Ext w21 wl) ∧ (g ≤ ll.length)) (fun (g : Nat) => ll.length - g) [true, true, true, true, true, false, true, false, false] (0) rfl rfl ⟨rfl, rfl, rfl, rfl, trivial⟩ ⟨Ext.rfl', Nat.zero_le _⟩ ?_
        rintro j w33 ⟨E32, hj⟩
        have zE32 := E32.size
        replace E0 := E0.trans E32
        replace h1 := h1.ext E32
        replace hR := hR.ext E32
        replace ho1 := ho1.ext E32
        replace ho2 := ho2.ext E32
        replace hlab := hlab.ext E32
        replace ho16 := ho16.ext E32
        refine J.sub [(0, .int .i64 o), (1, v), (5, v14), (8, .int .i64 ((j : Nat) : Int))] ⟨rfl, rfl, rfl, rfl, trivial⟩ ?_
        refine jp_seq [true, true, true, true, true, false, true, false, false, false] [true, true, true, true, true, false, true, false, false, true] rfl rfl rfl ?_
        refine jp_seq [true, true, true, true, true, false, true, false, false, false, false] [true, true, true, true, true, false, true, false, false, false, true] rfl rfl rfl ?_
        refine j_region rfl ?_
        refine ops_val rfl rfl (fun _ hk => e_move hk rfl ⟨rfl, rfl⟩) ?_
        refine ops_val rfl rfl (fun _ hk => e_move hk rfl ⟨rfl, rfl⟩) ?_
        refine ops_val rfl rfl (fun _ hk => e_len hk rfl Try.runUnderlying22 h1.sl.len ⟨rfl, rfl⟩) ?_
        refine ops_val rfl rfl (fun _ hk => e_lss hk rfl rfl rfl ⟨rfl, rfl⟩) ?_
        refine ops_end rfl ?_
        refine post_seq ?_
        refine jp_cond [true, true, true, true, true, false, true, false, false, false, true, false] [true, true, true, true, true, false, true, false, false, false, true, true] rfl rfl rfl rfl (fun hc34 => ?_) (fun hc34 => ?_)
        · replace hc34 := of_decide_eq_true hc34
          obtain ⟨y, hy⟩ := get_some ll j (by omega)
          obtain ⟨q, hq, vq⟩ : ∃ q, c[j]? = some q ∧ q = y.rs.length := ⟨_, hct.end_ hrun (by omega) hy, rfl⟩
          have hcl := hct.1
          refine jp_skip rfl ?_
          refine post_seq ?_
          refine jp_seq [true, true, true, true, true, false, true, false, false, true, false] [true, true, true, true, true, false, true, false, false, true, true] rfl rfl rfl ?_
          refine jp_block [true, true, true, true, true, false, true, false, false, true, false, false] rfl rfl ?_
          refine jp_seq [true, true, true, true, true, false, true, false, false, true, false, false, false] [true, true, true, true, true, false, true, false, false, true, false, false, true] rfl rfl rfl ?_
          have A35 := ho16.sl.at_ hq
          have qA35 := ho16.sl.block (by omega)
          have A36 := h1.sl.at_ hy
          have qA36 := h1.sl.block (by omega)
          have hr_y := hR y (mem_get hy)
          have nr_y := hS.row hy
          have nl_y : ∀ r ∈ y.rs, r.ls.length ≤ 1000000000 := fun r hr => (hS _ (List.mem_of_getElem? (lls_get hy))).2 r hr
          refine J.sub [(0, .int .i64 o), (1, v), (5, v14), (8, .int .i64 ((j : Nat) : Int)), (52, .int .i64 ((j : Nat) : Int)), (53, v), (54, .int .i64 ((ll.length : Nat) : Int)), (55, .bool (decide (((j : Nat) : Int) < ((ll.length : Nat) : Int))))] ⟨rfl, rfl, rfl, rfl, rfl, rfl, rfl, rfl, trivial⟩ ?_
          refine wp_draw 25 mixed rfl rfl ?_
          refine dr_val rfl rfl (fun ρ_ w_ E_ hk _ => e_move hk rfl ⟨Ext.rfl', rfl⟩) ?_
          refine dr_val rfl rfl (fun ρ_ w_ E_ hk _ => e_move hk rfl ⟨Ext.rfl', rfl⟩) ?_
          have A39 := ho16.sl.at_ hq
          have qA39 := ho16.sl.block (by omega)
          refine dr_val rfl rfl (fun ρ_ w_ E_ hk _ => e_indexAddr (k := j) hk rfl rfl Try.runUnderlying25 Try.sizeOf3 (ho16.sl.has (by omega)) (by omega) ⟨Ext.rfl', rfl⟩) ?_
          refine dr_val rfl rfl (fun ρ_ w_ E_ hk _ => e_load1 hk rfl Try.isAgg3 ((A39.ext E_).cell 0 rfl) ⟨Ext.rfl', rfl⟩) ?_
          refine dr_val rfl rfl (fun ρ_ w_ E_ hk _ => e_move hk rfl ⟨Ext.rfl', rfl⟩) ?_
          refine dr_val rfl rfl (fun ρ_ w_ E_ hk _ => e_move hk rfl ⟨Ext.rfl', rfl⟩) ?_
          have A40 := h1.sl.at_ hy
          have qA40 := h1.sl.block (by omega)
          have hr_y := hR y (mem_get hy)
          have nr_y := hS.row hy
          have nl_y : ∀ r ∈ y.rs, r.ls.length ≤ 1000000000 := fun r hr => (hS _ (List.mem_of_getElem? (lls_get hy))).2 r hr
          refine dr_val rfl rfl (fun ρ_ w_ E_ hk _ => e_indexAddr (k := j) hk rfl rfl Try.runUnderlying22 Try.sizeOf27 (h1.sl.has (by omega)) (by omega) ⟨Ext.rfl', rfl⟩) ?_
          refine dr_val rfl rfl (fun ρ_ w_ E_ hk _ => e_load1 hk rfl Try.isAgg27 ((A40.ext E_).cell 0 rfl) ⟨Ext.rfl', rfl⟩) ?_
          refine dr_val rfl rfl (fun ρ_ w_ E_ hk _ => e_len hk rfl Try.runUnderlying27 hr_y.sl.len ⟨Ext.rfl', rfl⟩) ?_
          refine dr_val rfl rfl (fun ρ_ w_ E_ hk _ => e_neq hk rfl rfl (decide_eq_false (by omega)) ⟨Ext.rfl', rfl⟩) ?_
          refine dr_val rfl rfl (fun ρ_ w_ E_ hk _ => e_move hk rfl ⟨Ext.rfl', rfl⟩) ?_
          refine dr_run rfl rfl rfl rfl (fun _ => rfl) (fun ρ_ w_ E_ hk _ => e_move hk rfl ⟨Ext.rfl', rfl⟩) ?_
          refine dr_run rfl rfl rfl rfl (fun _ => rfl) (fun ρ_ w_ E_ hk _ => e_move hk rfl ⟨Ext.rfl', rfl⟩) ?_
          refine dr_run rfl rfl rfl rfl (fun _ => rfl) (fun ρ_ w_ E_ hk _ => e_move hk rfl ⟨Ext.rfl', rfl⟩) ?_
          have A41 := h1.sl.at_ hy
          have qA41 := h1.sl.block (by omega)
          have hr_y := hR y (mem_get hy)
          have nr_y := hS.row hy
          have nl_y : ∀ r ∈ y.rs, r.ls.length ≤ 1000000000 := fun r hr => (hS _ (List.mem_of_getElem? (lls_get hy))).2 r hr
          refine dr_run rfl rfl rfl rfl (fun _ => rfl) (fun ρ_ w_ E_ hk _ => e_indexAddr (k := j) hk rfl rfl Try.runUnderlying22 Try.sizeOf27 (h1.sl.has (by omega)) (by omega) ⟨Ext.rfl', rfl⟩) ?_
          refine dr_run rfl rfl rfl rfl (fun _ => rfl) (fun ρ_ w_ E_ hk _ => e_load1 hk rfl Try.isAgg27 ((A41.ext E_).cell 0 rfl) ⟨Ext.rfl', rfl⟩) ?_
          refine dr_runq (φ := ASl LR.cs 1 [⟨.slice none 0 0, []⟩, ⟨y.sv, y.rs⟩, ⟨.slice none 0 0, []⟩]) rfl rfl rfl rfl (fun _ => rfl) ASl.mono (fun ρ_ w_ E_ hk _ => e_buildSlice [.const (.slice none 0 0), .tmp 73, .const (.slice none 0 0)] [[.slice none 0 0], [y.sv], [.slice none 0 0]] hk rfl rfl Try.runUnderlying22 Try.sizeOf27 Try.zeroValue27 rfl rfl rfl rfl ⟨rfl, rfl, cells_one hr_y.sl.one, rfl, rfl, rfl, trivial⟩ (fun g w' n => ⟨n.ext, _, _, At.sl n.box.at_ rfl (by intro x _; rfl) rfl⟩)) ?_
          refine dr_runq (φ := (fun v w => ∃ lo hi, RRow w lo hi v y.rs)) rfl rfl rfl rfl (fun _ => rfl) (fun _ _ _ E ⟨lo, hi, h⟩ => ⟨lo, hi, h.ext E⟩) (fun ρ_ w_ E_ hk ⟨⟨_, _, hq74⟩, _⟩ => e_call hk rfl Try.call16 (Rows_spec o _ [⟨.slice none 0 0, []⟩, y, ⟨.slice none 0 0, []⟩] _ _ lo hi w_ hq74 (rws3 (hr_y.ext E_)) (small3 (by omega) nl_y) (by simp) (by rw [total3]; omega) (Nat.le_trans (by omega : hi ≤ w33.heap.size) E_.size)) (fun v_ w9 h9 => by obtain ⟨E9, hv, rs, hs, hrun, ho1, ho2, hlab⟩ := h9; obtain rfl := Run.one (l := y.rs) hrun; exact ⟨E9, 0, w9.heap.size, rrow_of ho1 hlab⟩)) ?_
          refine dr_run rfl rfl rfl rfl (fun _ => rfl) (fun ρ_ w_ E_ hk _ => e_move hk rfl ⟨Ext.rfl', rfl⟩) ?_
          refine dr_run rfl rfl rfl rfl (fun _ => rfl) (fun ρ_ w_ E_ hk _ => e_move hk rfl ⟨Ext.rfl', rfl⟩) ?_
          have A42 := h1.sl.at_ hy
          have qA42 := h1.sl.block (by omega)
          have hr_y := hR y (mem_get hy)
          have nr_y := hS.row hy
          have nl_y : ∀ r ∈ y.rs, r.ls.length ≤ 1000000000 := fun r hr => (hS _ (List.mem_of_getElem? (lls_get hy))).2 r hr
          refine dr_run rfl rfl rfl rfl (fun _ => rfl) (fun ρ_ w_ E_ hk _ => e_indexAddr (k := j) hk rfl rfl Try.runUnderlying22 Try.sizeOf27 (h1.sl.has (by omega)) (by omega) ⟨Ext.rfl', rfl⟩) ?_
          refine dr_run rfl rfl rfl rfl (fun _ => rfl) (fun ρ_ w_ E_ hk _ => e_load1 hk rfl Try.isAgg27 ((A42.ext E_).cell 0 rfl) ⟨Ext.rfl', rfl⟩) ?_
          refine dr_run rfl rfl rfl rfl (fun _ => rfl) (fun ρ_ w_ E_ hk ⟨⟨_, _, hq75⟩, _⟩ => e_call hk rfl Try.call15 (SameRows_spec _ _ y.rs y.rs _ _ _ _ _ hq75 (hr_y.ext E_) (by omega) (by omega) nl_y nl_y) (fun _ _ h => ⟨h.1, h.2.trans (congrArg Value.bool (sameR_refl _))⟩)) ?_
          refine dr_run rfl rfl rfl rfl (fun _ => rfl) (fun ρ_ w_ E_ hk _ => e_not hk rfl ⟨Ext.rfl', rfl⟩) ?_
          refine dr_val rfl rfl (fun ρ_ w_ E_ hk _ => e_pick_f hk rfl rfl ⟨Ext.rfl', rfl⟩) ?_
          refine dr_end rfl (fun w43 E44 v75 ⟨lo75, hi75, hv75⟩ v74 ⟨lo74, hi74, hv74⟩ => ?_)
          have zE44 := E44.size
          replace E0 := E0.trans E44
          replace h1 := h1.ext E44
          replace hR := hR.ext E44
          replace ho1 := ho1.ext E44
          replace ho2 := ho2.ext E44
          replace hlab := hlab.ext E44
          replace ho16 := ho16.ext E44
          replace E32 := E32.trans E44
          replace A35 := A35.ext E44
          replace A36 := A36.ext E44
          replace A39 := A39.ext E44
          replace A40 := A40.ext E44
          replace A41 := A41.ext E44
          replace A42 := A42.ext E44
          replace hr_y := hr_y.ext E44
          have top_hv74 := hv74.top
          refine Ops.sub [(0, .int .i64 o), (1, v), (5, v14), (8, .int .i64 ((j : Nat) : Int)), (52, .int .i64 ((j : Nat) : Int)), (53, v), (54, .int .i64 ((ll.length : Nat) : Int)), (55, .bool (decide (((j : Nat) : Int) < ((ll.length : Nat) : Int)))), (58, v14), (59, .int .i64 ((j : Nat) : Int)), (60, .pointer (some ⟨bl v14, of_ v14 + (j) * 1, none⟩)), (61, .int .i64 ((q : Nat) : Int)), (62, v), (63, .int .i64 ((j : Nat) : Int)), (64, .pointer (some ⟨bl v, of_ v + (j) * 1, none⟩)), (65, y.sv), (66, .int .i64 ((y.rs.length : Nat) : Int)), (67, .bool false), (68, .bool false), (69, .int .i64 o), (70, v), (71, .int .i64 ((j : Nat) : Int)), (72, .pointer (some ⟨bl v, of_ v + (j) * 1, none⟩)), (73, y.sv), (74, v74), (75, v75), (76, v), (77, .int .i64 ((j : Nat) : Int)), (78, .pointer (some ⟨bl v, of_ v + (j) * 1, none⟩)), (79, y.sv), (80, .bool true), (81, .bool false), (82, .bool false)] ⟨rfl, rfl, rfl, rfl, rfl, rfl, rfl, rfl, rfl, rfl, rfl, rfl, rfl, rfl, rfl, rfl, rfl, rfl, rfl, rfl, rfl, rfl, rfl, rfl, rfl, rfl, rfl, rfl, rfl, rfl, rfl, rfl, rfl, trivial⟩ ?_
          refine ops_end rfl ?_
          refine post_seq ?_
          refine jp_cond_f [true, true, true, true, true, false, true, false, false, true, false, false, true, true] rfl rfl rfl ?_
          refine jp_skip rfl ?_
          refine post_block ?_
          refine post_seq ?_
          refine j_region rfl ?_
          refine ops_val rfl rfl (fun _ hk => e_move hk rfl ⟨rfl, rfl⟩) ?_
          refine ops_val rfl rfl (fun _ hk => e_add hk rfl rfl (w64eq (c := ((j + 1 : Nat) : Int)) (by omega) (by omega)) ⟨rfl, rfl⟩) ?_
          refine ops_val rfl rfl (fun _ hk => e_assign hk rfl ⟨rfl, rfl⟩) ?_
          refine ops_end rfl ?_
          exact post_loop (j + 1) ⟨rfl, rfl, rfl, rfl, trivial⟩ ⟨E32, by omega⟩ (by omega)
        · replace hc34 := of_decide_eq_false hc34
          refine jp_exit rfl ?_
          refine post_seq_exit ?_
          refine post_loop_exit ?_
          refine post_block_exit ?_
          refine post_seq ?_
          refine J.sub [(0, .int .i64 o)] ⟨rfl, trivial⟩ ?_
          refine jp_seq [true, true, true, true, true, true, false] [true, true, true, true, true, true, true] rfl rfl rfl ?_
          refine j_region rfl ?_
          refine ops_val rfl rfl (fun _ hk => e_move hk rfl ⟨rfl, rfl⟩) ?_
          refine ops_rel _ rfl rfl (fun _ hk => e_call hk rfl Try.call16 (Rows_spec o _ [] 0 0 0 0 _ (SlT.nil (Nat.zero_le _)) (fun x hx => by cases hx) (fun x hx => by cases hx) (by simp) (by simp [total, lls]) (Nat.zero_le _)) (fun _ _ h => h)) ?_
          rintro ov w45 ⟨E46, hv, rs, hs, hrun, ho1, ho2, hlab⟩
          have zE46 := E46.size
          replace E0 := E0.trans E46
          replace h1 := h1.ext E46
          replace hR := hR.ext E46
          replace ho16 := ho16.ext E46
          obtain rfl := Run.nil hrun
          refine ops_val rfl rfl (fun _ hk => e_len hk rfl Try.runUnderlying27 ho1.sl.len ⟨rfl, rfl⟩) ?_
          refine ops_val rfl rfl (fun _ hk => e_eql hk rfl rfl (decide_eq_true rfl) ⟨rfl, rfl⟩) ?_
          refine ops_val rfl rfl (fun _ hk => e_move hk rfl ⟨rfl, rfl⟩) ?_
          refine ops_runrel (fun r_ w' => Ext w45 w' ∧ r_ = .bool true) rfl rfl rfl rfl rfl (fun _ hk => e_call hk rfl Try.call17 (LightR_spec _ [] 0 0 _ (RRow.nil (Nat.zero_le _)) (by simp) (by simp)) (fun _ _ h => ⟨h.1, h.2.trans (congrArg Value.bool rfl)⟩)) ?_
          rintro _ w47 ⟨E48, rfl⟩
          have zE48 := E48.size
          replace E0 := E0.trans E48
          replace h1 := h1.ext E48
          replace hR := hR.ext E48
          replace ho16 := ho16.ext E48
          replace ho1 := ho1.ext E48
          replace ho2 := ho2.ext E48
          replace hlab := hlab.ext E48
          refine ops_val rfl rfl (fun _ hk => e_pick_t hk rfl rfl ⟨rfl, rfl⟩) ?_
          refine ops_val rfl rfl (fun _ hk => e_move hk rfl ⟨rfl, rfl⟩) ?_
          refine ops_run rfl rfl rfl rfl rfl (fun _ hk => e_build2 [] [] (.agg #[.slice none 0 0, .int .i64 0]) hk rfl rfl (fun _ => by kernel_rfl) ⟨rfl, rfl⟩) ?_
          refine ops_run rfl rfl rfl rfl rfl (fun _ hk => e_build2 [] [] (.agg #[.slice none 0 0, .int .i64 0]) hk rfl rfl (fun _ => by kernel_rfl) ⟨rfl, rfl⟩) ?_
          refine ops_runrel (fun r_ w' => Ext w47 w' ∧ r_ = .bool false) rfl rfl rfl rfl rfl (fun _ hk => e_call hk rfl Try.call18 (refLess_spec 0 ⟨.slice none 0 0, [], 0⟩ ⟨.slice none 0 0, [], 0⟩ _ _ _ _ _ (SlT.nil (lo := 0) (hi := 0) (Nat.zero_le _)) (SlT.nil (lo := 0) (hi := 0) (Nat.zero_le _)) (by first | omega | exact Nat.zero_le _) (by first | omega | exact Nat.zero_le _)) (fun _ _ h => ⟨h.1, h.2.trans (congrArg Value.bool (less_irrefl _ _))⟩)) ?_
          rintro _ w49 ⟨E50, rfl⟩
          have zE50 := E50.size
          replace E0 := E0.trans E50
          replace h1 := h1.ext E50
          replace hR := hR.ext E50
          replace ho16 := ho16.ext E50
          replace ho1 := ho1.ext E50
          replace ho2 := ho2.ext E50
          replace hlab := hlab.ext E50
          refine ops_run rfl rfl rfl rfl rfl (fun _ hk => e_not hk rfl ⟨rfl, rfl⟩) ?_
          refine ops_val rfl rfl (fun _ hk => e_pick_t hk rfl rfl ⟨rfl, rfl⟩) ?_
          refine ops_val rfl rfl (fun _ hk => e_assign hk rfl ⟨rfl, rfl⟩) ?_
          refine ops_end rfl ?_
          refine post_seq ?_
          refine J.sub [(4, .bool true)] ⟨rfl, trivial⟩ ?_
          refine jp_ret rfl ?_
          refine post_ret [.bool true] (.bool true) Try.results3 ⟨rfl, trivial⟩ rfl ?_
          exact ⟨E0, rfl⟩
end Lp
