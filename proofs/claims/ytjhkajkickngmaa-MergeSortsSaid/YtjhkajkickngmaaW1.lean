/- Walks, printed by a program of mine (wip/tools/vc.py): each theorem says what a function of the translation hands back. -/
import Derived.Test.YtjhkajkickngmaaMSpec
import Derived.Test.YtjhkajkickngmaaProg
set_option linter.unusedSimpArgs false
set_option linter.unusedVariables false
namespace Lp
open Go Go.RowKit Go.Proofs
theorem mixed : Try.prog.follows .mixedOrders = true := by kernel_rfl
theorem fa_34_0 (b o : Nat) : ∀ w, (Instr.fieldAt 34 (.pointer (some ⟨b, o, none⟩)) 0).run Try.prog w = .ok (.pointer (some ⟨b, o, none⟩)) w := fun _ => by kernel_rfl
theorem fa_34_1 (b o : Nat) : ∀ w, (Instr.fieldAt 34 (.pointer (some ⟨b, o, none⟩)) 1).run Try.prog w = .ok (.pointer (some ⟨b, o + 1, none⟩)) w := fun _ => by kernel_rfl
theorem fa_74_0 (b o : Nat) : ∀ w, (Instr.fieldAt 74 (.pointer (some ⟨b, o, none⟩)) 0).run Try.prog w = .ok (.pointer (some ⟨b, o, none⟩)) w := fun _ => by kernel_rfl
theorem fa_74_1 (b o : Nat) : ∀ w, (Instr.fieldAt 74 (.pointer (some ⟨b, o, none⟩)) 1).run Try.prog w = .ok (.pointer (some ⟨b, o + 1, none⟩)) w := fun _ => by kernel_rfl

theorem ext_cmpstring (a b : ByteArray) (w : World) : (callFunc 181 #[.string a, .string b]).run Try.prog w = .ok (.value (.int .i64 (cmpS a b))) w := by
  rw [run_callFunc_extern Try.func181 (by kernel_rfl) (by kernel_rfl) (by kernel_rfl) (e := Extern.BytealgCompare.compare) (by kernel_rfl), Lib.run_compareString]
  rfl

set_option maxHeartbeats 2000000 in
set_option maxRecDepth 100000 in
theorem CompareString_spec (a b : ByteArray) (w : World)  :
    Calls Try.prog 166 #[.string a, .string b] w (Ret fun res w' => Ext w w' ∧ res = .int .i64 (cmpS a b)) := by
  refine calls_of_J Try.func166 rfl (N := 8) rfl rfl ?_
  have E0 : Ext w w := Ext.rfl'
  refine jp_seq [false] [true] rfl rfl rfl ?_
  refine j_region rfl ?_
  refine ops_val rfl rfl (fun _ hk => e_assign hk rfl ⟨rfl, rfl⟩) ?_
  refine ops_end rfl ?_
  refine post_seq ?_
  refine jp_seq [true, false] [true, true] rfl rfl rfl ?_
  refine j_region rfl ?_
  refine ops_val rfl rfl (fun _ hk => e_move hk rfl ⟨rfl, rfl⟩) ?_
  refine ops_val rfl rfl (fun _ hk => e_move hk rfl ⟨rfl, rfl⟩) ?_
  refine ops_val rfl rfl (fun _ hk => e_ext hk rfl (ext_cmpstring a b) ⟨rfl, rfl⟩) ?_
  refine ops_val rfl rfl (fun _ hk => e_assign hk rfl ⟨rfl, rfl⟩) ?_
  refine ops_end rfl ?_
  refine post_seq ?_
  refine jp_ret rfl ?_
  refine post_ret [.int .i64 (cmpS a b)] (.int .i64 (cmpS a b)) Try.results166 ⟨rfl, trivial⟩ rfl ?_
  exact ⟨E0, rfl⟩

set_option maxHeartbeats 2000000 in
set_option maxRecDepth 100000 in
theorem Compare_spec (a b : ByteArray) (w : World)  :
    Calls Try.prog 137 #[.string a, .string b] w (Ret fun res w' => Ext w w' ∧ res = .int .i64 (cmpS a b)) := by
  refine calls_of_J Try.func137 rfl (N := 8) rfl rfl ?_
  have E0 : Ext w w := Ext.rfl'
  refine jp_seq [false] [true] rfl rfl rfl ?_
  refine j_region rfl ?_
  refine ops_val rfl rfl (fun _ hk => e_assign hk rfl ⟨rfl, rfl⟩) ?_
  refine ops_end rfl ?_
  refine post_seq ?_
  refine jp_seq [true, false] [true, true] rfl rfl rfl ?_
  refine j_region rfl ?_
  refine ops_val rfl rfl (fun _ hk => e_move hk rfl ⟨rfl, rfl⟩) ?_
  refine ops_val rfl rfl (fun _ hk => e_move hk rfl ⟨rfl, rfl⟩) ?_
  refine ops_rel _ rfl rfl (fun _ hk => e_call hk rfl Try.call166 (CompareString_spec a b _) (fun _ _ h => h)) ?_
  rintro _ w1 ⟨E2, rfl⟩
  have zE2 := E2.size
  replace E0 := E0.trans E2
  refine ops_val rfl rfl (fun _ hk => e_assign hk rfl ⟨rfl, rfl⟩) ?_
  refine ops_end rfl ?_
  refine post_seq ?_
  refine jp_ret rfl ?_
  refine post_ret [.int .i64 (cmpS a b)] (.int .i64 (cmpS a b)) Try.results137 ⟨rfl, trivial⟩ rfl ?_
  exact ⟨E0, rfl⟩

set_option maxHeartbeats 2000000 in
set_option maxRecDepth 100000 in
theorem isNaN_spec (x : Int) (w : World)  :
    Calls Try.prog 172 #[.int .i64 x] w (Ret fun res w' => Ext w w' ∧ res = .bool false) := by
  refine calls_of_J Try.func172 rfl (N := 6) rfl rfl ?_
  have E0 : Ext w w := Ext.rfl'
  refine jp_seq [false] [true] rfl rfl rfl ?_
  refine j_region rfl ?_
  refine ops_val rfl rfl (fun _ hk => e_assign hk rfl ⟨rfl, rfl⟩) ?_
  refine ops_end rfl ?_
  refine post_seq ?_
  refine jp_seq [true, false] [true, true] rfl rfl rfl ?_
  refine j_region rfl ?_
  refine ops_val rfl rfl (fun _ hk => e_move hk rfl ⟨rfl, rfl⟩) ?_
  refine ops_val rfl rfl (fun _ hk => e_move hk rfl ⟨rfl, rfl⟩) ?_
  refine ops_val rfl rfl (fun _ hk => e_neq hk rfl rfl (decide_eq_false (fun h => h rfl)) ⟨rfl, rfl⟩) ?_
  refine ops_val rfl rfl (fun _ hk => e_assign hk rfl ⟨rfl, rfl⟩) ?_
  refine ops_end rfl ?_
  refine post_seq ?_
  refine jp_ret rfl ?_
  refine post_ret [.bool false] (.bool false) Try.results172 ⟨rfl, trivial⟩ rfl ?_
  exact ⟨E0, rfl⟩

set_option maxHeartbeats 2000000 in
set_option maxRecDepth 100000 in
theorem cmpI_spec (x y : Int) (w : World)  :
    Calls Try.prog 149 #[.int .i64 x, .int .i64 y] w (Ret fun res w' => Ext w w' ∧ res = .int .i64 (cmpI x y)) := by
  refine calls_of_J Try.func149 rfl (N := 20) rfl rfl ?_
  have E0 : Ext w w := Ext.rfl'
  refine jp_seq [false] [true] rfl rfl rfl ?_
  refine j_region rfl ?_
  refine ops_val rfl rfl (fun _ hk => e_assign hk rfl ⟨rfl, rfl⟩) ?_
  refine ops_end rfl ?_
  refine post_seq ?_
  refine jp_seq [true, false] [true, true] rfl rfl rfl ?_
  refine j_region rfl ?_
  refine ops_val rfl rfl (fun _ hk => e_move hk rfl ⟨rfl, rfl⟩) ?_
  refine ops_rel _ rfl rfl (fun _ hk => e_call hk rfl Try.call172 (isNaN_spec x _) (fun _ _ h => h)) ?_
  rintro _ w1 ⟨E2, rfl⟩
  have zE2 := E2.size
  replace E0 := E0.trans E2
  refine ops_val rfl rfl (fun _ hk => e_assign hk rfl ⟨rfl, rfl⟩) ?_
  refine ops_end rfl ?_
  refine post_seq ?_
  refine jp_seq [true, true, false] [true, true, true] rfl rfl rfl ?_
  refine j_region rfl ?_
  refine ops_val rfl rfl (fun _ hk => e_move hk rfl ⟨rfl, rfl⟩) ?_
  refine ops_rel _ rfl rfl (fun _ hk => e_call hk rfl Try.call172 (isNaN_spec y _) (fun _ _ h => h)) ?_
  rintro _ w3 ⟨E4, rfl⟩
  have zE4 := E4.size
  replace E0 := E0.trans E4
  refine ops_val rfl rfl (fun _ hk => e_assign hk rfl ⟨rfl, rfl⟩) ?_
  refine ops_end rfl ?_
  refine post_seq ?_
  refine jp_seq [true, true, true, false] [true, true, true, true] rfl rfl rfl ?_
  refine jp_seq [true, true, true, false, false] [true, true, true, false, true] rfl rfl rfl ?_
  refine j_region rfl ?_
  refine ops_val rfl rfl (fun _ hk => e_move hk rfl ⟨rfl, rfl⟩) ?_
  refine ops_end rfl ?_
  refine post_seq ?_
  refine jp_cond_f [true, true, true, false, true, true] rfl rfl rfl ?_
  refine jp_skip rfl ?_
  refine post_seq ?_
  refine jp_seq [true, true, true, true, false] [true, true, true, true, true] rfl rfl rfl ?_
  refine jp_seq [true, true, true, true, false, false] [true, true, true, true, false, true] rfl rfl rfl ?_
  refine j_region rfl ?_
  refine ops_val rfl rfl (fun _ hk => e_move hk rfl ⟨rfl, rfl⟩) ?_
  refine ops_end rfl ?_
  refine post_seq ?_
  refine J.sub [(0, .int .i64 x), (1, .int .i64 y), (4, .int .i64 0), (13, .bool false)] ⟨rfl, rfl, rfl, rfl, trivial⟩ ?_
  refine jp_cond_f [true, true, true, true, false, true, true] rfl rfl rfl ?_
  refine jp_skip rfl ?_
  refine post_seq ?_
  refine jp_seq [true, true, true, true, true, false] [true, true, true, true, true, true] rfl rfl rfl ?_
  refine jp_seq [true, true, true, true, true, false, false] [true, true, true, true, true, false, true] rfl rfl rfl ?_
  refine j_region rfl ?_
  refine ops_val rfl rfl (fun _ hk => e_move hk rfl ⟨rfl, rfl⟩) ?_
  refine ops_val rfl rfl (fun _ hk => e_move hk rfl ⟨rfl, rfl⟩) ?_
  refine ops_val rfl rfl (fun _ hk => e_lss hk rfl rfl rfl ⟨rfl, rfl⟩) ?_
  refine ops_end rfl ?_
  refine post_seq ?_
  refine jp_cond [true, true, true, true, true, false, true, false] [true, true, true, true, true, false, true, true] rfl rfl rfl rfl (fun hc5 => ?_) (fun hc5 => ?_)
  · replace hc5 := of_decide_eq_true hc5
    refine jp_seq [true, true, true, true, true, false, true, false, false] [true, true, true, true, true, false, true, false, true] rfl rfl rfl ?_
    refine j_region rfl ?_
    refine ops_val rfl rfl (fun _ hk => e_assign hk rfl ⟨rfl, rfl⟩) ?_
    refine ops_end rfl ?_
    refine post_seq ?_
    refine jp_ret rfl ?_
    refine post_seq_ret ?_
    refine post_ret [.int .i64 (-1)] (.int .i64 (-1)) Try.results149 ⟨rfl, trivial⟩ rfl ?_
    refine ⟨E0, ?_⟩; unfold cmpI; simp [*]
  · replace hc5 := of_decide_eq_false hc5
    refine jp_skip rfl ?_
    refine post_seq ?_
    refine jp_seq [true, true, true, true, true, true, false] [true, true, true, true, true, true, true] rfl rfl rfl ?_
    refine jp_seq [true, true, true, true, true, true, false, false] [true, true, true, true, true, true, false, true] rfl rfl rfl ?_
    refine j_region rfl ?_
    refine ops_val rfl rfl (fun _ hk => e_move hk rfl ⟨rfl, rfl⟩) ?_
    refine ops_val rfl rfl (fun _ hk => e_move hk rfl ⟨rfl, rfl⟩) ?_
    refine ops_val rfl rfl (fun _ hk => e_gtr hk rfl rfl rfl ⟨rfl, rfl⟩) ?_
    refine ops_end rfl ?_
    refine post_seq ?_
    refine J.sub [(4, .int .i64 0), (19, .bool (decide (y < x)))] ⟨rfl, rfl, trivial⟩ ?_
    refine jp_cond [true, true, true, true, true, true, false, true, false] [true, true, true, true, true, true, false, true, true] rfl rfl rfl rfl (fun hc6 => ?_) (fun hc6 => ?_)
    · replace hc6 := of_decide_eq_true hc6
      refine jp_seq [true, true, true, true, true, true, false, true, false, false] [true, true, true, true, true, true, false, true, false, true] rfl rfl rfl ?_
      refine j_region rfl ?_
      refine ops_val rfl rfl (fun _ hk => e_assign hk rfl ⟨rfl, rfl⟩) ?_
      refine ops_end rfl ?_
      refine post_seq ?_
      refine jp_ret rfl ?_
      refine post_seq_ret ?_
      refine post_ret [.int .i64 1] (.int .i64 1) Try.results149 ⟨rfl, trivial⟩ rfl ?_
      refine ⟨E0, ?_⟩; unfold cmpI; simp [*]
    · replace hc6 := of_decide_eq_false hc6
      refine jp_skip rfl ?_
      refine post_seq ?_
      refine jp_seq [true, true, true, true, true, true, true, false] [true, true, true, true, true, true, true, true] rfl rfl rfl ?_
      refine j_region rfl ?_
      refine ops_val rfl rfl (fun _ hk => e_assign hk rfl ⟨rfl, rfl⟩) ?_
      refine ops_end rfl ?_
      refine post_seq ?_
      refine jp_ret rfl ?_
      refine post_ret [.int .i64 0] (.int .i64 0) Try.results149 ⟨rfl, trivial⟩ rfl ?_
      refine ⟨E0, ?_⟩; unfold cmpI; simp [*]

set_option maxHeartbeats 2000000 in
set_option maxRecDepth 100000 in
theorem Or_spec (v : Value) (ns : List Int) (lo hi : Nat) (w : World) (hl : SlT intCs 1 w lo hi v ns) (hn : ns.length ≤ 1000) :
    Calls Try.prog 136 #[v] w (Ret fun res w' => Ext w w' ∧ res = .int .i64 (firstNZ ns)) := by
  refine calls_of_J Try.func136 rfl (N := 18) rfl rfl ?_
  have top_hl := hl.top
  have E0 : Ext w w := Ext.rfl'
  refine jp_seq [false] [true] rfl rfl rfl ?_
  refine j_region rfl ?_
  refine ops_val rfl rfl (fun _ hk => e_assign hk rfl ⟨rfl, rfl⟩) ?_
  refine ops_end rfl ?_
  refine post_seq ?_
  refine jp_seq [true, false] [true, true] rfl rfl rfl ?_
  refine j_region rfl ?_
  refine ops_val rfl rfl (fun _ hk => e_assign hk rfl ⟨rfl, rfl⟩) ?_
  refine ops_end rfl ?_
  refine post_seq ?_
  refine jp_seq [true, true, false] [true, true, true] rfl rfl rfl ?_
  refine jp_seq [true, true, false, false] [true, true, false, true] rfl rfl rfl ?_
  refine j_region rfl ?_
  refine ops_val rfl rfl (fun _ hk => e_move hk rfl ⟨rfl, rfl⟩) ?_
  refine ops_val rfl rfl (fun _ hk => e_len hk rfl Try.runUnderlying25 hl.len ⟨rfl, rfl⟩) ?_
  refine ops_val rfl rfl (fun _ hk => e_move hk rfl ⟨rfl, rfl⟩) ?_
  refine ops_end rfl ?_
  refine post_seq ?_
  refine jp_block [true, true, false, true, false] rfl rfl ?_
  refine jp_loop (fun (g : Nat) => [(3, .int .i64 0), (6, v), (7, .int .i64 ((ns.length : Nat) : Int)), (8, .int .i64 ((g : Nat) : Int))]) (fun (g : Nat) (wl : World) => (Ext w wl) ∧ (g ≤ ns.length) ∧ (firstNZ ns = firstNZ (ns.drop g))) (fun (g : Nat) => ns.length - g) [true, true, false, true, false, false] (0) rfl rfl ⟨rfl, rfl, rfl, rfl, trivial⟩ ⟨Ext.rfl', Nat.zero_le _, by simp⟩ ?_
  rintro k w2 ⟨E1, hk, hf⟩
  have zE1 := E1.size
  replace E0 := E0.trans E1
  replace hl := hl.ext E1
  refine J.sub [(3, .int .i64 0), (6, v), (7, .int .i64 ((ns.length : Nat) : Int)), (8, .int .i64 ((k : Nat) : Int))] ⟨rfl, rfl, rfl, rfl, trivial⟩ ?_
  refine jp_seq [true, true, false, true, false, false, false] [true, true, false, true, false, false, true] rfl rfl rfl ?_
  refine j_region rfl ?_
  refine ops_val rfl rfl (fun _ hk => e_lss hk rfl rfl rfl ⟨rfl, rfl⟩) ?_
  refine ops_end rfl ?_
  refine post_seq ?_
  refine jp_seq [true, true, false, true, false, false, true, false] [true, true, false, true, false, false, true, true] rfl rfl rfl ?_
  refine jp_cond [true, true, false, true, false, false, true, false, false] [true, true, false, true, false, false, true, false, true] rfl rfl rfl rfl (fun hc3 => ?_) (fun hc3 => ?_)
  · replace hc3 := of_decide_eq_true hc3
    refine jp_skip rfl ?_
    refine post_seq ?_
    refine jp_seq [true, true, false, true, false, false, true, true, false] [true, true, false, true, false, false, true, true, true] rfl rfl rfl ?_
    refine jp_block [true, true, false, true, false, false, true, true, false, false] rfl rfl ?_
    refine jp_seq [true, true, false, true, false, false, true, true, false, false, false] [true, true, false, true, false, false, true, true, false, false, true] rfl rfl rfl ?_
    refine j_region rfl ?_
    obtain ⟨x1, hx1⟩ := get_some ns (k) (by omega)
    have A4 := hl.at_ hx1
    have qA4 := hl.block (by omega)
    refine ops_val rfl rfl (fun _ hk => e_indexAddr (k := k) hk rfl rfl Try.runUnderlying25 Try.sizeOf3 (hl.has (by omega)) (by omega) ⟨rfl, rfl⟩) ?_
    refine ops_val rfl rfl (fun _ hk => e_load1 hk rfl Try.isAgg3 (A4.cell 0 rfl) ⟨rfl, rfl⟩) ?_
    refine ops_val rfl rfl (fun _ hk => e_assign hk rfl ⟨rfl, rfl⟩) ?_
    refine ops_end rfl ?_
    refine post_seq ?_
    refine jp_seq [true, true, false, true, false, false, true, true, false, false, true, false] [true, true, false, true, false, false, true, true, false, false, true, true] rfl rfl rfl ?_
    refine j_region rfl ?_
    refine ops_val rfl rfl (fun _ hk => e_move hk rfl ⟨rfl, rfl⟩) ?_
    refine ops_val rfl rfl (fun _ hk => e_move hk rfl ⟨rfl, rfl⟩) ?_
    refine ops_val rfl rfl (fun _ hk => e_neq hk rfl rfl rfl ⟨rfl, rfl⟩) ?_
    refine ops_end rfl ?_
    refine post_seq ?_
    refine jp_cond [true, true, false, true, false, false, true, true, false, false, true, true, false] [true, true, false, true, false, false, true, true, false, false, true, true, true] rfl rfl rfl rfl (fun hc5 => ?_) (fun hc5 => ?_)
    · replace hc5 := of_decide_eq_true hc5
      refine jp_seq [true, true, false, true, false, false, true, true, false, false, true, true, false, false] [true, true, false, true, false, false, true, true, false, false, true, true, false, true] rfl rfl rfl ?_
      refine j_region rfl ?_
      refine ops_val rfl rfl (fun _ hk => e_move hk rfl ⟨rfl, rfl⟩) ?_
      refine ops_val rfl rfl (fun _ hk => e_assign hk rfl ⟨rfl, rfl⟩) ?_
      refine ops_end rfl ?_
      refine post_seq ?_
      refine jp_ret rfl ?_
      refine post_block_ret ?_
      refine post_seq_ret ?_
      refine post_loop_ret ?_
      refine post_block_ret ?_
      refine post_seq_ret ?_
      refine post_ret [.int .i64 x1] (.int .i64 x1) Try.results136 ⟨rfl, trivial⟩ rfl ?_
      exact ⟨E0, by rw [firstNZ_at hx1 hf (by assumption)]⟩
    · replace hc5 := of_decide_eq_false hc5
      refine jp_skip rfl ?_
      refine post_block ?_
      refine post_seq ?_
      refine j_region rfl ?_
      refine ops_val rfl rfl (fun _ hk => e_add hk rfl rfl (w64eq (c := ((k + 1 : Nat) : Int)) (by omega) (by omega)) ⟨rfl, rfl⟩) ?_
      refine ops_val rfl rfl (fun _ hk => e_move hk rfl ⟨rfl, rfl⟩) ?_
      refine ops_end rfl ?_
      exact post_loop (k + 1) ⟨rfl, rfl, rfl, rfl, trivial⟩ ⟨E1, by omega, firstNZ_next hx1 hf (by omega)⟩ (by omega)
  · replace hc3 := of_decide_eq_false hc3
    refine jp_exit rfl ?_
    refine post_seq_exit ?_
    refine post_loop_exit ?_
    refine post_block_exit ?_
    refine post_seq ?_
    refine jp_seq [true, true, true, false] [true, true, true, true] rfl rfl rfl ?_
    refine j_region rfl ?_
    refine ops_val rfl rfl (fun _ hk => e_move hk rfl ⟨rfl, rfl⟩) ?_
    refine ops_val rfl rfl (fun _ hk => e_assign hk rfl ⟨rfl, rfl⟩) ?_
    refine ops_end rfl ?_
    refine post_seq ?_
    refine jp_ret rfl ?_
    refine post_ret [.int .i64 0] (.int .i64 0) Try.results136 ⟨rfl, trivial⟩ rfl ?_
    exact ⟨E0, by rw [hf, List.drop_eq_nil_of_le (by omega)]; rfl⟩

set_option maxHeartbeats 2000000 in
set_option maxRecDepth 100000 in
theorem order_spec (a b : Lbl) (w : World)  :
    Calls Try.prog 100 #[.agg #[.string a.n, .string a.v], .agg #[.string b.n, .string b.v]] w (Ret fun res w' => Ext w w' ∧ res = .int .i64 (cmpLbl a b)) := by
  refine calls_of_J Try.func100 rfl (N := 17) rfl rfl ?_
  have E0 : Ext w w := Ext.rfl'
  refine jp_seq [false] [true] rfl rfl rfl ?_
  refine j_region rfl ?_
  refine ops_rel (fun r_ w' => ∃ g, r_ = .pointer (some ⟨g, 0, none⟩) ∧ New w w' g 74 [.string a.n, .string a.v]) rfl rfl (fun _ hk => e_box hk rfl (fun g w' n => ⟨g, rfl, n⟩)) ?_
  rintro _ w2 ⟨g1, rfl, N3⟩
  have EN3 := N3.ext
  have nN3 := N3.num
  have sN3 := N3.size
  have zEN3 := EN3.size
  replace E0 := E0.trans EN3
  have b4 := N3.box
  have b4a := b4.at_
  refine ops_rel (fun r_ w' => ∃ g, r_ = .pointer (some ⟨g, 0, none⟩) ∧ New w2 w' g 74 [.string b.n, .string b.v]) rfl rfl (fun _ hk => e_box hk rfl (fun g w' n => ⟨g, rfl, n⟩)) ?_
  rintro _ w6 ⟨g5, rfl, N7⟩
  have EN7 := N7.ext
  have nN7 := N7.num
  have sN7 := N7.size
  have zEN7 := EN7.size
  replace E0 := E0.trans EN7
  replace b4 := b4.ext EN7
  replace b4a := b4a.ext EN7
  have b8 := N7.box
  have b8a := b8.at_
  refine ops_val rfl rfl (fun _ hk => e_assign hk rfl ⟨rfl, rfl⟩) ?_
  refine ops_end rfl ?_
  refine post_seq ?_
  refine jp_seq [true, false] [true, true] rfl rfl rfl ?_
  refine J.sub [(0, .agg #[.string a.n, .string a.v]), (1, .agg #[.string b.n, .string b.v]), (2, .pointer (some ⟨g1, 0, none⟩)), (3, .pointer (some ⟨g5, 0, none⟩)), (4, .int .i64 0)] ⟨rfl, rfl, rfl, rfl, rfl, trivial⟩ ?_
  refine wp_draw 12 mixed rfl rfl ?_
  refine dr_val rfl rfl (fun ρ_ w_ E_ hk _ => e_fieldAddr hk rfl (fa_74_0 _ _) ⟨Ext.rfl', rfl⟩) ?_
  refine dr_val rfl rfl (fun ρ_ w_ E_ hk _ => e_load1 hk rfl Try.isAgg9 ((b4a.ext E_).cell 0 rfl) ⟨Ext.rfl', rfl⟩) ?_
  refine dr_val rfl rfl (fun ρ_ w_ E_ hk _ => e_fieldAddr hk rfl (fa_74_0 _ _) ⟨Ext.rfl', rfl⟩) ?_
  refine dr_val rfl rfl (fun ρ_ w_ E_ hk _ => e_load1 hk rfl Try.isAgg9 ((b8a.ext E_).cell 0 rfl) ⟨Ext.rfl', rfl⟩) ?_
  refine dr_val rfl rfl (fun ρ_ w_ E_ hk _ => e_call hk rfl Try.call137 (Compare_spec a.n b.n _) (fun _ _ h => h)) ?_
  refine dr_val rfl rfl (fun ρ_ w_ E_ hk _ => e_fieldAddr hk rfl (fa_74_1 _ _) ⟨Ext.rfl', rfl⟩) ?_
  refine dr_val rfl rfl (fun ρ_ w_ E_ hk _ => e_load1 hk rfl Try.isAgg9 ((b4a.ext E_).cell 1 rfl) ⟨Ext.rfl', rfl⟩) ?_
  refine dr_val rfl rfl (fun ρ_ w_ E_ hk _ => e_fieldAddr hk rfl (fa_74_1 _ _) ⟨Ext.rfl', rfl⟩) ?_
  refine dr_val rfl rfl (fun ρ_ w_ E_ hk _ => e_load1 hk rfl Try.isAgg9 ((b8a.ext E_).cell 1 rfl) ⟨Ext.rfl', rfl⟩) ?_
  refine dr_val rfl rfl (fun ρ_ w_ E_ hk _ => e_call hk rfl Try.call137 (Compare_spec a.v b.v _) (fun _ _ h => h)) ?_
  refine dr_opq (φ := ASl intCs 1 [((cmpS a.n b.n)), ((cmpS a.v b.v))]) rfl rfl ASl.mono (fun ρ_ w_ E_ hk _ => e_buildSlice [.tmp 9, .tmp 14] [[.int .i64 (cmpS a.n b.n)], [.int .i64 (cmpS a.v b.v)]] hk rfl rfl Try.runUnderlying25 Try.sizeOf3 Try.zeroValue3 rfl rfl rfl rfl ⟨rfl, rfl, rfl, rfl, trivial⟩ (fun g w' n => ⟨n.ext, _, _, At.sl n.box.at_ rfl (by intro x _; rfl) rfl⟩)) ?_
  refine dr_val rfl rfl (fun ρ_ w_ E_ hk ⟨⟨_, _, hq15⟩, _⟩ => e_call hk rfl Try.call136 (Or_spec _ [((cmpS a.n b.n)), ((cmpS a.v b.v))] _ _ _ hq15 (by simp)) (fun _ _ h => h)) ?_
  refine dr_end rfl (fun w9 E10 v15 ⟨lo15, hi15, hv15⟩ => ?_)
  have zE10 := E10.size
  replace E0 := E0.trans E10
  replace b4 := b4.ext E10
  replace b4a := b4a.ext E10
  replace b8 := b8.ext E10
  replace b8a := b8a.ext E10
  have top_hv15 := hv15.top
  refine Ops.sub [(0, .agg #[.string a.n, .string a.v]), (1, .agg #[.string b.n, .string b.v]), (2, .pointer (some ⟨g1, 0, none⟩)), (3, .pointer (some ⟨g5, 0, none⟩)), (4, .int .i64 0), (5, .pointer (some ⟨g1, 0, none⟩)), (6, .string a.n), (7, .pointer (some ⟨g5, 0, none⟩)), (8, .string b.n), (9, .int .i64 (cmpS a.n b.n)), (10, .pointer (some ⟨g1, 1, none⟩)), (11, .string a.v), (12, .pointer (some ⟨g5, 1, none⟩)), (13, .string b.v), (14, .int .i64 (cmpS a.v b.v)), (15, v15), (16, .int .i64 (firstNZ [((cmpS a.n b.n)), ((cmpS a.v b.v))]))] ⟨rfl, rfl, rfl, rfl, rfl, rfl, rfl, rfl, rfl, rfl, rfl, rfl, rfl, rfl, rfl, rfl, rfl, trivial⟩ ?_
  refine ops_val rfl rfl (fun _ hk => e_assign hk rfl ⟨rfl, rfl⟩) ?_
  refine ops_end rfl ?_
  refine post_seq ?_
  refine J.sub [(4, .int .i64 (firstNZ [((cmpS a.n b.n)), ((cmpS a.v b.v))]))] ⟨rfl, trivial⟩ ?_
  refine jp_ret rfl ?_
  refine post_ret [.int .i64 (firstNZ [((cmpS a.n b.n)), ((cmpS a.v b.v))])] (.int .i64 (firstNZ [((cmpS a.n b.n)), ((cmpS a.v b.v))])) Try.results100 ⟨rfl, trivial⟩ rfl ?_
  exact ⟨E0, by rw [firstNZ_two]; rfl⟩

set_option maxHeartbeats 2000000 in
set_option maxRecDepth 100000 in
theorem CompareFunc_spec (va vb : Value) (a b : List Lbl) (la ha lb hb : Nat) (w : World) (h1 : RLab w la ha va a) (h2 : RLab w lb hb vb b) (n1 : a.length ≤ 1000000000) (n2 : b.length ≤ 1000000000) :
    Calls Try.prog 102 #[va, vb, .func (.func 100) #[] #[]] w (Ret fun res w' => Ext w w' ∧ res = .int .i64 (cmpLs a b)) := by
  refine calls_of_J Try.func102 rfl (N := 39) rfl rfl ?_
  have top_h1 := h1.top
  have top_h2 := h2.top
  have E0 : Ext w w := Ext.rfl'
  refine jp_seq [false] [true] rfl rfl rfl ?_
  refine j_region rfl ?_
  refine ops_val rfl rfl (fun _ hk => e_assign hk rfl ⟨rfl, rfl⟩) ?_
  refine ops_end rfl ?_
  refine post_seq ?_
  refine jp_seq [true, false] [true, true] rfl rfl rfl ?_
  refine jp_seq [true, false, false] [true, false, true] rfl rfl rfl ?_
  refine j_region rfl ?_
  refine ops_val rfl rfl (fun _ hk => e_move hk rfl ⟨rfl, rfl⟩) ?_
  refine ops_val rfl rfl (fun _ hk => e_len hk rfl Try.runUnderlying32 h1.len ⟨rfl, rfl⟩) ?_
  refine ops_val rfl rfl (fun _ hk => e_move hk rfl ⟨rfl, rfl⟩) ?_
  refine ops_end rfl ?_
  refine post_seq ?_
  refine jp_block [true, false, true, false] rfl rfl ?_
  refine jp_loop (fun (g : Nat) => [(0, va), (1, vb), (2, .func (.func 100) #[] #[]), (11, va), (12, .int .i64 ((a.length : Nat) : Int)), (13, .int .i64 ((g : Nat) : Int))]) (fun (g : Nat) (wl : World) => (Ext w wl) ∧ (g ≤ a.length) ∧ (cmpLs a b = cmpLs (a.drop g) (b.drop g))) (fun (g : Nat) => a.length - g) [true, false, true, false, false] (0) rfl rfl ⟨rfl, rfl, rfl, rfl, rfl, rfl, trivial⟩ ⟨Ext.rfl', Nat.zero_le _, by simp⟩ ?_
  rintro k w2 ⟨E1, hk, hf⟩
  have zE1 := E1.size
  replace E0 := E0.trans E1
  replace h1 := h1.ext E1
  replace h2 := h2.ext E1
  refine J.sub [(0, va), (1, vb), (2, .func (.func 100) #[] #[]), (11, va), (12, .int .i64 ((a.length : Nat) : Int)), (13, .int .i64 ((k : Nat) : Int))] ⟨rfl, rfl, rfl, rfl, rfl, rfl, trivial⟩ ?_
  refine jp_seq [true, false, true, false, false, false] [true, false, true, false, false, true] rfl rfl rfl ?_
  refine j_region rfl ?_
  refine ops_val rfl rfl (fun _ hk => e_lss hk rfl rfl rfl ⟨rfl, rfl⟩) ?_
  refine ops_end rfl ?_
  refine post_seq ?_
  refine jp_seq [true, false, true, false, false, true, false] [true, false, true, false, false, true, true] rfl rfl rfl ?_
  refine jp_cond [true, false, true, false, false, true, false, false] [true, false, true, false, false, true, false, true] rfl rfl rfl rfl (fun hc3 => ?_) (fun hc3 => ?_)
  · replace hc3 := of_decide_eq_true hc3
    refine jp_skip rfl ?_
    refine post_seq ?_
    refine jp_seq [true, false, true, false, false, true, true, false] [true, false, true, false, false, true, true, true] rfl rfl rfl ?_
    refine jp_block [true, false, true, false, false, true, true, false, false] rfl rfl ?_
    refine jp_seq [true, false, true, false, false, true, true, false, false, false] [true, false, true, false, false, true, true, false, false, true] rfl rfl rfl ?_
    refine j_region rfl ?_
    refine ops_val rfl rfl (fun _ hk => e_move hk rfl ⟨rfl, rfl⟩) ?_
    obtain ⟨x1, hx1⟩ := get_some a (k) (by omega)
    have A4 := h1.at_ hx1
    have qA4 := h1.block (by omega)
    refine ops_val rfl rfl (fun _ hk => e_indexAddr (k := k) hk rfl rfl Try.runUnderlying32 Try.sizeOf74 (h1.has (by omega)) (by omega) ⟨rfl, rfl⟩) ?_
    refine ops_val rfl rfl (fun _ hk => e_loadA (cs := [.string x1.n, .string x1.v]) hk rfl Try.isAgg74 Try.sizeOf74 A4 ⟨rfl, rfl⟩) ?_
    refine ops_rel (fun r_ w' => ∃ g, r_ = .pointer (some ⟨g, 0, none⟩) ∧ New w2 w' g 74 [.string ByteArray.empty, .string ByteArray.empty]) rfl rfl (fun _ hk => e_alloc Try.zeroValue74 (fun g w' n => ⟨g, rfl, n⟩)) ?_
    rintro _ w6 ⟨g5, rfl, N7⟩
    have EN7 := N7.ext
    have nN7 := N7.num
    have sN7 := N7.size
    have zEN7 := EN7.size
    replace E0 := E0.trans EN7
    replace h1 := h1.ext EN7
    replace h2 := h2.ext EN7
    replace E1 := E1.trans EN7
    replace A4 := A4.ext EN7
    have b8 := N7.box
    have b8a := b8.at_
    refine ops_val rfl rfl (fun _ hk => e_assign hk rfl ⟨rfl, rfl⟩) ?_
    refine ops_rel (fun _ w' => Box w' g5 74 [.string x1.n, .string x1.v] ∧ Upd g5 (g5 + 1) w6 w' ∧ w'.heap.size = w6.heap.size) rfl rfl (fun _ hk => e_store hk rfl rfl Try.sizeOf74 b8 (Nat.le_of_ble_eq_true rfl) ⟨rfl, rfl, trivial⟩ (fun w' h1 h2 h3 => ⟨h1, h2, h3⟩)) ?_
    rintro _ w9 ⟨b12, U10, z11⟩
    have zU10 := U10.size
    replace E0 := Ext.then_ E0 U10 (by omega)
    replace h1 := h1.upd U10 (by omega)
    replace h2 := h2.upd U10 (by omega)
    replace E1 := Ext.then_ E1 U10 (by omega)
    replace A4 := A4.upd U10 (by omega)
    have b12a := b12.at_
    refine ops_end rfl ?_
    refine post_seq ?_
    refine jp_seq [true, false, true, false, false, true, true, false, false, true, false] [true, false, true, false, false, true, true, false, false, true, true] rfl rfl rfl ?_
    refine jp_seq [true, false, true, false, false, true, true, false, false, true, false, false] [true, false, true, false, false, true, true, false, false, true, false, true] rfl rfl rfl ?_
    refine j_region rfl ?_
    refine ops_val rfl rfl (fun _ hk => e_move hk rfl ⟨rfl, rfl⟩) ?_
    refine ops_val rfl rfl (fun _ hk => e_move hk rfl ⟨rfl, rfl⟩) ?_
    refine ops_val rfl rfl (fun _ hk => e_len hk rfl Try.runUnderlying32 h2.len ⟨rfl, rfl⟩) ?_
    refine ops_val rfl rfl (fun _ hk => e_geq hk rfl rfl rfl ⟨rfl, rfl⟩) ?_
    refine ops_end rfl ?_
    refine post_seq ?_
    refine jp_cond [true, false, true, false, false, true, true, false, false, true, false, true, false] [true, false, true, false, false, true, true, false, false, true, false, true, true] rfl rfl rfl rfl (fun hc13 => ?_) (fun hc13 => ?_)
    · replace hc13 := of_decide_eq_true hc13
      refine jp_seq [true, false, true, false, false, true, true, false, false, true, false, true, false, false] [true, false, true, false, false, true, true, false, false, true, false, true, false, true] rfl rfl rfl ?_
      refine j_region rfl ?_
      refine ops_val rfl rfl (fun _ hk => e_assign hk rfl ⟨rfl, rfl⟩) ?_
      refine ops_end rfl ?_
      refine post_seq ?_
      refine jp_ret rfl ?_
      refine post_seq_ret ?_
      refine post_block_ret ?_
      refine post_seq_ret ?_
      refine post_loop_ret ?_
      refine post_block_ret ?_
      refine post_seq_ret ?_
      refine post_ret [.int .i64 1] (.int .i64 1) Try.results102 ⟨rfl, trivial⟩ rfl ?_
      exact ⟨E0, by rw [cmpLs_right hx1 (by omega) hf]⟩
    · replace hc13 := of_decide_eq_false hc13
      refine jp_skip rfl ?_
      refine post_seq ?_
      refine jp_seq [true, false, true, false, false, true, true, false, false, true, true, false] [true, false, true, false, false, true, true, false, false, true, true, true] rfl rfl rfl ?_
      refine j_region rfl ?_
      refine ops_val rfl rfl (fun _ hk => e_move hk rfl ⟨rfl, rfl⟩) ?_
      refine ops_val rfl rfl (fun _ hk => e_move hk rfl ⟨rfl, rfl⟩) ?_
      obtain ⟨x2, hx2⟩ := get_some b (k) (by omega)
      have A14 := h2.at_ hx2
      have qA14 := h2.block (by omega)
      refine ops_val rfl rfl (fun _ hk => e_indexAddr (k := k) hk rfl rfl Try.runUnderlying32 Try.sizeOf74 (h2.has (by omega)) (by omega) ⟨rfl, rfl⟩) ?_
      refine ops_val rfl rfl (fun _ hk => e_loadA (cs := [.string x2.n, .string x2.v]) hk rfl Try.isAgg74 Try.sizeOf74 A14 ⟨rfl, rfl⟩) ?_
      refine ops_rel (fun r_ w' => ∃ g, r_ = .pointer (some ⟨g, 0, none⟩) ∧ New w9 w' g 74 [.string ByteArray.empty, .string ByteArray.empty]) rfl rfl (fun _ hk => e_alloc Try.zeroValue74 (fun g w' n => ⟨g, rfl, n⟩)) ?_
      rintro _ w16 ⟨g15, rfl, N17⟩
      have EN17 := N17.ext
      have nN17 := N17.num
      have sN17 := N17.size
      have zEN17 := EN17.size
      replace E0 := E0.trans EN17
      replace h1 := h1.ext EN17
      replace h2 := h2.ext EN17
      replace E1 := E1.trans EN17
      replace A4 := A4.ext EN17
      replace b12 := b12.ext EN17
      replace b12a := b12a.ext EN17
      replace A14 := A14.ext EN17
      have b18 := N17.box
      have b18a := b18.at_
      refine ops_rel (fun _ w' => Box w' g15 74 [.string x2.n, .string x2.v] ∧ Upd g15 (g15 + 1) w16 w' ∧ w'.heap.size = w16.heap.size) rfl rfl (fun _ hk => e_store hk rfl rfl Try.sizeOf74 b18 (Nat.le_of_ble_eq_true rfl) ⟨rfl, rfl, trivial⟩ (fun w' h1 h2 h3 => ⟨h1, h2, h3⟩)) ?_
      rintro _ w19 ⟨b22, U20, z21⟩
      have zU20 := U20.size
      replace E0 := Ext.then_ E0 U20 (by omega)
      replace h1 := h1.upd U20 (by omega)
      replace h2 := h2.upd U20 (by omega)
      replace E1 := Ext.then_ E1 U20 (by omega)
      replace A4 := A4.upd U20 (by omega)
      replace b12 := b12.upd U20 (by omega)
      replace b12a := b12a.upd U20 (by omega)
      replace A14 := A14.upd U20 (by omega)
      have b22a := b22.at_
      refine ops_end rfl ?_
      refine post_seq ?_
      refine jp_seq [true, false, true, false, false, true, true, false, false, true, true, true, false] [true, false, true, false, false, true, true, false, false, true, true, true, true] rfl rfl rfl ?_
      refine j_region rfl ?_
      refine ops_val rfl rfl (fun _ hk => e_move hk rfl ⟨rfl, rfl⟩) ?_
      refine ops_val rfl rfl (fun _ hk => e_loadA (cs := [.string x1.n, .string x1.v]) hk rfl Try.isAgg74 Try.sizeOf74 b12a ⟨rfl, rfl⟩) ?_
      refine ops_val rfl rfl (fun _ hk => e_loadA (cs := [.string x2.n, .string x2.v]) hk rfl Try.isAgg74 Try.sizeOf74 b22a ⟨rfl, rfl⟩) ?_
      refine ops_rel _ rfl rfl (fun _ hk => e_callv hk rfl rfl rfl Try.call100 (order_spec x1 x2 _) (fun _ _ h => h)) ?_
      rintro _ w23 ⟨E24, rfl⟩
      have zE24 := E24.size
      replace E0 := E0.trans E24
      replace h1 := h1.ext E24
      replace h2 := h2.ext E24
      replace E1 := E1.trans E24
      replace A4 := A4.ext E24
      replace b12 := b12.ext E24
      replace b12a := b12a.ext E24
      replace A14 := A14.ext E24
      replace b22 := b22.ext E24
      replace b22a := b22a.ext E24
      refine ops_val rfl rfl (fun _ hk => e_assign hk rfl ⟨rfl, rfl⟩) ?_
      refine ops_end rfl ?_
      refine post_seq ?_
      refine jp_seq [true, false, true, false, false, true, true, false, false, true, true, true, true, false] [true, false, true, false, false, true, true, false, false, true, true, true, true, true] rfl rfl rfl ?_
      refine j_region rfl ?_
      refine ops_val rfl rfl (fun _ hk => e_move hk rfl ⟨rfl, rfl⟩) ?_
      refine ops_val rfl rfl (fun _ hk => e_neq hk rfl rfl rfl ⟨rfl, rfl⟩) ?_
      refine ops_end rfl ?_
      refine post_seq ?_
      refine jp_cond [true, false, true, false, false, true, true, false, false, true, true, true, true, true, false] [true, false, true, false, false, true, true, false, false, true, true, true, true, true, true] rfl rfl rfl rfl (fun hc25 => ?_) (fun hc25 => ?_)
      · replace hc25 := of_decide_eq_true hc25
        refine jp_seq [true, false, true, false, false, true, true, false, false, true, true, true, true, true, false, false] [true, false, true, false, false, true, true, false, false, true, true, true, true, true, false, true] rfl rfl rfl ?_
        refine j_region rfl ?_
        refine ops_val rfl rfl (fun _ hk => e_move hk rfl ⟨rfl, rfl⟩) ?_
        refine ops_val rfl rfl (fun _ hk => e_assign hk rfl ⟨rfl, rfl⟩) ?_
        refine ops_end rfl ?_
        refine post_seq ?_
        refine jp_ret rfl ?_
        refine post_block_ret ?_
        refine post_seq_ret ?_
        refine post_loop_ret ?_
        refine post_block_ret ?_
        refine post_seq_ret ?_
        refine post_ret [.int .i64 (cmpLbl x1 x2)] (.int .i64 (cmpLbl x1 x2)) Try.results102 ⟨rfl, trivial⟩ rfl ?_
        exact ⟨E0, by rw [cmpLs_at hx1 hx2 hf (by assumption)]⟩
      · replace hc25 := of_decide_eq_false hc25
        refine jp_skip rfl ?_
        refine post_block ?_
        refine post_seq ?_
        refine j_region rfl ?_
        refine ops_val rfl rfl (fun _ hk => e_add hk rfl rfl (w64eq (c := ((k + 1 : Nat) : Int)) (by omega) (by omega)) ⟨rfl, rfl⟩) ?_
        refine ops_val rfl rfl (fun _ hk => e_move hk rfl ⟨rfl, rfl⟩) ?_
        refine ops_end rfl ?_
        exact post_loop (k + 1) ⟨rfl, rfl, rfl, rfl, rfl, rfl, trivial⟩ ⟨E1, by omega, cmpLs_next hx1 hx2 hf (by omega)⟩ (by omega)
  · replace hc3 := of_decide_eq_false hc3
    refine jp_exit rfl ?_
    refine post_seq_exit ?_
    refine post_loop_exit ?_
    refine post_block_exit ?_
    refine post_seq ?_
    refine jp_seq [true, true, false] [true, true, true] rfl rfl rfl ?_
    refine jp_seq [true, true, false, false] [true, true, false, true] rfl rfl rfl ?_
    refine j_region rfl ?_
    refine ops_val rfl rfl (fun _ hk => e_move hk rfl ⟨rfl, rfl⟩) ?_
    refine ops_val rfl rfl (fun _ hk => e_len hk rfl Try.runUnderlying32 h1.len ⟨rfl, rfl⟩) ?_
    refine ops_val rfl rfl (fun _ hk => e_move hk rfl ⟨rfl, rfl⟩) ?_
    refine ops_val rfl rfl (fun _ hk => e_len hk rfl Try.runUnderlying32 h2.len ⟨rfl, rfl⟩) ?_
    refine ops_val rfl rfl (fun _ hk => e_lss hk rfl rfl rfl ⟨rfl, rfl⟩) ?_
    refine ops_end rfl ?_
    refine post_seq ?_
    refine J.sub [(38, .bool (decide (((a.length : Nat) : Int) < ((b.length : Nat) : Int))))] ⟨rfl, trivial⟩ ?_
    refine jp_cond [true, true, false, true, false] [true, true, false, true, true] rfl rfl rfl rfl (fun hc26 => ?_) (fun hc26 => ?_)
    · replace hc26 := of_decide_eq_true hc26
      refine jp_seq [true, true, false, true, false, false] [true, true, false, true, false, true] rfl rfl rfl ?_
      refine j_region rfl ?_
      refine ops_val rfl rfl (fun _ hk => e_assign hk rfl ⟨rfl, rfl⟩) ?_
      refine ops_end rfl ?_
      refine post_seq ?_
      refine jp_ret rfl ?_
      refine post_seq_ret ?_
      refine post_ret [.int .i64 (-1)] (.int .i64 (-1)) Try.results102 ⟨rfl, trivial⟩ rfl ?_
      refine ⟨E0, ?_⟩; rw [cmpLs_end (by omega) hf (by omega)]; first | rw [if_pos (by omega)] | rw [if_neg (by omega)]
    · replace hc26 := of_decide_eq_false hc26
      refine jp_skip rfl ?_
      refine post_seq ?_
      refine jp_seq [true, true, true, false] [true, true, true, true] rfl rfl rfl ?_
      refine j_region rfl ?_
      refine ops_val rfl rfl (fun _ hk => e_assign hk rfl ⟨rfl, rfl⟩) ?_
      refine ops_end rfl ?_
      refine post_seq ?_
      refine jp_ret rfl ?_
      refine post_ret [.int .i64 0] (.int .i64 0) Try.results102 ⟨rfl, trivial⟩ rfl ?_
      refine ⟨E0, ?_⟩; rw [cmpLs_end (by omega) hf (by omega)]; first | rw [if_pos (by omega)] | rw [if_neg (by omega)]

set_option maxHeartbeats 2000000 in
set_option maxRecDepth 100000 in
theorem Compare2_spec (va vb : Value) (a b : List Lbl) (la ha lb hb : Nat) (w : World) (h1 : RLab w la ha va a) (h2 : RLab w lb hb vb b) (n1 : a.length ≤ 1000000000) (n2 : b.length ≤ 1000000000) :
    Calls Try.prog 38 #[va, vb] w (Ret fun res w' => Ext w w' ∧ res = .int .i64 (cmpLs a b)) := by
  refine calls_of_J Try.func38 rfl (N := 8) rfl rfl ?_
  have top_h1 := h1.top
  have top_h2 := h2.top
  have E0 : Ext w w := Ext.rfl'
  refine jp_seq [false] [true] rfl rfl rfl ?_
  refine j_region rfl ?_
  refine ops_val rfl rfl (fun _ hk => e_assign hk rfl ⟨rfl, rfl⟩) ?_
  refine ops_end rfl ?_
  refine post_seq ?_
  refine jp_seq [true, false] [true, true] rfl rfl rfl ?_
  refine j_region rfl ?_
  refine ops_val rfl rfl (fun _ hk => e_move hk rfl ⟨rfl, rfl⟩) ?_
  refine ops_val rfl rfl (fun _ hk => e_move hk rfl ⟨rfl, rfl⟩) ?_
  refine ops_rel _ rfl rfl (fun _ hk => e_call hk rfl Try.call102 (CompareFunc_spec _ _ a b _ _ _ _ _ h1 h2 (by omega) (by omega)) (fun _ _ h => h)) ?_
  rintro _ w1 ⟨E2, rfl⟩
  have zE2 := E2.size
  replace E0 := E0.trans E2
  replace h1 := h1.ext E2
  replace h2 := h2.ext E2
  refine ops_val rfl rfl (fun _ hk => e_assign hk rfl ⟨rfl, rfl⟩) ?_
  refine ops_end rfl ?_
  refine post_seq ?_
  refine jp_ret rfl ?_
  refine post_ret [.int .i64 (cmpLs a b)] (.int .i64 (cmpLs a b)) Try.results38 ⟨rfl, trivial⟩ rfl ?_
  exact ⟨E0, rfl⟩

set_option maxHeartbeats 2000000 in
set_option maxRecDepth 100000 in
theorem texts_spec (a b : ByteArray) (w : World)  :
    Calls Try.prog 108 #[.string a, .string b] w (Ret fun res w' => Ext w w' ∧ res = .int .i64 (cmpS a b)) := by
  refine calls_of_J Try.func108 rfl (N := 13) rfl rfl ?_
  have hc := cmpS_cases a b
  have E0 : Ext w w := Ext.rfl'
  refine jp_seq [false] [true] rfl rfl rfl ?_
  refine j_region rfl ?_
  refine ops_val rfl rfl (fun _ hk => e_assign hk rfl ⟨rfl, rfl⟩) ?_
  refine ops_end rfl ?_
  refine post_seq ?_
  refine jp_seq [true, false] [true, true] rfl rfl rfl ?_
  refine jp_block [true, false, false] rfl rfl ?_
  refine jp_seq [true, false, false, false] [true, false, false, true] rfl rfl rfl ?_
  refine j_region rfl ?_
  refine ops_val rfl rfl (fun _ hk => e_move hk rfl ⟨rfl, rfl⟩) ?_
  refine ops_val rfl rfl (fun _ hk => e_move hk rfl ⟨rfl, rfl⟩) ?_
  refine ops_val rfl rfl (fun _ hk => e_lts hk rfl rfl rfl ⟨rfl, rfl⟩) ?_
  refine ops_val rfl rfl (fun _ hk => e_assign hk rfl ⟨rfl, rfl⟩) ?_
  refine ops_end rfl ?_
  refine post_seq ?_
  refine jp_cond [true, false, false, true, false] [true, false, false, true, true] rfl rfl rfl rfl (fun hc1 => ?_) (fun hc1 => ?_)
  · replace hc1 := of_decide_eq_true hc1
    refine jp_seq [true, false, false, true, false, false] [true, false, false, true, false, true] rfl rfl rfl ?_
    refine j_region rfl ?_
    refine ops_val rfl rfl (fun _ hk => e_assign hk rfl ⟨rfl, rfl⟩) ?_
    refine ops_end rfl ?_
    refine post_seq ?_
    refine jp_ret rfl ?_
    refine post_block_ret ?_
    refine post_seq_ret ?_
    refine post_ret [.int .i64 (-1)] (.int .i64 (-1)) Try.results108 ⟨rfl, trivial⟩ rfl ?_
    refine ⟨E0, ?_⟩; rcases hc with h | h | h <;> rw [h] <;> omega
  · replace hc1 := of_decide_eq_false hc1
    refine jp_seq [true, false, false, true, true, false] [true, false, false, true, true, true] rfl rfl rfl ?_
    refine j_region rfl ?_
    refine ops_val rfl rfl (fun _ hk => e_move hk rfl ⟨rfl, rfl⟩) ?_
    refine ops_val rfl rfl (fun _ hk => e_move hk rfl ⟨rfl, rfl⟩) ?_
    refine ops_val rfl rfl (fun _ hk => e_gts hk rfl rfl rfl ⟨rfl, rfl⟩) ?_
    refine ops_val rfl rfl (fun _ hk => e_assign hk rfl ⟨rfl, rfl⟩) ?_
    refine ops_end rfl ?_
    refine post_seq ?_
    refine J.sub [(4, .int .i64 0), (9, .bool (decide (0 < cmpS a b)))] ⟨rfl, rfl, trivial⟩ ?_
    refine jp_cond [true, false, false, true, true, true, false] [true, false, false, true, true, true, true] rfl rfl rfl rfl (fun hc2 => ?_) (fun hc2 => ?_)
    · replace hc2 := of_decide_eq_true hc2
      refine jp_seq [true, false, false, true, true, true, false, false] [true, false, false, true, true, true, false, true] rfl rfl rfl ?_
      refine j_region rfl ?_
      refine ops_val rfl rfl (fun _ hk => e_assign hk rfl ⟨rfl, rfl⟩) ?_
      refine ops_end rfl ?_
      refine post_seq ?_
      refine jp_ret rfl ?_
      refine post_block_ret ?_
      refine post_seq_ret ?_
      refine post_ret [.int .i64 1] (.int .i64 1) Try.results108 ⟨rfl, trivial⟩ rfl ?_
      refine ⟨E0, ?_⟩; rcases hc with h | h | h <;> rw [h] <;> omega
    · replace hc2 := of_decide_eq_false hc2
      refine jp_skip rfl ?_
      refine post_block ?_
      refine post_seq ?_
      refine jp_seq [true, true, false] [true, true, true] rfl rfl rfl ?_
      refine j_region rfl ?_
      refine ops_val rfl rfl (fun _ hk => e_assign hk rfl ⟨rfl, rfl⟩) ?_
      refine ops_end rfl ?_
      refine post_seq ?_
      refine jp_ret rfl ?_
      refine post_ret [.int .i64 0] (.int .i64 0) Try.results108 ⟨rfl, trivial⟩ rfl ?_
      refine ⟨E0, ?_⟩; rcases hc with h | h | h <;> rw [h] <;> omega

set_option maxHeartbeats 2000000 in
set_option maxRecDepth 100000 in
theorem compare_spec (o : Int) (a b : RowD) (la ha lb hb : Nat) (w : World) (h1 : RLab w la ha a.lv a.ls) (h2 : RLab w lb hb b.lv b.ls) (n1 : a.ls.length ≤ 1000000000) (n2 : b.ls.length ≤ 1000000000) :
    Calls Try.prog 110 #[.int .i64 o, .agg #[a.lv, .int .i64 (a.v)], .agg #[b.lv, .int .i64 (b.v)]] w (Ret fun res w' => Ext w w' ∧ res = .int .i64 (cmpRow o a b)) := by
  refine calls_of_J Try.func110 rfl (N := 35) rfl rfl ?_
  have top_h1 := h1.top
  have top_h2 := h2.top
  have E0 : Ext w w := Ext.rfl'
  refine jp_seq [false] [true] rfl rfl rfl ?_
  refine j_region rfl ?_
  refine ops_rel (fun r_ w' => ∃ g, r_ = .pointer (some ⟨g, 0, none⟩) ∧ New w w' g 34 [a.lv, .int .i64 (a.v)]) rfl rfl (fun _ hk => e_box hk rfl (fun g w' n => ⟨g, rfl, n⟩)) ?_
  rintro _ w2 ⟨g1, rfl, N3⟩
  have EN3 := N3.ext
  have nN3 := N3.num
  have sN3 := N3.size
  have zEN3 := EN3.size
  replace E0 := E0.trans EN3
  replace h1 := h1.ext EN3
  replace h2 := h2.ext EN3
  have b4 := N3.box
  have b4a := b4.at_
  refine ops_rel (fun r_ w' => ∃ g, r_ = .pointer (some ⟨g, 0, none⟩) ∧ New w2 w' g 34 [b.lv, .int .i64 (b.v)]) rfl rfl (fun _ hk => e_box hk rfl (fun g w' n => ⟨g, rfl, n⟩)) ?_
  rintro _ w6 ⟨g5, rfl, N7⟩
  have EN7 := N7.ext
  have nN7 := N7.num
  have sN7 := N7.size
  have zEN7 := EN7.size
  replace E0 := E0.trans EN7
  replace h1 := h1.ext EN7
  replace h2 := h2.ext EN7
  replace b4 := b4.ext EN7
  replace b4a := b4a.ext EN7
  have b8 := N7.box
  have b8a := b8.at_
  refine ops_val rfl rfl (fun _ hk => e_assign hk rfl ⟨rfl, rfl⟩) ?_
  refine ops_end rfl ?_
  refine post_seq ?_
  refine jp_seq [true, false] [true, true] rfl rfl rfl ?_
  refine j_region rfl ?_
  refine ops_val rfl rfl (fun _ hk => e_fieldAddr hk rfl (fa_34_0 _ _) ⟨rfl, rfl⟩) ?_
  refine ops_val rfl rfl (fun _ hk => e_load1 hk rfl Try.isAgg32 (b4a.cell 0 rfl) ⟨rfl, rfl⟩) ?_
  refine ops_val rfl rfl (fun _ hk => e_fieldAddr hk rfl (fa_34_0 _ _) ⟨rfl, rfl⟩) ?_
  refine ops_val rfl rfl (fun _ hk => e_load1 hk rfl Try.isAgg32 (b8a.cell 0 rfl) ⟨rfl, rfl⟩) ?_
  refine ops_rel _ rfl rfl (fun _ hk => e_call hk rfl Try.call38 (Compare2_spec _ _ a.ls b.ls _ _ _ _ _ h1 h2 (by omega) (by omega)) (fun _ _ h => h)) ?_
  rintro _ w9 ⟨E10, rfl⟩
  have zE10 := E10.size
  replace E0 := E0.trans E10
  replace h1 := h1.ext E10
  replace h2 := h2.ext E10
  replace b4 := b4.ext E10
  replace b4a := b4a.ext E10
  replace b8 := b8.ext E10
  replace b8a := b8a.ext E10
  refine ops_val rfl rfl (fun _ hk => e_assign hk rfl ⟨rfl, rfl⟩) ?_
  refine ops_end rfl ?_
  refine post_seq ?_
  refine J.sub [(0, .int .i64 o), (4, .pointer (some ⟨g1, 0, none⟩)), (5, .pointer (some ⟨g5, 0, none⟩)), (6, .int .i64 0), (7, .int .i64 (cmpLs a.ls b.ls))] ⟨rfl, rfl, rfl, rfl, rfl, trivial⟩ ?_
  refine jp_seq [true, true, false] [true, true, true] rfl rfl rfl ?_
  refine jp_seq [true, true, false, false] [true, true, false, true] rfl rfl rfl ?_
  refine j_region rfl ?_
  refine ops_val rfl rfl (fun _ hk => e_move hk rfl ⟨rfl, rfl⟩) ?_
  refine ops_end rfl ?_
  refine post_seq ?_
  refine jp_block [true, true, false, true, false] rfl rfl ?_
  refine jp_seq [true, true, false, true, false, false] [true, true, false, true, false, true] rfl rfl rfl ?_
  refine j_region rfl ?_
  refine ops_val rfl rfl (fun _ hk => e_eql hk rfl rfl rfl ⟨rfl, rfl⟩) ?_
  refine ops_val rfl rfl (fun _ hk => e_assign hk rfl ⟨rfl, rfl⟩) ?_
  refine ops_end rfl ?_
  refine post_seq ?_
  refine jp_cond [true, true, false, true, false, true, false] [true, true, false, true, false, true, true] rfl rfl rfl rfl (fun hc11 => ?_) (fun hc11 => ?_)
  · replace hc11 := of_decide_eq_true hc11
    refine jp_seq [true, true, false, true, false, true, false, false] [true, true, false, true, false, true, false, true] rfl rfl rfl ?_
    refine j_region rfl ?_
    refine ops_val rfl rfl (fun _ hk => e_fieldAddr hk rfl (fa_34_1 _ _) ⟨rfl, rfl⟩) ?_
    refine ops_val rfl rfl (fun _ hk => e_load1 hk rfl Try.isAgg3 (b4a.cell 1 rfl) ⟨rfl, rfl⟩) ?_
    refine ops_val rfl rfl (fun _ hk => e_fieldAddr hk rfl (fa_34_1 _ _) ⟨rfl, rfl⟩) ?_
    refine ops_val rfl rfl (fun _ hk => e_load1 hk rfl Try.isAgg3 (b8a.cell 1 rfl) ⟨rfl, rfl⟩) ?_
    refine ops_rel _ rfl rfl (fun _ hk => e_call hk rfl Try.call149 (cmpI_spec a.v b.v _) (fun _ _ h => h)) ?_
    rintro _ w12 ⟨E13, rfl⟩
    have zE13 := E13.size
    replace E0 := E0.trans E13
    replace h1 := h1.ext E13
    replace h2 := h2.ext E13
    replace b4 := b4.ext E13
    replace b4a := b4a.ext E13
    replace b8 := b8.ext E13
    replace b8a := b8a.ext E13
    refine ops_val rfl rfl (fun _ hk => e_move hk rfl ⟨rfl, rfl⟩) ?_
    refine ops_rel (fun r_ w' => ∃ g, r_ = .slice (some ⟨g, 0, none⟩) 2 2 ∧ New w12 w' g 3 [.int .i64 (cmpI a.v b.v), .int .i64 (cmpLs a.ls b.ls)]) rfl rfl (fun _ hk => e_buildSlice [.tmp 20, .tmp 21] [[.int .i64 (cmpI a.v b.v)], [.int .i64 (cmpLs a.ls b.ls)]] hk rfl rfl Try.runUnderlying25 Try.sizeOf3 Try.zeroValue3 rfl rfl rfl rfl ⟨rfl, rfl, rfl, rfl, trivial⟩ (fun g w' n => ⟨g, rfl, n⟩)) ?_
    rintro _ w15 ⟨g14, rfl, N16⟩
    have EN16 := N16.ext
    have nN16 := N16.num
    have sN16 := N16.size
    have zEN16 := EN16.size
    replace E0 := E0.trans EN16
    replace h1 := h1.ext EN16
    replace h2 := h2.ext EN16
    replace b4 := b4.ext EN16
    replace b4a := b4a.ext EN16
    replace b8 := b8.ext EN16
    replace b8a := b8a.ext EN16
    have b17 := N16.box
    have b17a := b17.at_
    have b17s := At.sl (cs := intCs) (z := 1) (xs := [((cmpI a.v b.v)), ((cmpLs a.ls b.ls))]) b17a rfl (by intro x _; rfl) rfl
    refine ops_rel _ rfl rfl (fun _ hk => e_call hk rfl Try.call136 (Or_spec _ [((cmpI a.v b.v)), ((cmpLs a.ls b.ls))] _ _ _ b17s (by simp)) (fun _ _ h => h)) ?_
    rintro _ w18 ⟨E19, rfl⟩
    have zE19 := E19.size
    replace E0 := E0.trans E19
    replace h1 := h1.ext E19
    replace h2 := h2.ext E19
    replace b4 := b4.ext E19
    replace b4a := b4a.ext E19
    replace b8 := b8.ext E19
    replace b8a := b8a.ext E19
    replace b17 := b17.ext E19
    replace b17a := b17a.ext E19
    replace b17s := b17s.ext E19
    refine ops_val rfl rfl (fun _ hk => e_assign hk rfl ⟨rfl, rfl⟩) ?_
    refine ops_end rfl ?_
    refine post_seq ?_
    refine J.sub [(6, .int .i64 (firstNZ [((cmpI a.v b.v)), ((cmpLs a.ls b.ls))])), (7, .int .i64 (cmpLs a.ls b.ls))] ⟨rfl, rfl, trivial⟩ ?_
    refine jp_ret rfl ?_
    refine post_block_ret ?_
    refine post_seq_ret ?_
    refine post_ret [.int .i64 (firstNZ [((cmpI a.v b.v)), ((cmpLs a.ls b.ls))])] (.int .i64 (firstNZ [((cmpI a.v b.v)), ((cmpLs a.ls b.ls))])) Try.results110 ⟨rfl, trivial⟩ rfl ?_
    refine ⟨E0, ?_⟩; unfold cmpRow; simp [*, firstNZ_two]
  · replace hc11 := of_decide_eq_false hc11
    refine jp_seq [true, true, false, true, false, true, true, false] [true, true, false, true, false, true, true, true] rfl rfl rfl ?_
    refine j_region rfl ?_
    refine ops_val rfl rfl (fun _ hk => e_eql hk rfl rfl rfl ⟨rfl, rfl⟩) ?_
    refine ops_val rfl rfl (fun _ hk => e_assign hk rfl ⟨rfl, rfl⟩) ?_
    refine ops_end rfl ?_
    refine post_seq ?_
    refine jp_cond [true, true, false, true, false, true, true, true, false] [true, true, false, true, false, true, true, true, true] rfl rfl rfl rfl (fun hc20 => ?_) (fun hc20 => ?_)
    · replace hc20 := of_decide_eq_true hc20
      refine jp_seq [true, true, false, true, false, true, true, true, false, false] [true, true, false, true, false, true, true, true, false, true] rfl rfl rfl ?_
      refine j_region rfl ?_
      refine ops_val rfl rfl (fun _ hk => e_fieldAddr hk rfl (fa_34_1 _ _) ⟨rfl, rfl⟩) ?_
      refine ops_val rfl rfl (fun _ hk => e_load1 hk rfl Try.isAgg3 (b8a.cell 1 rfl) ⟨rfl, rfl⟩) ?_
      refine ops_val rfl rfl (fun _ hk => e_fieldAddr hk rfl (fa_34_1 _ _) ⟨rfl, rfl⟩) ?_
      refine ops_val rfl rfl (fun _ hk => e_load1 hk rfl Try.isAgg3 (b4a.cell 1 rfl) ⟨rfl, rfl⟩) ?_
      refine ops_rel _ rfl rfl (fun _ hk => e_call hk rfl Try.call149 (cmpI_spec b.v a.v _) (fun _ _ h => h)) ?_
      rintro _ w21 ⟨E22, rfl⟩
      have zE22 := E22.size
      replace E0 := E0.trans E22
      replace h1 := h1.ext E22
      replace h2 := h2.ext E22
      replace b4 := b4.ext E22
      replace b4a := b4a.ext E22
      replace b8 := b8.ext E22
      replace b8a := b8a.ext E22
      refine ops_val rfl rfl (fun _ hk => e_move hk rfl ⟨rfl, rfl⟩) ?_
      refine ops_rel (fun r_ w' => ∃ g, r_ = .slice (some ⟨g, 0, none⟩) 2 2 ∧ New w21 w' g 3 [.int .i64 (cmpI b.v a.v), .int .i64 (cmpLs a.ls b.ls)]) rfl rfl (fun _ hk => e_buildSlice [.tmp 30, .tmp 31] [[.int .i64 (cmpI b.v a.v)], [.int .i64 (cmpLs a.ls b.ls)]] hk rfl rfl Try.runUnderlying25 Try.sizeOf3 Try.zeroValue3 rfl rfl rfl rfl ⟨rfl, rfl, rfl, rfl, trivial⟩ (fun g w' n => ⟨g, rfl, n⟩)) ?_
      rintro _ w24 ⟨g23, rfl, N25⟩
      have EN25 := N25.ext
      have nN25 := N25.num
      have sN25 := N25.size
      have zEN25 := EN25.size
      replace E0 := E0.trans EN25
      replace h1 := h1.ext EN25
      replace h2 := h2.ext EN25
      replace b4 := b4.ext EN25
      replace b4a := b4a.ext EN25
      replace b8 := b8.ext EN25
      replace b8a := b8a.ext EN25
      have b26 := N25.box
      have b26a := b26.at_
      have b26s := At.sl (cs := intCs) (z := 1) (xs := [((cmpI b.v a.v)), ((cmpLs a.ls b.ls))]) b26a rfl (by intro x _; rfl) rfl
      refine ops_rel _ rfl rfl (fun _ hk => e_call hk rfl Try.call136 (Or_spec _ [((cmpI b.v a.v)), ((cmpLs a.ls b.ls))] _ _ _ b26s (by simp)) (fun _ _ h => h)) ?_
      rintro _ w27 ⟨E28, rfl⟩
      have zE28 := E28.size
      replace E0 := E0.trans E28
      replace h1 := h1.ext E28
      replace h2 := h2.ext E28
      replace b4 := b4.ext E28
      replace b4a := b4a.ext E28
      replace b8 := b8.ext E28
      replace b8a := b8a.ext E28
      replace b26 := b26.ext E28
      replace b26a := b26a.ext E28
      replace b26s := b26s.ext E28
      refine ops_val rfl rfl (fun _ hk => e_assign hk rfl ⟨rfl, rfl⟩) ?_
      refine ops_end rfl ?_
      refine post_seq ?_
      refine J.sub [(6, .int .i64 (firstNZ [((cmpI b.v a.v)), ((cmpLs a.ls b.ls))])), (7, .int .i64 (cmpLs a.ls b.ls))] ⟨rfl, rfl, trivial⟩ ?_
      refine jp_ret rfl ?_
      refine post_block_ret ?_
      refine post_seq_ret ?_
      refine post_ret [.int .i64 (firstNZ [((cmpI b.v a.v)), ((cmpLs a.ls b.ls))])] (.int .i64 (firstNZ [((cmpI b.v a.v)), ((cmpLs a.ls b.ls))])) Try.results110 ⟨rfl, trivial⟩ rfl ?_
      refine ⟨E0, ?_⟩; unfold cmpRow; simp [*, firstNZ_two]
    · replace hc20 := of_decide_eq_false hc20
      refine jp_skip rfl ?_
      refine post_block ?_
      refine post_seq ?_
      refine J.sub [(6, .int .i64 0), (7, .int .i64 (cmpLs a.ls b.ls))] ⟨rfl, rfl, trivial⟩ ?_
      refine jp_seq [true, true, true, false] [true, true, true, true] rfl rfl rfl ?_
      refine j_region rfl ?_
      refine ops_val rfl rfl (fun _ hk => e_move hk rfl ⟨rfl, rfl⟩) ?_
      refine ops_val rfl rfl (fun _ hk => e_assign hk rfl ⟨rfl, rfl⟩) ?_
      refine ops_end rfl ?_
      refine post_seq ?_
      refine jp_ret rfl ?_
      refine post_ret [.int .i64 (cmpLs a.ls b.ls)] (.int .i64 (cmpLs a.ls b.ls)) Try.results110 ⟨rfl, trivial⟩ rfl ?_
      refine ⟨E0, ?_⟩; unfold cmpRow; simp [*, firstNZ_two]

set_option maxHeartbeats 2000000 in
set_option maxRecDepth 100000 in
theorem Less_spec (o : Int) (a b : RowD) (la ha lb hb : Nat) (w : World) (h1 : RLab w la ha a.lv a.ls) (h2 : RLab w lb hb b.lv b.ls) (n1 : a.ls.length ≤ 1000000000) (n2 : b.ls.length ≤ 1000000000) :
    Calls Try.prog 49 #[.int .i64 o, .agg #[a.lv, .int .i64 (a.v)], .agg #[b.lv, .int .i64 (b.v)]] w (Ret fun res w' => Ext w w' ∧ res = .bool (less o a b)) := by
  refine calls_of_J Try.func49 rfl (N := 12) rfl rfl ?_
  have top_h1 := h1.top
  have top_h2 := h2.top
  have E0 : Ext w w := Ext.rfl'
  refine jp_seq [false] [true] rfl rfl rfl ?_
  refine j_region rfl ?_
  refine ops_rel (fun r_ w' => ∃ g, r_ = .pointer (some ⟨g, 0, none⟩) ∧ New w w' g 34 [a.lv, .int .i64 (a.v)]) rfl rfl (fun _ hk => e_box hk rfl (fun g w' n => ⟨g, rfl, n⟩)) ?_
  rintro _ w2 ⟨g1, rfl, N3⟩
  have EN3 := N3.ext
  have nN3 := N3.num
  have sN3 := N3.size
  have zEN3 := EN3.size
  replace E0 := E0.trans EN3
  replace h1 := h1.ext EN3
  replace h2 := h2.ext EN3
  have b4 := N3.box
  have b4a := b4.at_
  refine ops_rel (fun r_ w' => ∃ g, r_ = .pointer (some ⟨g, 0, none⟩) ∧ New w2 w' g 34 [b.lv, .int .i64 (b.v)]) rfl rfl (fun _ hk => e_box hk rfl (fun g w' n => ⟨g, rfl, n⟩)) ?_
  rintro _ w6 ⟨g5, rfl, N7⟩
  have EN7 := N7.ext
  have nN7 := N7.num
  have sN7 := N7.size
  have zEN7 := EN7.size
  replace E0 := E0.trans EN7
  replace h1 := h1.ext EN7
  replace h2 := h2.ext EN7
  replace b4 := b4.ext EN7
  replace b4a := b4a.ext EN7
  have b8 := N7.box
  have b8a := b8.at_
  refine ops_val rfl rfl (fun _ hk => e_assign hk rfl ⟨rfl, rfl⟩) ?_
  refine ops_end rfl ?_
  refine post_seq ?_
  refine jp_seq [true, false] [true, true] rfl rfl rfl ?_
  refine j_region rfl ?_
  refine ops_val rfl rfl (fun _ hk => e_move hk rfl ⟨rfl, rfl⟩) ?_
  refine ops_val rfl rfl (fun _ hk => e_loadA (cs := [a.lv, .int .i64 (a.v)]) hk rfl Try.isAgg34 Try.sizeOf34 b4a ⟨rfl, rfl⟩) ?_
  refine ops_val rfl rfl (fun _ hk => e_loadA (cs := [b.lv, .int .i64 (b.v)]) hk rfl Try.isAgg34 Try.sizeOf34 b8a ⟨rfl, rfl⟩) ?_
  refine ops_rel _ rfl rfl (fun _ hk => e_call hk rfl Try.call110 (compare_spec o a b _ _ _ _ _ h1 h2 (by omega) (by omega)) (fun _ _ h => h)) ?_
  rintro _ w9 ⟨E10, rfl⟩
  have zE10 := E10.size
  replace E0 := E0.trans E10
  replace h1 := h1.ext E10
  replace h2 := h2.ext E10
  replace b4 := b4.ext E10
  replace b4a := b4a.ext E10
  replace b8 := b8.ext E10
  replace b8a := b8a.ext E10
  refine ops_val rfl rfl (fun _ hk => e_lss hk rfl rfl rfl ⟨rfl, rfl⟩) ?_
  refine ops_val rfl rfl (fun _ hk => e_assign hk rfl ⟨rfl, rfl⟩) ?_
  refine ops_end rfl ?_
  refine post_seq ?_
  refine J.sub [(6, .bool (decide ((cmpRow o a b) < 0)))] ⟨rfl, trivial⟩ ?_
  refine jp_ret rfl ?_
  refine post_ret [.bool (decide ((cmpRow o a b) < 0))] (.bool (decide ((cmpRow o a b) < 0))) Try.results49 ⟨rfl, trivial⟩ rfl ?_
  exact ⟨E0, rfl⟩

set_option maxHeartbeats 2000000 in
set_option maxRecDepth 100000 in
theorem refCompare_spec (va vb : Value) (a b : List Lbl) (la ha lb hb : Nat) (w : World) (h1 : RLab w la ha va a) (h2 : RLab w lb hb vb b) (n1 : a.length ≤ 1000000000) (n2 : b.length ≤ 1000000000) :
    Calls Try.prog 46 #[va, vb] w (Ret fun res w' => Ext w w' ∧ res = .int .i64 (cmpLs a b)) := by
  refine calls_of_J Try.func46 rfl (N := 58) rfl rfl ?_
  have top_h1 := h1.top
  have top_h2 := h2.top
  have E0 : Ext w w := Ext.rfl'
  refine jp_seq [false] [true] rfl rfl rfl ?_
  refine j_region rfl ?_
  refine ops_val rfl rfl (fun _ hk => e_assign hk rfl ⟨rfl, rfl⟩) ?_
  refine ops_end rfl ?_
  refine post_seq ?_
  refine jp_seq [true, false] [true, true] rfl rfl rfl ?_
  refine jp_seq [true, false, false] [true, false, true] rfl rfl rfl ?_
  refine j_region rfl ?_
  refine ops_val rfl rfl (fun _ hk => e_assign hk rfl ⟨rfl, rfl⟩) ?_
  refine ops_end rfl ?_
  refine post_seq ?_
  refine jp_block [true, false, true, false] rfl rfl ?_
  refine jp_loop (fun (g : Nat) => [(0, va), (1, vb), (5, .int .i64 ((g : Nat) : Int))]) (fun (g : Nat) (wl : World) => (Ext w wl) ∧ (g ≤ a.length) ∧ (g ≤ b.length) ∧ (cmpLs a b = cmpLs (a.drop g) (b.drop g))) (fun (g : Nat) => a.length - g) [true, false, true, false, false] (0) rfl rfl ⟨rfl, rfl, rfl, trivial⟩ ⟨Ext.rfl', Nat.zero_le _, Nat.zero_le _, by simp⟩ ?_
  rintro k w2 ⟨E1, hk, hk2, hf⟩
  have zE1 := E1.size
  replace E0 := E0.trans E1
  replace h1 := h1.ext E1
  replace h2 := h2.ext E1
  refine J.sub [(0, va), (1, vb), (5, .int .i64 ((k : Nat) : Int))] ⟨rfl, rfl, rfl, trivial⟩ ?_
  refine jp_seq [true, false, true, false, false, false] [true, false, true, false, false, true] rfl rfl rfl ?_
  refine jp_seq [true, false, true, false, false, false, false] [true, false, true, false, false, false, true] rfl rfl rfl ?_
  refine J.sub [(0, va), (1, vb), (5, .int .i64 ((k : Nat) : Int))] ⟨rfl, rfl, rfl, trivial⟩ ?_
  refine j_sum 16 ((decide (((k : Nat) : Int) < ((a.length : Nat) : Int)) && decide (((k : Nat) : Int) < ((b.length : Nat) : Int)))) (fun _ hQ5 => ?_) (fun w3 E4 => ?_)
  · skip
    by_cases hg6 : ((k : Nat) : Int) < ((a.length : Nat) : Int)
    · skip
      refine j_region rfl ?_
      refine ops_val rfl rfl (fun _ hk => e_move hk rfl ⟨rfl, rfl⟩) ?_
      refine ops_val rfl rfl (fun _ hk => e_move hk rfl ⟨rfl, rfl⟩) ?_
      refine ops_val rfl rfl (fun _ hk => e_len hk rfl Try.runUnderlying32 h1.len ⟨rfl, rfl⟩) ?_
      refine ops_val rfl rfl (fun _ hk => e_lss hk rfl rfl (decide_eq_true hg6) ⟨rfl, rfl⟩) ?_
      refine ops_val rfl rfl (fun _ hk => e_move hk rfl ⟨rfl, rfl⟩) ?_
      refine ops_run rfl rfl rfl rfl rfl (fun _ hk => e_move hk rfl ⟨rfl, rfl⟩) ?_
      refine ops_run rfl rfl rfl rfl rfl (fun _ hk => e_move hk rfl ⟨rfl, rfl⟩) ?_
      refine ops_run rfl rfl rfl rfl rfl (fun _ hk => e_len hk rfl Try.runUnderlying32 h2.len ⟨rfl, rfl⟩) ?_
      refine ops_run rfl rfl rfl rfl rfl (fun _ hk => e_lss hk rfl rfl rfl ⟨rfl, rfl⟩) ?_
      refine ops_val rfl rfl (fun _ hk => e_pick_t hk rfl rfl ⟨rfl, rfl⟩) ?_
      refine ops_end rfl ?_
      exact Post.sub ((16, .bool ((decide (((k : Nat) : Int) < ((a.length : Nat) : Int)) && decide (((k : Nat) : Int) < ((b.length : Nat) : Int))))) :: [(0, va), (1, vb), (5, .int .i64 ((k : Nat) : Int))]) ⟨(congrArg (fun b => some (Value.bool b)) (by simp [hg6])), rfl, rfl, rfl, trivial⟩ (hQ5 _ Ext.rfl')
    · skip
      refine j_region rfl ?_
      refine ops_val rfl rfl (fun _ hk => e_move hk rfl ⟨rfl, rfl⟩) ?_
      refine ops_val rfl rfl (fun _ hk => e_move hk rfl ⟨rfl, rfl⟩) ?_
      refine ops_val rfl rfl (fun _ hk => e_len hk rfl Try.runUnderlying32 h1.len ⟨rfl, rfl⟩) ?_
      refine ops_val rfl rfl (fun _ hk => e_lss hk rfl rfl (decide_eq_false hg6) ⟨rfl, rfl⟩) ?_
      refine ops_val rfl rfl (fun _ hk => e_move hk rfl ⟨rfl, rfl⟩) ?_
      refine ops_skip rfl rfl rfl rfl rfl ?_
      refine ops_skip rfl rfl rfl rfl rfl ?_
      refine ops_skip rfl rfl rfl rfl rfl ?_
      refine ops_skip rfl rfl rfl rfl rfl ?_
      refine ops_val rfl rfl (fun _ hk => e_pick_f hk rfl rfl ⟨rfl, rfl⟩) ?_
      refine ops_end rfl ?_
      exact Post.sub ((16, .bool ((decide (((k : Nat) : Int) < ((a.length : Nat) : Int)) && decide (((k : Nat) : Int) < ((b.length : Nat) : Int))))) :: [(0, va), (1, vb), (5, .int .i64 ((k : Nat) : Int))]) ⟨(congrArg (fun b => some (Value.bool b)) (by simp [hg6])), rfl, rfl, rfl, trivial⟩ (hQ5 _ Ext.rfl')
  · skip
    have zE4 := E4.size
    replace E0 := E0.trans E4
    replace h1 := h1.ext E4
    replace h2 := h2.ext E4
    replace E1 := E1.trans E4
    refine post_seq ?_
    refine jp_cond [true, false, true, false, false, false, true, false] [true, false, true, false, false, false, true, true] rfl rfl rfl rfl (fun hc7 => ?_) (fun hc7 => ?_)
    · simp only [Bool.and_eq_true, Bool.or_eq_true, Bool.not_eq_true', Bool.not_eq_false', Bool.and_eq_false_iff, Bool.or_eq_false_iff, decide_eq_true_eq, decide_eq_false_iff_not, Decidable.not_not, ne_eq] at hc7
      refine jp_skip rfl ?_
      refine post_seq ?_
      refine jp_seq [true, false, true, false, false, true, false] [true, false, true, false, false, true, true] rfl rfl rfl ?_
      refine jp_block [true, false, true, false, false, true, false, false] rfl rfl ?_
      refine jp_seq [true, false, true, false, false, true, false, false, false] [true, false, true, false, false, true, false, false, true] rfl rfl rfl ?_
      refine J.sub [(0, va), (1, vb), (5, .int .i64 ((k : Nat) : Int)), (16, .bool ((decide (((k : Nat) : Int) < ((a.length : Nat) : Int)) && decide (((k : Nat) : Int) < ((b.length : Nat) : Int)))))] ⟨rfl, rfl, rfl, rfl, trivial⟩ ?_
      refine wp_draw 11 mixed rfl rfl ?_
      refine dr_val rfl rfl (fun ρ_ w_ E_ hk _ => e_move hk rfl ⟨Ext.rfl', rfl⟩) ?_
      refine dr_val rfl rfl (fun ρ_ w_ E_ hk _ => e_move hk rfl ⟨Ext.rfl', rfl⟩) ?_
      obtain ⟨x1, hx1⟩ := get_some a (k) (by omega)
      have A8 := h1.at_ hx1
      have qA8 := h1.block (by omega)
      refine dr_val rfl rfl (fun ρ_ w_ E_ hk _ => e_indexAddr (k := k) hk rfl rfl Try.runUnderlying32 Try.sizeOf74 (h1.has (by omega)) (by omega) ⟨Ext.rfl', rfl⟩) ?_
      refine dr_val rfl rfl (fun ρ_ w_ E_ hk _ => e_fieldAddr hk rfl (fa_74_0 _ _) ⟨Ext.rfl', rfl⟩) ?_
      refine dr_val rfl rfl (fun ρ_ w_ E_ hk _ => e_load1 hk rfl Try.isAgg9 ((A8.ext E_).cell 0 rfl) ⟨Ext.rfl', rfl⟩) ?_
      refine dr_val rfl rfl (fun ρ_ w_ E_ hk _ => e_move hk rfl ⟨Ext.rfl', rfl⟩) ?_
      refine dr_val rfl rfl (fun ρ_ w_ E_ hk _ => e_move hk rfl ⟨Ext.rfl', rfl⟩) ?_
      obtain ⟨x2, hx2⟩ := get_some b (k) (by omega)
      have A9 := h2.at_ hx2
      have qA9 := h2.block (by omega)
      refine dr_val rfl rfl (fun ρ_ w_ E_ hk _ => e_indexAddr (k := k) hk rfl rfl Try.runUnderlying32 Try.sizeOf74 (h2.has (by omega)) (by omega) ⟨Ext.rfl', rfl⟩) ?_
      refine dr_val rfl rfl (fun ρ_ w_ E_ hk _ => e_fieldAddr hk rfl (fa_74_0 _ _) ⟨Ext.rfl', rfl⟩) ?_
      refine dr_val rfl rfl (fun ρ_ w_ E_ hk _ => e_load1 hk rfl Try.isAgg9 ((A9.ext E_).cell 0 rfl) ⟨Ext.rfl', rfl⟩) ?_
      refine dr_val rfl rfl (fun ρ_ w_ E_ hk _ => e_call hk rfl Try.call108 (texts_spec x1.n x2.n _) (fun _ _ h => h)) ?_
      refine dr_end rfl (fun w10 E11 => ?_)
      have zE11 := E11.size
      replace E0 := E0.trans E11
      replace h1 := h1.ext E11
      replace h2 := h2.ext E11
      replace E1 := E1.trans E11
      replace A8 := A8.ext E11
      replace A9 := A9.ext E11
      refine Ops.sub [(0, va), (1, vb), (5, .int .i64 ((k : Nat) : Int)), (16, .bool ((decide (((k : Nat) : Int) < ((a.length : Nat) : Int)) && decide (((k : Nat) : Int) < ((b.length : Nat) : Int))))), (19, va), (20, .int .i64 ((k : Nat) : Int)), (21, .pointer (some ⟨bl va, of_ va + (k) * 2, none⟩)), (22, .pointer (some ⟨bl va, of_ va + (k) * 2, none⟩)), (23, .string x1.n), (24, vb), (25, .int .i64 ((k : Nat) : Int)), (26, .pointer (some ⟨bl vb, of_ vb + (k) * 2, none⟩)), (27, .pointer (some ⟨bl vb, of_ vb + (k) * 2, none⟩)), (28, .string x2.n), (29, .int .i64 (cmpS x1.n x2.n))] ⟨rfl, rfl, rfl, rfl, rfl, rfl, rfl, rfl, rfl, rfl, rfl, rfl, rfl, rfl, rfl, trivial⟩ ?_
      refine ops_val rfl rfl (fun _ hk => e_assign hk rfl ⟨rfl, rfl⟩) ?_
      refine ops_end rfl ?_
      refine post_seq ?_
      refine jp_seq [true, false, true, false, false, true, false, false, true, false] [true, false, true, false, false, true, false, false, true, true] rfl rfl rfl ?_
      refine jp_seq [true, false, true, false, false, true, false, false, true, false, false] [true, false, true, false, false, true, false, false, true, false, true] rfl rfl rfl ?_
      refine j_region rfl ?_
      refine ops_val rfl rfl (fun _ hk => e_move hk rfl ⟨rfl, rfl⟩) ?_
      refine ops_val rfl rfl (fun _ hk => e_eql hk rfl rfl rfl ⟨rfl, rfl⟩) ?_
      refine ops_end rfl ?_
      refine post_seq ?_
      refine jp_cond [true, false, true, false, false, true, false, false, true, false, true, false] [true, false, true, false, false, true, false, false, true, false, true, true] rfl rfl rfl rfl (fun hc12 => ?_) (fun hc12 => ?_)
      · replace hc12 := of_decide_eq_true hc12
        refine J.sub [(0, va), (1, vb), (5, .int .i64 ((k : Nat) : Int)), (6, .int .i64 (cmpS x1.n x2.n)), (16, .bool ((decide (((k : Nat) : Int) < ((a.length : Nat) : Int)) && decide (((k : Nat) : Int) < ((b.length : Nat) : Int))))), (19, va), (20, .int .i64 ((k : Nat) : Int)), (21, .pointer (some ⟨bl va, of_ va + (k) * 2, none⟩)), (22, .pointer (some ⟨bl va, of_ va + (k) * 2, none⟩)), (23, .string x1.n), (24, vb), (25, .int .i64 ((k : Nat) : Int)), (26, .pointer (some ⟨bl vb, of_ vb + (k) * 2, none⟩)), (27, .pointer (some ⟨bl vb, of_ vb + (k) * 2, none⟩)), (28, .string x2.n), (29, .int .i64 (cmpS x1.n x2.n)), (30, .int .i64 (cmpS x1.n x2.n)), (31, .bool (decide ((cmpS x1.n x2.n) = 0)))] ⟨rfl, rfl, rfl, rfl, rfl, rfl, rfl, rfl, rfl, rfl, rfl, rfl, rfl, rfl, rfl, rfl, rfl, rfl, trivial⟩ ?_
        refine wp_draw 11 mixed rfl rfl ?_
        refine dr_val rfl rfl (fun ρ_ w_ E_ hk _ => e_move hk rfl ⟨Ext.rfl', rfl⟩) ?_
        refine dr_val rfl rfl (fun ρ_ w_ E_ hk _ => e_move hk rfl ⟨Ext.rfl', rfl⟩) ?_
        have A13 := h1.at_ hx1
        have qA13 := h1.block (by omega)
        refine dr_val rfl rfl (fun ρ_ w_ E_ hk _ => e_indexAddr (k := k) hk rfl rfl Try.runUnderlying32 Try.sizeOf74 (h1.has (by omega)) (by omega) ⟨Ext.rfl', rfl⟩) ?_
        refine dr_val rfl rfl (fun ρ_ w_ E_ hk _ => e_fieldAddr hk rfl (fa_74_1 _ _) ⟨Ext.rfl', rfl⟩) ?_
        refine dr_val rfl rfl (fun ρ_ w_ E_ hk _ => e_load1 hk rfl Try.isAgg9 ((A13.ext E_).cell 1 rfl) ⟨Ext.rfl', rfl⟩) ?_
        refine dr_val rfl rfl (fun ρ_ w_ E_ hk _ => e_move hk rfl ⟨Ext.rfl', rfl⟩) ?_
        refine dr_val rfl rfl (fun ρ_ w_ E_ hk _ => e_move hk rfl ⟨Ext.rfl', rfl⟩) ?_
        have A14 := h2.at_ hx2
        have qA14 := h2.block (by omega)
        refine dr_val rfl rfl (fun ρ_ w_ E_ hk _ => e_indexAddr (k := k) hk rfl rfl Try.runUnderlying32 Try.sizeOf74 (h2.has (by omega)) (by omega) ⟨Ext.rfl', rfl⟩) ?_
        refine dr_val rfl rfl (fun ρ_ w_ E_ hk _ => e_fieldAddr hk rfl (fa_74_1 _ _) ⟨Ext.rfl', rfl⟩) ?_
        refine dr_val rfl rfl (fun ρ_ w_ E_ hk _ => e_load1 hk rfl Try.isAgg9 ((A14.ext E_).cell 1 rfl) ⟨Ext.rfl', rfl⟩) ?_
        refine dr_val rfl rfl (fun ρ_ w_ E_ hk _ => e_call hk rfl Try.call108 (texts_spec x1.v x2.v _) (fun _ _ h => h)) ?_
        refine dr_end rfl (fun w15 E16 => ?_)
        have zE16 := E16.size
        replace E0 := E0.trans E16
        replace h1 := h1.ext E16
        replace h2 := h2.ext E16
        replace E1 := E1.trans E16
        replace A8 := A8.ext E16
        replace A9 := A9.ext E16
        replace A13 := A13.ext E16
        replace A14 := A14.ext E16
        refine Ops.sub [(0, va), (1, vb), (5, .int .i64 ((k : Nat) : Int)), (6, .int .i64 (cmpS x1.n x2.n)), (16, .bool ((decide (((k : Nat) : Int) < ((a.length : Nat) : Int)) && decide (((k : Nat) : Int) < ((b.length : Nat) : Int))))), (19, va), (20, .int .i64 ((k : Nat) : Int)), (21, .pointer (some ⟨bl va, of_ va + (k) * 2, none⟩)), (22, .pointer (some ⟨bl va, of_ va + (k) * 2, none⟩)), (23, .string x1.n), (24, vb), (25, .int .i64 ((k : Nat) : Int)), (26, .pointer (some ⟨bl vb, of_ vb + (k) * 2, none⟩)), (27, .pointer (some ⟨bl vb, of_ vb + (k) * 2, none⟩)), (28, .string x2.n), (29, .int .i64 (cmpS x1.n x2.n)), (30, .int .i64 (cmpS x1.n x2.n)), (31, .bool (decide ((cmpS x1.n x2.n) = 0))), (32, va), (33, .int .i64 ((k : Nat) : Int)), (34, .pointer (some ⟨bl va, of_ va + (k) * 2, none⟩)), (35, .pointer (some ⟨bl va, of_ va + (k) * 2 + 1, none⟩)), (36, .string x1.v), (37, vb), (38, .int .i64 ((k : Nat) : Int)), (39, .pointer (some ⟨bl vb, of_ vb + (k) * 2, none⟩)), (40, .pointer (some ⟨bl vb, of_ vb + (k) * 2 + 1, none⟩)), (41, .string x2.v), (42, .int .i64 (cmpS x1.v x2.v))] ⟨rfl, rfl, rfl, rfl, rfl, rfl, rfl, rfl, rfl, rfl, rfl, rfl, rfl, rfl, rfl, rfl, rfl, rfl, rfl, rfl, rfl, rfl, rfl, rfl, rfl, rfl, rfl, rfl, rfl, trivial⟩ ?_
        refine ops_val rfl rfl (fun _ hk => e_assign hk rfl ⟨rfl, rfl⟩) ?_
        refine ops_end rfl ?_
        refine post_seq ?_
        refine jp_seq [true, false, true, false, false, true, false, false, true, true, false] [true, false, true, false, false, true, false, false, true, true, true] rfl rfl rfl ?_
        refine j_region rfl ?_
        refine ops_val rfl rfl (fun _ hk => e_move hk rfl ⟨rfl, rfl⟩) ?_
        refine ops_val rfl rfl (fun _ hk => e_neq hk rfl rfl rfl ⟨rfl, rfl⟩) ?_
        refine ops_end rfl ?_
        refine post_seq ?_
        refine jp_cond [true, false, true, false, false, true, false, false, true, true, true, false] [true, false, true, false, false, true, false, false, true, true, true, true] rfl rfl rfl rfl (fun hc17 => ?_) (fun hc17 => ?_)
        · replace hc17 := of_decide_eq_true hc17
          refine jp_seq [true, false, true, false, false, true, false, false, true, true, true, false, false] [true, false, true, false, false, true, false, false, true, true, true, false, true] rfl rfl rfl ?_
          refine j_region rfl ?_
          refine ops_val rfl rfl (fun _ hk => e_move hk rfl ⟨rfl, rfl⟩) ?_
          refine ops_val rfl rfl (fun _ hk => e_assign hk rfl ⟨rfl, rfl⟩) ?_
          refine ops_end rfl ?_
          refine post_seq ?_
          refine jp_ret rfl ?_
          refine post_block_ret ?_
          refine post_seq_ret ?_
          refine post_loop_ret ?_
          refine post_block_ret ?_
          refine post_seq_ret ?_
          refine post_ret [.int .i64 (cmpS x1.v x2.v)] (.int .i64 (cmpS x1.v x2.v)) Try.results46 ⟨rfl, trivial⟩ rfl ?_
          refine ⟨E0, congrArg (Value.int .i64) ?_⟩; rw [cmpLs_at hx1 hx2 hf (by unfold cmpLbl or2; split <;> omega)]; unfold cmpLbl or2; first | rw [if_pos (by omega)] | rw [if_neg (by omega)]
        · replace hc17 := of_decide_eq_false hc17
          refine jp_skip rfl ?_
          refine post_block ?_
          refine post_seq ?_
          refine j_region rfl ?_
          refine ops_val rfl rfl (fun _ hk => e_move hk rfl ⟨rfl, rfl⟩) ?_
          refine ops_val rfl rfl (fun _ hk => e_add hk rfl rfl (w64eq (c := ((k + 1 : Nat) : Int)) (by omega) (by omega)) ⟨rfl, rfl⟩) ?_
          refine ops_val rfl rfl (fun _ hk => e_assign hk rfl ⟨rfl, rfl⟩) ?_
          refine ops_end rfl ?_
          exact post_loop (k + 1) ⟨rfl, rfl, rfl, trivial⟩ ⟨E1, by omega, by omega, cmpLs_next hx1 hx2 hf (by unfold cmpLbl or2; split <;> omega)⟩ (by omega)
      · replace hc12 := of_decide_eq_false hc12
        refine jp_skip rfl ?_
        refine post_seq ?_
        refine jp_seq [true, false, true, false, false, true, false, false, true, true, false] [true, false, true, false, false, true, false, false, true, true, true] rfl rfl rfl ?_
        refine j_region rfl ?_
        refine ops_val rfl rfl (fun _ hk => e_move hk rfl ⟨rfl, rfl⟩) ?_
        refine ops_val rfl rfl (fun _ hk => e_neq hk rfl rfl rfl ⟨rfl, rfl⟩) ?_
        refine ops_end rfl ?_
        refine post_seq ?_
        refine jp_cond [true, false, true, false, false, true, false, false, true, true, true, false] [true, false, true, false, false, true, false, false, true, true, true, true] rfl rfl rfl rfl (fun hc18 => ?_) (fun hc18 => ?_)
        · replace hc18 := of_decide_eq_true hc18
          refine jp_seq [true, false, true, false, false, true, false, false, true, true, true, false, false] [true, false, true, false, false, true, false, false, true, true, true, false, true] rfl rfl rfl ?_
          refine j_region rfl ?_
          refine ops_val rfl rfl (fun _ hk => e_move hk rfl ⟨rfl, rfl⟩) ?_
          refine ops_val rfl rfl (fun _ hk => e_assign hk rfl ⟨rfl, rfl⟩) ?_
          refine ops_end rfl ?_
          refine post_seq ?_
          refine jp_ret rfl ?_
          refine post_block_ret ?_
          refine post_seq_ret ?_
          refine post_loop_ret ?_
          refine post_block_ret ?_
          refine post_seq_ret ?_
          refine post_ret [.int .i64 (cmpS x1.n x2.n)] (.int .i64 (cmpS x1.n x2.n)) Try.results46 ⟨rfl, trivial⟩ rfl ?_
          refine ⟨E0, congrArg (Value.int .i64) ?_⟩; rw [cmpLs_at hx1 hx2 hf (by unfold cmpLbl or2; split <;> omega)]; unfold cmpLbl or2; first | rw [if_pos (by omega)] | rw [if_neg (by omega)]
        · replace hc18 := of_decide_eq_false hc18
          refine jp_skip rfl ?_
          refine post_block ?_
          refine post_seq ?_
          refine j_region rfl ?_
          refine ops_val rfl rfl (fun _ hk => e_move hk rfl ⟨rfl, rfl⟩) ?_
          refine ops_val rfl rfl (fun _ hk => e_add hk rfl rfl (w64eq (c := ((k + 1 : Nat) : Int)) (by omega) (by omega)) ⟨rfl, rfl⟩) ?_
          refine ops_val rfl rfl (fun _ hk => e_assign hk rfl ⟨rfl, rfl⟩) ?_
          refine ops_end rfl ?_
          exact post_loop (k + 1) ⟨rfl, rfl, rfl, trivial⟩ ⟨E1, by omega, by omega, cmpLs_next hx1 hx2 hf (by unfold cmpLbl or2; split <;> omega)⟩ (by omega)
    · simp only [Bool.and_eq_true, Bool.or_eq_true, Bool.not_eq_true', Bool.not_eq_false', Bool.and_eq_false_iff, Bool.or_eq_false_iff, decide_eq_true_eq, decide_eq_false_iff_not, Decidable.not_not, ne_eq] at hc7
      refine jp_exit rfl ?_
      refine post_seq_exit ?_
      refine post_loop_exit ?_
      refine post_block_exit ?_
      refine post_seq ?_
      refine jp_seq [true, true, false] [true, true, true] rfl rfl rfl ?_
      refine jp_block [true, true, false, false] rfl rfl ?_
      refine jp_seq [true, true, false, false, false] [true, true, false, false, true] rfl rfl rfl ?_
      refine j_region rfl ?_
      refine ops_val rfl rfl (fun _ hk => e_move hk rfl ⟨rfl, rfl⟩) ?_
      refine ops_val rfl rfl (fun _ hk => e_len hk rfl Try.runUnderlying32 h1.len ⟨rfl, rfl⟩) ?_
      refine ops_val rfl rfl (fun _ hk => e_move hk rfl ⟨rfl, rfl⟩) ?_
      refine ops_val rfl rfl (fun _ hk => e_len hk rfl Try.runUnderlying32 h2.len ⟨rfl, rfl⟩) ?_
      refine ops_val rfl rfl (fun _ hk => e_lss hk rfl rfl rfl ⟨rfl, rfl⟩) ?_
      refine ops_val rfl rfl (fun _ hk => e_assign hk rfl ⟨rfl, rfl⟩) ?_
      refine ops_end rfl ?_
      refine post_seq ?_
      refine J.sub [(0, va), (1, vb), (46, .bool (decide (((a.length : Nat) : Int) < ((b.length : Nat) : Int))))] ⟨rfl, rfl, rfl, trivial⟩ ?_
      refine jp_cond [true, true, false, false, true, false] [true, true, false, false, true, true] rfl rfl rfl rfl (fun hc19 => ?_) (fun hc19 => ?_)
      · replace hc19 := of_decide_eq_true hc19
        refine jp_seq [true, true, false, false, true, false, false] [true, true, false, false, true, false, true] rfl rfl rfl ?_
        refine j_region rfl ?_
        refine ops_val rfl rfl (fun _ hk => e_assign hk rfl ⟨rfl, rfl⟩) ?_
        refine ops_end rfl ?_
        refine post_seq ?_
        refine jp_ret rfl ?_
        refine post_block_ret ?_
        refine post_seq_ret ?_
        refine post_ret [.int .i64 (-1)] (.int .i64 (-1)) Try.results46 ⟨rfl, trivial⟩ rfl ?_
        refine ⟨E0, congrArg (Value.int .i64) ?_⟩; rw [hf]; first | rw [cmpLs_nil (by omega) (by omega) (by omega)] | rw [cmpLs_nil_l (by omega) (by omega)] | rw [cmpLs_nil_r (by omega) (by omega)]
      · replace hc19 := of_decide_eq_false hc19
        refine jp_seq [true, true, false, false, true, true, false] [true, true, false, false, true, true, true] rfl rfl rfl ?_
        refine j_region rfl ?_
        refine ops_val rfl rfl (fun _ hk => e_move hk rfl ⟨rfl, rfl⟩) ?_
        refine ops_val rfl rfl (fun _ hk => e_len hk rfl Try.runUnderlying32 h1.len ⟨rfl, rfl⟩) ?_
        refine ops_val rfl rfl (fun _ hk => e_move hk rfl ⟨rfl, rfl⟩) ?_
        refine ops_val rfl rfl (fun _ hk => e_len hk rfl Try.runUnderlying32 h2.len ⟨rfl, rfl⟩) ?_
        refine ops_val rfl rfl (fun _ hk => e_gtr hk rfl rfl rfl ⟨rfl, rfl⟩) ?_
        refine ops_val rfl rfl (fun _ hk => e_assign hk rfl ⟨rfl, rfl⟩) ?_
        refine ops_end rfl ?_
        refine post_seq ?_
        refine J.sub [(52, .bool (decide (((b.length : Nat) : Int) < ((a.length : Nat) : Int))))] ⟨rfl, trivial⟩ ?_
        refine jp_cond [true, true, false, false, true, true, true, false] [true, true, false, false, true, true, true, true] rfl rfl rfl rfl (fun hc20 => ?_) (fun hc20 => ?_)
        · replace hc20 := of_decide_eq_true hc20
          refine jp_seq [true, true, false, false, true, true, true, false, false] [true, true, false, false, true, true, true, false, true] rfl rfl rfl ?_
          refine j_region rfl ?_
          refine ops_val rfl rfl (fun _ hk => e_assign hk rfl ⟨rfl, rfl⟩) ?_
          refine ops_end rfl ?_
          refine post_seq ?_
          refine jp_ret rfl ?_
          refine post_block_ret ?_
          refine post_seq_ret ?_
          refine post_ret [.int .i64 1] (.int .i64 1) Try.results46 ⟨rfl, trivial⟩ rfl ?_
          refine ⟨E0, congrArg (Value.int .i64) ?_⟩; rw [hf]; first | rw [cmpLs_nil (by omega) (by omega) (by omega)] | rw [cmpLs_nil_l (by omega) (by omega)] | rw [cmpLs_nil_r (by omega) (by omega)]
        · replace hc20 := of_decide_eq_false hc20
          refine jp_skip rfl ?_
          refine post_block ?_
          refine post_seq ?_
          refine jp_seq [true, true, true, false] [true, true, true, true] rfl rfl rfl ?_
          refine j_region rfl ?_
          refine ops_val rfl rfl (fun _ hk => e_assign hk rfl ⟨rfl, rfl⟩) ?_
          refine ops_end rfl ?_
          refine post_seq ?_
          refine jp_ret rfl ?_
          refine post_ret [.int .i64 0] (.int .i64 0) Try.results46 ⟨rfl, trivial⟩ rfl ?_
          refine ⟨E0, congrArg (Value.int .i64) ?_⟩; rw [hf]; first | rw [cmpLs_nil (by omega) (by omega) (by omega)] | rw [cmpLs_nil_l (by omega) (by omega)] | rw [cmpLs_nil_r (by omega) (by omega)]

set_option maxHeartbeats 2000000 in
set_option maxRecDepth 100000 in
theorem refLess_spec (o : Int) (a b : RowD) (la ha lb hb : Nat) (w : World) (h1 : RLab w la ha a.lv a.ls) (h2 : RLab w lb hb b.lv b.ls) (n1 : a.ls.length ≤ 1000000000) (n2 : b.ls.length ≤ 1000000000) :
    Calls Try.prog 18 #[.int .i64 o, .agg #[a.lv, .int .i64 (a.v)], .agg #[b.lv, .int .i64 (b.v)]] w (Ret fun res w' => Ext w w' ∧ res = .bool (less o a b)) := by
  refine calls_of_J Try.func18 rfl (N := 41) rfl rfl ?_
  have top_h1 := h1.top
  have top_h2 := h2.top
  have E0 : Ext w w := Ext.rfl'
  refine jp_seq [false] [true] rfl rfl rfl ?_
  refine j_region rfl ?_
  refine ops_rel (fun r_ w' => ∃ g, r_ = .pointer (some ⟨g, 0, none⟩) ∧ New w w' g 34 [a.lv, .int .i64 (a.v)]) rfl rfl (fun _ hk => e_box hk rfl (fun g w' n => ⟨g, rfl, n⟩)) ?_
  rintro _ w2 ⟨g1, rfl, N3⟩
  have EN3 := N3.ext
  have nN3 := N3.num
  have sN3 := N3.size
  have zEN3 := EN3.size
  replace E0 := E0.trans EN3
  replace h1 := h1.ext EN3
  replace h2 := h2.ext EN3
  have b4 := N3.box
  have b4a := b4.at_
  refine ops_rel (fun r_ w' => ∃ g, r_ = .pointer (some ⟨g, 0, none⟩) ∧ New w2 w' g 34 [b.lv, .int .i64 (b.v)]) rfl rfl (fun _ hk => e_box hk rfl (fun g w' n => ⟨g, rfl, n⟩)) ?_
  rintro _ w6 ⟨g5, rfl, N7⟩
  have EN7 := N7.ext
  have nN7 := N7.num
  have sN7 := N7.size
  have zEN7 := EN7.size
  replace E0 := E0.trans EN7
  replace h1 := h1.ext EN7
  replace h2 := h2.ext EN7
  replace b4 := b4.ext EN7
  replace b4a := b4a.ext EN7
  have b8 := N7.box
  have b8a := b8.at_
  refine ops_val rfl rfl (fun _ hk => e_assign hk rfl ⟨rfl, rfl⟩) ?_
  refine ops_end rfl ?_
  refine post_seq ?_
  refine jp_seq [true, false] [true, true] rfl rfl rfl ?_
  refine jp_seq [true, false, false] [true, false, true] rfl rfl rfl ?_
  refine J.sub [(0, .int .i64 o), (1, .agg #[a.lv, .int .i64 (a.v)]), (2, .agg #[b.lv, .int .i64 (b.v)]), (4, .pointer (some ⟨g1, 0, none⟩)), (5, .pointer (some ⟨g5, 0, none⟩)), (6, .bool false)] ⟨rfl, rfl, rfl, rfl, rfl, rfl, trivial⟩ ?_
  refine j_sum 15 ((decide (o = 1) && decide (a.v ≠ b.v))) (fun _ hQ11 => ?_) (fun w9 E10 => ?_)
  · skip
    by_cases hg12 : o = 1
    · skip
      refine j_region rfl ?_
      refine ops_val rfl rfl (fun _ hk => e_move hk rfl ⟨rfl, rfl⟩) ?_
      refine ops_val rfl rfl (fun _ hk => e_eql hk rfl rfl (decide_eq_true hg12) ⟨rfl, rfl⟩) ?_
      refine ops_val rfl rfl (fun _ hk => e_move hk rfl ⟨rfl, rfl⟩) ?_
      refine ops_run rfl rfl rfl rfl rfl (fun _ hk => e_fieldAddr hk rfl (fa_34_1 _ _) ⟨rfl, rfl⟩) ?_
      refine ops_run rfl rfl rfl rfl rfl (fun _ hk => e_load1 hk rfl Try.isAgg3 (b4a.cell 1 rfl) ⟨rfl, rfl⟩) ?_
      refine ops_run rfl rfl rfl rfl rfl (fun _ hk => e_fieldAddr hk rfl (fa_34_1 _ _) ⟨rfl, rfl⟩) ?_
      refine ops_run rfl rfl rfl rfl rfl (fun _ hk => e_load1 hk rfl Try.isAgg3 (b8a.cell 1 rfl) ⟨rfl, rfl⟩) ?_
      refine ops_run rfl rfl rfl rfl rfl (fun _ hk => e_neq hk rfl rfl rfl ⟨rfl, rfl⟩) ?_
      refine ops_val rfl rfl (fun _ hk => e_pick_t hk rfl rfl ⟨rfl, rfl⟩) ?_
      refine ops_end rfl ?_
      exact Post.sub ((15, .bool ((decide (o = 1) && decide (a.v ≠ b.v)))) :: [(0, .int .i64 o), (1, .agg #[a.lv, .int .i64 (a.v)]), (2, .agg #[b.lv, .int .i64 (b.v)]), (4, .pointer (some ⟨g1, 0, none⟩)), (5, .pointer (some ⟨g5, 0, none⟩)), (6, .bool false)]) ⟨(congrArg (fun b => some (Value.bool b)) (by simp [hg12])), rfl, rfl, rfl, rfl, rfl, rfl, trivial⟩ (hQ11 _ Ext.rfl')
    · skip
      refine j_region rfl ?_
      refine ops_val rfl rfl (fun _ hk => e_move hk rfl ⟨rfl, rfl⟩) ?_
      refine ops_val rfl rfl (fun _ hk => e_eql hk rfl rfl (decide_eq_false hg12) ⟨rfl, rfl⟩) ?_
      refine ops_val rfl rfl (fun _ hk => e_move hk rfl ⟨rfl, rfl⟩) ?_
      refine ops_skip rfl rfl rfl rfl rfl ?_
      refine ops_skip rfl rfl rfl rfl rfl ?_
      refine ops_skip rfl rfl rfl rfl rfl ?_
      refine ops_skip rfl rfl rfl rfl rfl ?_
      refine ops_skip rfl rfl rfl rfl rfl ?_
      refine ops_val rfl rfl (fun _ hk => e_pick_f hk rfl rfl ⟨rfl, rfl⟩) ?_
      refine ops_end rfl ?_
      exact Post.sub ((15, .bool ((decide (o = 1) && decide (a.v ≠ b.v)))) :: [(0, .int .i64 o), (1, .agg #[a.lv, .int .i64 (a.v)]), (2, .agg #[b.lv, .int .i64 (b.v)]), (4, .pointer (some ⟨g1, 0, none⟩)), (5, .pointer (some ⟨g5, 0, none⟩)), (6, .bool false)]) ⟨(congrArg (fun b => some (Value.bool b)) (by simp [hg12])), rfl, rfl, rfl, rfl, rfl, rfl, trivial⟩ (hQ11 _ Ext.rfl')
  · skip
    have zE10 := E10.size
    replace E0 := E0.trans E10
    replace h1 := h1.ext E10
    replace h2 := h2.ext E10
    replace b4 := b4.ext E10
    replace b4a := b4a.ext E10
    replace b8 := b8.ext E10
    replace b8a := b8a.ext E10
    refine post_seq ?_
    refine jp_cond [true, false, true, false] [true, false, true, true] rfl rfl rfl rfl (fun hc13 => ?_) (fun hc13 => ?_)
    · simp only [Bool.and_eq_true, Bool.or_eq_true, Bool.not_eq_true', Bool.not_eq_false', Bool.and_eq_false_iff, Bool.or_eq_false_iff, decide_eq_true_eq, decide_eq_false_iff_not, Decidable.not_not, ne_eq] at hc13
      refine jp_seq [true, false, true, false, false] [true, false, true, false, true] rfl rfl rfl ?_
      refine j_region rfl ?_
      refine ops_val rfl rfl (fun _ hk => e_fieldAddr hk rfl (fa_34_1 _ _) ⟨rfl, rfl⟩) ?_
      refine ops_val rfl rfl (fun _ hk => e_load1 hk rfl Try.isAgg3 (b4a.cell 1 rfl) ⟨rfl, rfl⟩) ?_
      refine ops_val rfl rfl (fun _ hk => e_fieldAddr hk rfl (fa_34_1 _ _) ⟨rfl, rfl⟩) ?_
      refine ops_val rfl rfl (fun _ hk => e_load1 hk rfl Try.isAgg3 (b8a.cell 1 rfl) ⟨rfl, rfl⟩) ?_
      refine ops_val rfl rfl (fun _ hk => e_lss hk rfl rfl rfl ⟨rfl, rfl⟩) ?_
      refine ops_val rfl rfl (fun _ hk => e_assign hk rfl ⟨rfl, rfl⟩) ?_
      refine ops_end rfl ?_
      refine post_seq ?_
      refine J.sub [(0, .int .i64 o), (4, .pointer (some ⟨g1, 0, none⟩)), (5, .pointer (some ⟨g5, 0, none⟩)), (6, .bool (decide (a.v < b.v)))] ⟨rfl, rfl, rfl, rfl, trivial⟩ ?_
      refine jp_ret rfl ?_
      refine post_seq_ret ?_
      refine post_ret [.bool (decide (a.v < b.v))] (.bool (decide (a.v < b.v))) Try.results18 ⟨rfl, trivial⟩ rfl ?_
      refine ⟨E0, congrArg Value.bool ?_⟩; first | rw [less_ref1 (by omega) (by omega)] | rw [less_ref2 (by omega) (by omega)] | rw [less_ref3 (by omega) (by omega)]
    · simp only [Bool.and_eq_true, Bool.or_eq_true, Bool.not_eq_true', Bool.not_eq_false', Bool.and_eq_false_iff, Bool.or_eq_false_iff, decide_eq_true_eq, decide_eq_false_iff_not, Decidable.not_not, ne_eq] at hc13
      refine jp_skip rfl ?_
      refine post_seq ?_
      refine jp_seq [true, true, false] [true, true, true] rfl rfl rfl ?_
      refine jp_seq [true, true, false, false] [true, true, false, true] rfl rfl rfl ?_
      refine J.sub [(0, .int .i64 o), (1, .agg #[a.lv, .int .i64 (a.v)]), (2, .agg #[b.lv, .int .i64 (b.v)]), (4, .pointer (some ⟨g1, 0, none⟩)), (5, .pointer (some ⟨g5, 0, none⟩)), (6, .bool false), (15, .bool ((decide (o = 1) && decide (a.v ≠ b.v))))] ⟨rfl, rfl, rfl, rfl, rfl, rfl, rfl, trivial⟩ ?_
      refine j_sum 29 ((decide (o = 2) && decide (a.v ≠ b.v))) (fun _ hQ16 => ?_) (fun w14 E15 => ?_)
      · skip
        by_cases hg17 : o = 2
        · skip
          refine j_region rfl ?_
          refine ops_val rfl rfl (fun _ hk => e_move hk rfl ⟨rfl, rfl⟩) ?_
          refine ops_val rfl rfl (fun _ hk => e_eql hk rfl rfl (decide_eq_true hg17) ⟨rfl, rfl⟩) ?_
          refine ops_val rfl rfl (fun _ hk => e_move hk rfl ⟨rfl, rfl⟩) ?_
          refine ops_run rfl rfl rfl rfl rfl (fun _ hk => e_fieldAddr hk rfl (fa_34_1 _ _) ⟨rfl, rfl⟩) ?_
          refine ops_run rfl rfl rfl rfl rfl (fun _ hk => e_load1 hk rfl Try.isAgg3 (b4a.cell 1 rfl) ⟨rfl, rfl⟩) ?_
          refine ops_run rfl rfl rfl rfl rfl (fun _ hk => e_fieldAddr hk rfl (fa_34_1 _ _) ⟨rfl, rfl⟩) ?_
          refine ops_run rfl rfl rfl rfl rfl (fun _ hk => e_load1 hk rfl Try.isAgg3 (b8a.cell 1 rfl) ⟨rfl, rfl⟩) ?_
          refine ops_run rfl rfl rfl rfl rfl (fun _ hk => e_neq hk rfl rfl rfl ⟨rfl, rfl⟩) ?_
          refine ops_val rfl rfl (fun _ hk => e_pick_t hk rfl rfl ⟨rfl, rfl⟩) ?_
          refine ops_end rfl ?_
          exact Post.sub ((29, .bool ((decide (o = 2) && decide (a.v ≠ b.v)))) :: [(0, .int .i64 o), (1, .agg #[a.lv, .int .i64 (a.v)]), (2, .agg #[b.lv, .int .i64 (b.v)]), (4, .pointer (some ⟨g1, 0, none⟩)), (5, .pointer (some ⟨g5, 0, none⟩)), (6, .bool false), (15, .bool ((decide (o = 1) && decide (a.v ≠ b.v))))]) ⟨(congrArg (fun b => some (Value.bool b)) (by simp [hg17])), rfl, rfl, rfl, rfl, rfl, rfl, rfl, trivial⟩ (hQ16 _ Ext.rfl')
        · skip
          refine j_region rfl ?_
          refine ops_val rfl rfl (fun _ hk => e_move hk rfl ⟨rfl, rfl⟩) ?_
          refine ops_val rfl rfl (fun _ hk => e_eql hk rfl rfl (decide_eq_false hg17) ⟨rfl, rfl⟩) ?_
          refine ops_val rfl rfl (fun _ hk => e_move hk rfl ⟨rfl, rfl⟩) ?_
          refine ops_skip rfl rfl rfl rfl rfl ?_
          refine ops_skip rfl rfl rfl rfl rfl ?_
          refine ops_skip rfl rfl rfl rfl rfl ?_
          refine ops_skip rfl rfl rfl rfl rfl ?_
          refine ops_skip rfl rfl rfl rfl rfl ?_
          refine ops_val rfl rfl (fun _ hk => e_pick_f hk rfl rfl ⟨rfl, rfl⟩) ?_
          refine ops_end rfl ?_
          exact Post.sub ((29, .bool ((decide (o = 2) && decide (a.v ≠ b.v)))) :: [(0, .int .i64 o), (1, .agg #[a.lv, .int .i64 (a.v)]), (2, .agg #[b.lv, .int .i64 (b.v)]), (4, .pointer (some ⟨g1, 0, none⟩)), (5, .pointer (some ⟨g5, 0, none⟩)), (6, .bool false), (15, .bool ((decide (o = 1) && decide (a.v ≠ b.v))))]) ⟨(congrArg (fun b => some (Value.bool b)) (by simp [hg17])), rfl, rfl, rfl, rfl, rfl, rfl, rfl, trivial⟩ (hQ16 _ Ext.rfl')
      · skip
        have zE15 := E15.size
        replace E0 := E0.trans E15
        replace h1 := h1.ext E15
        replace h2 := h2.ext E15
        replace b4 := b4.ext E15
        replace b4a := b4a.ext E15
        replace b8 := b8.ext E15
        replace b8a := b8a.ext E15
        refine post_seq ?_
        refine jp_cond [true, true, false, true, false] [true, true, false, true, true] rfl rfl rfl rfl (fun hc18 => ?_) (fun hc18 => ?_)
        · simp only [Bool.and_eq_true, Bool.or_eq_true, Bool.not_eq_true', Bool.not_eq_false', Bool.and_eq_false_iff, Bool.or_eq_false_iff, decide_eq_true_eq, decide_eq_false_iff_not, Decidable.not_not, ne_eq] at hc18
          refine jp_seq [true, true, false, true, false, false] [true, true, false, true, false, true] rfl rfl rfl ?_
          refine j_region rfl ?_
          refine ops_val rfl rfl (fun _ hk => e_fieldAddr hk rfl (fa_34_1 _ _) ⟨rfl, rfl⟩) ?_
          refine ops_val rfl rfl (fun _ hk => e_load1 hk rfl Try.isAgg3 (b4a.cell 1 rfl) ⟨rfl, rfl⟩) ?_
          refine ops_val rfl rfl (fun _ hk => e_fieldAddr hk rfl (fa_34_1 _ _) ⟨rfl, rfl⟩) ?_
          refine ops_val rfl rfl (fun _ hk => e_load1 hk rfl Try.isAgg3 (b8a.cell 1 rfl) ⟨rfl, rfl⟩) ?_
          refine ops_val rfl rfl (fun _ hk => e_gtr hk rfl rfl rfl ⟨rfl, rfl⟩) ?_
          refine ops_val rfl rfl (fun _ hk => e_assign hk rfl ⟨rfl, rfl⟩) ?_
          refine ops_end rfl ?_
          refine post_seq ?_
          refine J.sub [(4, .pointer (some ⟨g1, 0, none⟩)), (5, .pointer (some ⟨g5, 0, none⟩)), (6, .bool (decide (b.v < a.v)))] ⟨rfl, rfl, rfl, trivial⟩ ?_
          refine jp_ret rfl ?_
          refine post_seq_ret ?_
          refine post_ret [.bool (decide (b.v < a.v))] (.bool (decide (b.v < a.v))) Try.results18 ⟨rfl, trivial⟩ rfl ?_
          refine ⟨E0, congrArg Value.bool ?_⟩; first | rw [less_ref1 (by omega) (by omega)] | rw [less_ref2 (by omega) (by omega)] | rw [less_ref3 (by omega) (by omega)]
        · simp only [Bool.and_eq_true, Bool.or_eq_true, Bool.not_eq_true', Bool.not_eq_false', Bool.and_eq_false_iff, Bool.or_eq_false_iff, decide_eq_true_eq, decide_eq_false_iff_not, Decidable.not_not, ne_eq] at hc18
          refine jp_skip rfl ?_
          refine post_seq ?_
          refine jp_seq [true, true, true, false] [true, true, true, true] rfl rfl rfl ?_
          refine j_region rfl ?_
          refine ops_val rfl rfl (fun _ hk => e_fieldAddr hk rfl (fa_34_0 _ _) ⟨rfl, rfl⟩) ?_
          refine ops_val rfl rfl (fun _ hk => e_load1 hk rfl Try.isAgg32 (b4a.cell 0 rfl) ⟨rfl, rfl⟩) ?_
          refine ops_val rfl rfl (fun _ hk => e_fieldAddr hk rfl (fa_34_0 _ _) ⟨rfl, rfl⟩) ?_
          refine ops_val rfl rfl (fun _ hk => e_load1 hk rfl Try.isAgg32 (b8a.cell 0 rfl) ⟨rfl, rfl⟩) ?_
          refine ops_rel _ rfl rfl (fun _ hk => e_call hk rfl Try.call46 (refCompare_spec _ _ a.ls b.ls _ _ _ _ _ h1 h2 (by omega) (by omega)) (fun _ _ h => h)) ?_
          rintro _ w19 ⟨E20, rfl⟩
          have zE20 := E20.size
          replace E0 := E0.trans E20
          replace h1 := h1.ext E20
          replace h2 := h2.ext E20
          replace b4 := b4.ext E20
          replace b4a := b4a.ext E20
          replace b8 := b8.ext E20
          replace b8a := b8a.ext E20
          refine ops_val rfl rfl (fun _ hk => e_lss hk rfl rfl rfl ⟨rfl, rfl⟩) ?_
          refine ops_val rfl rfl (fun _ hk => e_assign hk rfl ⟨rfl, rfl⟩) ?_
          refine ops_end rfl ?_
          refine post_seq ?_
          refine J.sub [(6, .bool (decide ((cmpLs a.ls b.ls) < 0)))] ⟨rfl, trivial⟩ ?_
          refine jp_ret rfl ?_
          refine post_ret [.bool (decide ((cmpLs a.ls b.ls) < 0))] (.bool (decide ((cmpLs a.ls b.ls) < 0))) Try.results18 ⟨rfl, trivial⟩ rfl ?_
          refine ⟨E0, congrArg Value.bool ?_⟩; first | rw [less_ref1 (by omega) (by omega)] | rw [less_ref2 (by omega) (by omega)] | rw [less_ref3 (by omega) (by omega)]
end Lp
