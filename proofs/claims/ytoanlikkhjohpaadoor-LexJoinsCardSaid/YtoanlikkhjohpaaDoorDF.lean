/-
  THE RULES OF THE OPERATIONS OVER DATA: those that make, write, append and call; what was owned becomes what all may read.
-/
import Derived.Test.YtoanlikkhjohpaaDoorDC
set_option linter.unusedVariables false
namespace Lp
open Go Go.RowKit

theorem mem_set_or {α : Type} {l : List α} {i : Nat} {y z : α} (h : z ∈ l.set i y) : z = y ∨ ∃ j, j ≠ i ∧ l[j]? = some z := by
  rw [List.mem_iff_getElem?] at h
  obtain ⟨j, hj⟩ := h
  rw [List.getElem?_set] at hj
  split at hj
  · split at hj
    · cases hj; exact .inl rfl
    · cases hj
  · rename_i hne; exact .inr ⟨j, fun e => hne e.symm, hj⟩

theorem pair_get {α : Type} {R : α → α → Prop} (hs : ∀ a b, R a b → R b a) {l : List α} (h : l.Pairwise R) {i j : Nat} {x y : α} (hi : l[i]? = some x) (hj : l[j]? = some y) (hne : i ≠ j) : R x y := by
  obtain ⟨h1, e1⟩ := List.getElem?_eq_some_iff.1 hi
  obtain ⟨h2, e2⟩ := List.getElem?_eq_some_iff.1 hj
  rcases Nat.lt_or_ge i j with hlt | hge
  · have := (List.pairwise_iff_getElem.1 h) i j h1 h2 hlt; rw [e1, e2] at this; exact this
  · have := (List.pairwise_iff_getElem.1 h) j i h2 h1 (by omega); rw [e1, e2] at this; exact hs _ _ this
theorem zcQ.symm {a b : Hp} (h : zcQ a b) : zcQ b a := fun g hg hg' => h g hg' hg

/-- One that is owned has turned; nothing else has. -/
theorem Good.turn {C : Ctx} {H : List Hp} {w w' : World} {F : Nat → Prop} {i : Nat} {h h' : Hp} (g : Good C H w F) (hi : nth H i = some h)
    (hupd : ∀ b, b < w.heap.size → ¬ h.blk b → w'.heap[b]? = w.heap[b]?) (hsz : w.heap.size ≤ w'.heap.size) (hos : w'.os = w.os) (htp : w'.tape = w.tape) (hout : w'.output = w.output)
    (hb : ∀ b, h'.blk b → h.blk b ∨ w.heap.size ≤ b) (ok : Keep w F w' F → h'.ok w' F) : Good C (H.set i h') w' F ∧ Keep w F w' F := by
  have hmem := zQ hi
  have hi' : H[i]? = some h := by rw [← zaW]; exact hi
  have hk : Keep w F w' F := ⟨fun _ h => h, fun b hF hlt => hupd b hlt (fun e => (g.h.mine b ⟨h, hmem, e⟩).2 hF)⟩
  have hlt' : i < H.length := (List.getElem?_eq_some_iff.1 hi').1
  refine ⟨⟨Nat.le_trans g.size hsz, hos.trans g.os, htp.trans g.tape, hout.trans g.output, fun b hb1 hn => ?_, g.fsub, g.fnew, fun b hF => Nat.lt_of_lt_of_le (g.flt b hF) hsz, ?_, ?_, ?_⟩, hk⟩
  · rw [hupd b (Nat.lt_of_lt_of_le hb1 g.size) (fun e => ?_)]
    · exact g.frame b hb1 hn
    · rcases (g.h.mine b ⟨h, hmem, e⟩).1 with h1 | h1
      · omega
      · exact hn h1
  · rw [List.pairwise_iff_getElem]
    intro a c ha hc hac
    rw [List.length_set] at ha hc
    have hold := (List.pairwise_iff_getElem.1 g.h.apart) a c ha hc hac
    have key : ∀ (x : Hp), (∃ j : Nat, j ≠ i ∧ H[j]? = some x) → zcQ h' x := by
      rintro x ⟨j, hj, hx⟩ b hb1 hb2
      rcases hb b hb1 with hb3 | hb3
      · exact pair_get (fun _ _ => zcQ.symm) g.h.apart hi' hx (fun e => hj e.symm) b hb3 hb2
      · have := Hp.lt (g.h.ok x (List.mem_of_getElem? hx)) hb2; omega
    simp only [List.getElem_set]
    by_cases e1 : i = a
    · rw [if_pos e1, if_neg (by omega)]
      exact key _ ⟨c, by omega, List.getElem?_eq_getElem hc⟩
    · rw [if_neg e1]
      by_cases e2 : i = c
      · rw [if_pos e2]
        exact zcQ.symm (key _ ⟨a, by omega, List.getElem?_eq_getElem ha⟩)
      · rw [if_neg e2]; exact hold
  · intro x hx
    rcases mem_set_or hx with rfl | ⟨j, hj, hx⟩
    · exact ok hk
    · refine Hp.keep (g.h.ok x (List.mem_of_getElem? hx)) hk (fun b hb1 => hupd b (Hp.lt (g.h.ok x (List.mem_of_getElem? hx)) hb1) (fun e => ?_))
      exact pair_get (fun _ _ => zcQ.symm) g.h.apart hi' hx (fun e => hj e.symm) b e hb1
  · rintro b ⟨x, hx, hb1⟩
    rcases mem_set_or hx with rfl | ⟨j, hj, hx⟩
    · rcases hb b hb1 with hb2 | hb2
      · exact g.h.mine b ⟨h, hmem, hb2⟩
      · exact ⟨.inl (Nat.le_trans g.size hb2), fun hF => by have := g.flt b hF; omega⟩
    · exact g.h.mine b ⟨x, List.mem_of_getElem? hx, hb1⟩

/-- One more is owned. -/
theorem Good.more {C : Ctx} {H : List Hp} {w : World} {F : Nat → Prop} {h : Hp} (g : Good C H w F) (ok : h.ok w F) (hb : ∀ b, h.blk b → C.w0.heap.size ≤ b ∧ ¬ F b ∧ ¬ blks H b) : Good C (h :: H) w F :=
  { g with h := ⟨List.pairwise_cons.2 ⟨fun x hx b e e' => (hb b e).2.2 ⟨x, hx, e'⟩, g.h.apart⟩, fun x hx => by
      cases hx with
      | head => exact ok
      | tail _ hm => exact g.h.ok x hm,
    fun b ⟨x, hx, e⟩ => by
      cases hx with
      | head => exact ⟨.inl (hb b e).1, (hb b e).2.1⟩
      | tail _ hm => exact g.h.mine b ⟨x, hm, e⟩⟩ }
theorem zcH {w : World} {F A : Nat → Prop} {H : List Hp} (h : HOk w F A H) {b : Nat} (hb : blks H b) : b < w.heap.size := by
  obtain ⟨x, hx, e⟩ := hb; exact Hp.lt (h.ok x hx) e
theorem Good.born {C : Ctx} {H : List Hp} {w w' : World} {F : Nat → Prop} {g : Nat} {T : TypeId} {cs : List Value} {h : Hp} (gd : Good C H w F) (n : New w w' g T cs) (ok : h.ok w' F) (hb : ∀ b, h.blk b → b = g) : Good C (h :: H) w' F := by
  refine (gd.ext n.ext).more ok (fun b e => ?_)
  have := hb b e; subst this
  have hn := n.num
  have hs := gd.size
  exact ⟨by omega, fun hF => by have := gd.flt _ hF; omega, fun hB => by have := zcH gd.h hB; omega⟩

section
variable {P : Program} {ty : TypeId} {K : Kd} {H : List Hp}

theorem za7 {t : TypeId} {zv : Value} {X : D} (hz : ∀ w, (zeroValue t).run P w = .ok zv w) (h1 : zbB zv.cells.toList) (hX : Cv (.v zv) X) : Ef P (.alloc t) ty K H (fun d H' => ∃ g, d = .v (.pointer (some ⟨g, 0, none⟩)) ∧ H' = .bx g t X :: H) :=
  ⟨fun C ρ w F hk gd => e_alloc hz fun g w' n => by
    refine ⟨F, _, _, ⟨g, rfl, rfl⟩, rfl, gd.born n ⟨zv, hX.out _ _ _ rfl, h1.all, ?_⟩ (fun b e => by cases e; rfl), Keep.ext n.ext⟩
    have := n.box; unfold Box at this; simpa using this⟩

def splD (X : D) (o : Nat) (d : D) : Option D := match X, d with
  | .agg cs, d => some (.agg (zcu cs o d.cells))
  | .v (.agg _), _ => none
  | _, .agg _ => none
  | _, .v (.agg _) => none
  | _, d => some d
theorem splD_rep {w : World} {F : Nat → Prop} {X d X' : D} {o : Nat} {u v : Value} (hX : splD X o d = some X') (hu : D.rep w F X u) (hu1 : One u) (hv : D.rep w F d v) (hv1 : One v) (ho : o + d.cells.length ≤ X.cells.length) : ∃ u', D.rep w F X' u' ∧ One u' ∧ vcs u' = spl (vcs u) o (vcs v) := by
  have hcu := D.rep_cells hu hu1
  have hcv := D.rep_cells hv hv1
  have hlu := zaZ hcu
  have hlv := zaZ hcv
  have gen : ∀ cs, X = .agg cs → X' = .agg (zcu cs o d.cells) → ∃ u', D.rep w F X' u' ∧ One u' ∧ vcs u' = spl (vcs u) o (vcs v) := by
    rintro cs rfl rfl
    have hh : D.repL w F (zcu cs o d.cells) (spl (vcs u) o (vcs v)) := by
      unfold zcu spl
      rw [hlv]
      exact zch (zch (zbX o hcu) hcv) (zbY _ hcu)
    exact ⟨.agg (spl (vcs u) o (vcs v)).toArray, ⟨_, rfl, hh⟩, fun c hc => repL_one hh c (by simpa [Value.cells] using hc), by simp [vcs, Value.cells]⟩
  have one : X.cells.length = 1 → d.cells.length = 1 → X' = d → ∃ u', D.rep w F X' u' ∧ One u' ∧ vcs u' = spl (vcs u) o (vcs v) := by
    rintro h1 h2 rfl
    refine ⟨v, hv, hv1, ?_⟩
    have : o = 0 := by omega
    subst this
    unfold spl
    rw [List.take_zero, List.nil_append, List.drop_eq_nil_of_le (by omega), List.append_nil]
  cases X with
  | agg cs => exact gen cs rfl (by simp only [splD, Option.some.injEq] at hX; exact hX.symm)
  | v a =>
    cases a <;> cases d <;> (try (rename_i b; cases b)) <;> simp only [splD, Option.some.injEq, reduceCtorEq] at hX <;> exact one rfl rfl hX.symm
  | _ => cases d <;> (try (rename_i b; cases b)) <;> simp only [splD, Option.some.injEq, reduceCtorEq] at hX <;> exact one rfl rfl hX.symm

theorem Upd.only {w w' : World} {g : Nat} (U : Upd g (g + 1) w w') : ∀ b, b < w.heap.size → ¬ g = b → w'.heap[b]? = w.heap[b]? := fun b hb hn => U.block b hb (by omega)

theorem zI {t : TypeId} {x y : Operand} {g o n i : Nat} {T : TypeId} {X X' d : D} (hx : opD K x = some (.v (.pointer (some ⟨g, o, none⟩)))) (hm : nth H i = some (.bx g T X)) (hy : opD K y = some d) (hc : CellD H d)
    (hs : ∀ w, (Go.sizeOf t).run P w = .ok n w) (hn : Nat.beq d.cells.length n = true) (ho : Nat.ble (o + n) X.cells.length = true) (hX : splD X o d = some X') : Ef P (.store t x y) ty K H (fun r H' => r = .v undef ∧ H' = H.set i (.bx g T X')) :=
  ⟨fun C ρ w F hk gd => by
    have hn := Nat.eq_of_beq_eq_true hn
    have ho := Nat.le_of_ble_eq_true ho
    have hr := hk.op hy
    have h1 := hc.out w F _ gd.h.ok hr
    obtain ⟨u, hu, hu1, hbx⟩ := gd.h.ok _ (zQ hm)
    have hcu := zaZ (D.rep_cells hu hu1)
    have hcv := zaZ (D.rep_cells hr h1)
    obtain ⟨u', e1, e2, e3⟩ := splD_rep hX hu hu1 hr h1 (by omega)
    have hsz : (ev ρ y).cells.size = n := by rw [← hn, ← hcv]; simp [vcs]
    refine e_store (g := g) (o := o) (T := T) (cs := vcs u) (v := ev ρ y) (zy ρ [x, y]) (za3 ρ (hk.op hx)) (za2 ρ rfl) (by rw [hsz]; exact hs) (by unfold Box; simpa [vcs] using hbx) (by show o + (vcs (ev ρ y)).length ≤ _; omega)
      (by have : ∀ l : List Value, (∀ c ∈ l, c.oneCell' = true) → zbB l := by
            intro l; induction l with
            | nil => exact fun _ => trivial
            | cons a r ih => exact fun h => ⟨h a List.mem_cons_self, ih fun c hc => h c (List.mem_cons_of_mem _ hc)⟩
          exact this _ h1) (fun w' b1 b2 b3 => ?_)
    have := gd.turn (h' := .bx g T X') hm (Upd.only b2) b2.size b2.os b2.tape b2.output (fun b e => .inl e) (fun k => ⟨u', D.keep k _ _ e1, e2, by
      have b1' : Box w' g T (vcs u') := by rw [e3]; exact b1
      unfold Box at b1'; simpa [vcs] using b1'⟩)
    exact ⟨F, .v undef, _, ⟨rfl, rfl⟩, rfl, this.1, this.2⟩⟩

/-- Something that reads as a list of elements, to be copied. -/
structure SrcD (H : List Hp) (z : Nat) (d : D) (ys : List D) : Prop where
  out : ∀ w F u, (∀ b, F b → b < w.heap.size) → (∀ h ∈ H, h.ok w F) → D.rep w F d u → ∃ us, RepE w F z ys us ∧ SlT vcs z w 0 w.heap.size u us
theorem SrcD.sh {z : Nat} {ys : List D} : SrcD H z (.sh z ys) ys := ⟨fun w F u hF _ hr => by obtain ⟨us, h1, h2, _⟩ := D.rep_sl hF hr; exact ⟨us, h1, h2⟩⟩
theorem SrcD.own {z j : Nat} {v : Value} {d : D} {T : TypeId} {ys : List D} (hm : nth H j = some (.sl v z T ys)) (hd : asO d = some v) : SrcD H z d ys := ⟨fun w F u hF hH hr => by
  obtain ⟨us, h1, h2⟩ := hH _ (zQ hm)
  have : u = v := asO_rep hr hd
  subst this
  exact ⟨us, h1, h2.sl⟩⟩
theorem SrcD.cut {z j a b : Nat} {v : Value} {T : TypeId} {ys : List D} (hm : nth H j = some (.sl v z T ys)) (hab : a ≤ b) (hb : b ≤ ys.length) : SrcD H z (.v (cut z v a b)) ((ys.take b).drop a) := ⟨fun w F u hF hH hr => by
  obtain ⟨us, h1, h2⟩ := hH _ (zQ hm)
  have : u = _ := hr
  subst this
  have hl := h1.len
  exact ⟨_, (h1.take b).drop a, h2.sl.cut a b hab (by omega)⟩⟩

theorem ef_append {t : TypeId} {x y : Operand} {z bytes i : Nat} {v zv : Value} {T : TypeId} {xs ys : List D} {d : D} (hx : opO K x = some v) (hm : nth H i = some (.sl v z T xs)) (hy : opD K y = some d) (hsrc : SrcD H z d ys) (ht : P.underlying t = some (.slice T))
    (hi' : ∃ i, P.info? T = some i ∧ i.zero = some zv ∧ i.size = z ∧ i.bytes = bytes) (hzs : zv.cells.size = z) (hsz : Nat.blt 0 z = true) (hlen : xs.length + ys.length ≤ maxLen) (hbytes : (xs.length + ys.length) * bytes ≤ 140737488355328) :
    Ef P (.call { callee := .builtin .append, args := #[x, y], argTypes := #[t, t] }) ty K H (fun d H' => ∃ v', d = .ov v' ∧ H' = H.set i (.sl v' z T (xs ++ ys))) :=
  ⟨fun C ρ w F hk gd => by
    obtain ⟨us, hus, hown⟩ := gd.h.ok _ (zQ hm)
    obtain ⟨vs, hvs, hsl⟩ := hsrc.out w F _ gd.flt gd.h.ok (hk.op hy)
    have hul := hus.len
    have hvl := hvs.len
    refine e_append (α := Value) (cs := vcs) (z := z) (E := T) (base := 0) (xs := us) (ys := vs) (zy ρ [x, y]) (za3 ρ (hk.opO hx)) (za2 ρ rfl) ht hi' hzs (zaR.1 hsz) hown hsl (fun u hu => ?_) (by omega) (by rw [hul, hvl]; exact hbytes) (Nat.zero_le _) (fun v' w' h1 h2 h3 => ?_)
    · have := hvs.one u hu
      have gen : ∀ l : List Value, (∀ c ∈ l, c.oneCell' = true) → zbB l := by
        intro l; induction l with
        | nil => exact fun _ => trivial
        | cons a r ih => exact fun h => ⟨h a List.mem_cons_self, ih fun c hc => h c (List.mem_cons_of_mem _ hc)⟩
      exact gen _ this
    · obtain ⟨a, b, U, hU⟩ := h2
      have := gd.turn (h' := .sl v' z T (xs ++ ys)) hm (fun c hc hn => U.block c hc (by
        rcases hU with ⟨rfl, rfl⟩ | ⟨h4, rfl, _⟩
        · exact .inr (Nat.zero_le _)
        · have : a ≠ c := fun e => hn (by subst e; exact h4)
          omega)) U.size U.os U.tape U.output (fun c e => by
        rcases h3 with h3 | h3
        · exact .inl (by show v.ownBlock = _; rw [← h3]; exact e)
        · have e' : v'.ownBlock = some c := e
          rw [h3] at e'; cases e'; exact .inr (Nat.le_refl _)) (fun kp => ⟨us ++ vs, (hus.keep kp).app (hvs.keep kp), h1⟩)
      exact ⟨F, .ov v', _, ⟨v', rfl, rfl⟩, ⟨rfl, h1.one⟩, this.1, this.2⟩⟩

theorem CellDs.ones {w : World} {F : Nat → Prop} (hH : ∀ h ∈ H, h.ok w F) {z : Nat} : ∀ {ds : List D} {vs : List Value}, CellDs H ds → D.repA w F ds vs → (∀ d ∈ ds, d.cells.length = z) → RepE w F z ds vs ∧ zcI z vs (vs.map vcs)
  | [], _, _, rfl, _ => ⟨rfl, trivial⟩
  | x :: r, _, .cons hc hcs, ⟨u, us, rfl, h1, h2⟩, hz => by
    have h := hc.out w F u hH h1
    have hl := zaZ (D.rep_cells h1 h)
    have hx := hz x List.mem_cons_self
    obtain ⟨e1, e2⟩ := CellDs.ones hH hcs h2 (fun d hd => hz d (List.mem_cons_of_mem _ hd))
    exact ⟨⟨u, us, rfl, h1, h, by have : (vcs u).length = z := by omega
                                  simpa [vcs] using this, e1⟩, by simp [vcs], by omega, e2⟩
def zcY (z : Nat) : List D → Bool
  | [] => true
  | d :: r => Nat.beq d.cells.length z && zcY z r
theorem allLen_out {z : Nat} : ∀ {ds : List D}, zcY z ds = true → ∀ d ∈ ds, d.cells.length = z
  | [], _, _, h => by cases h
  | d :: r, e, x, h => by
    simp only [zcY, Bool.and_eq_true] at e
    cases h with
    | head => exact Nat.eq_of_beq_eq_true e.1
    | tail _ hm => exact allLen_out e.2 x hm

theorem zP {t e len z : Nat} {ps : Array (Nat × Operand)} {zv : Value} (xs : List Operand) {ds : List D} (hp : ps.toList = (xs.zipIdx 0).map fun x => (x.2, x.1)) (hx : opsD K xs = some ds) (hc : CellDs H ds) (hal : zcY z ds = true)
    (ht : ∀ w, (underlying t).run P w = .ok (.slice e) w) (hs : ∀ w, (Go.sizeOf e).run P w = .ok z w) (hzv : ∀ w, (zeroValue e).run P w = .ok zv w) (hlen : Nat.beq ds.length len = true) (hz : Nat.blt 0 z = true) (hsm : Nat.ble (len * z) 1000 = true) (hl0 : Nat.blt 0 len = true) :
    Ef P (.buildSlice t len ps) ty K H (fun d H' => ∃ g, d = .ov (.slice (some ⟨g, 0, none⟩) len len) ∧ H' = .sl (.slice (some ⟨g, 0, none⟩) len len) z e ds :: H) :=
  ⟨fun C ρ w F hk gd => by
    have hr := zco hk hx
    have hdl := repA_len hr
    have hlen := Nat.eq_of_beq_eq_true hlen
    have hsm' := Nat.le_of_ble_eq_true hsm
    have hlz : len ≤ 1000 := Nat.le_trans (Nat.le_mul_of_pos_right _ (zaR.1 hz)) hsm'
    obtain ⟨h1, h2⟩ := CellDs.ones gd.h.ok hc hr (allLen_out hal)
    refine e_buildSlice xs ((xs.map (ev ρ)).map vcs) (zy ρ xs) hp (zb2 ρ xs xs (fun _ h => h)) ht hs hzv (by omega) hz hsm hl0 h2 (fun g w' n => ?_)
    refine ⟨F, _, _, ⟨g, rfl, rfl⟩, ⟨rfl, rfl⟩, gd.born n ⟨xs.map (ev ρ), h1.keep (Keep.ext n.ext), ?_⟩ (fun b e => by cases e; rfl), Keep.ext n.ext⟩
    have := Box.own (base := 0) (cs := vcs) (z := z) (xs := xs.map (ev ρ)) n.box (Nat.zero_le _) (by rw [← List.flatMap_def]) h1.size (by unfold maxLen; omega)
    rw [show (xs.map (ev ρ)).length = len by omega] at this
    exact this⟩

/-! ### calls -/

/-- What a datum reads as, when what L owns may be read by all. -/
structure ArgC (L : List Hp) (d d' : D) : Prop where
  out : ∀ w F u, (∀ b, F b → b < w.heap.size) → (∀ h ∈ L, h.ok w F) → D.rep w F d u → D.rep w (fun b => F b ∨ blks L b) d' u
theorem Keep.wide {w : World} {F : Nat → Prop} (B : Nat → Prop) : Keep w F w (fun b => F b ∨ B b) := ⟨fun _ h => .inl h, fun _ _ _ => rfl⟩
theorem ArgC.cv {L : List Hp} {d d' : D} (h : Cv d d') : ArgC L d d' := ⟨fun w F u _ _ hr => D.keep (Keep.wide _) _ _ (h.out _ _ _ hr)⟩
theorem ArgC.id {L : List Hp} {d : D} : ArgC L d d := ArgC.cv Cv.rfl'
theorem ArgC.own {L : List Hp} {z j : Nat} {v : Value} {T : TypeId} {ys : List D} (hm : nth L j = some (.sl v z T ys)) {d : D} (hd : asO d = some v) : ArgC L d (.sh z ys) := ⟨fun w F u hF hL hr => by
  obtain ⟨us, h1, h2⟩ := hL _ (zQ hm)
  have : u = v := asO_rep hr hd
  subst this
  have hmx : us.length ≤ maxLen := by
    rcases h2.1.2 with ⟨_, h0⟩ | ⟨g, cap, cur, _, _, _, h3, h4, _⟩
    · rw [h0]; exact Nat.zero_le _
    · omega
  exact D.sl_rep (h1.keep (Keep.wide _)) h2.sl (fun _ g hg => .inr ⟨_, zQ hm, hg⟩) hmx⟩
theorem ArgC.cut {L : List Hp} {z j a b : Nat} {v : Value} {T : TypeId} {ys : List D} (hm : nth L j = some (.sl v z T ys)) (hab : a ≤ b) (hb : b ≤ ys.length) : ArgC L (.v (cut z v a b)) (.sh z ((ys.take b).drop a)) := ⟨fun w F u hF hL hr => by
  obtain ⟨us, h1, h2⟩ := hL _ (zQ hm)
  have : u = _ := hr
  subst this
  have hl := h1.len
  have hmx : us.length ≤ maxLen := by
    rcases h2.1.2 with ⟨_, h0⟩ | ⟨g, cap, cur, _, _, _, h3, h4, _⟩
    · rw [h0]; exact Nat.zero_le _
    · omega
  refine D.sl_rep (((h1.take b).drop a).keep (Keep.wide _)) (h2.sl.cut a b hab (by omega)) (fun _ g hg => .inr ⟨_, zQ hm, ?_⟩) (by simp only [List.length_drop, List.length_take]; omega)
  show v.ownBlock = some g
  rcases h2.1.2 with ⟨rfl, _⟩ | ⟨g', cap, cur, rfl, _⟩
  · simp only [Lp.cut] at hg; split at hg <;> cases hg
  · simp only [Lp.cut] at hg
    split at hg
    · exact hg
    · simp only [Option.map_some, Value.ownBlock, Addr.add] at hg ⊢
      split at hg <;> exact hg⟩
theorem ArgC.box {L : List Hp} {j g o : Nat} {T : TypeId} {X : D} (hm : nth L j = some (.bx g T X)) : ArgC L (.v (.pointer (some ⟨g, o, none⟩))) (.el X o) := ⟨fun w F u hF hL hr => by
  obtain ⟨u', h1, h2, h3⟩ := bx_at (hL _ (zQ hm))
  have : u = _ := hr
  subst this
  exact ⟨g, 0, u', by rw [Nat.zero_add], .inr ⟨_, zQ hm, rfl⟩, D.keep (Keep.wide _) _ _ h1, h2, h3⟩⟩
theorem ArgC.elem {L : List Hp} {z j k o : Nat} {v : Value} {T : TypeId} {ys : List D} {X : D} (hm : nth L j = some (.sl v z T ys)) (hX : ys[k]? = some X) : ArgC L (.v (.pointer (some ⟨bl v, k * z + o, none⟩))) (.el X o) := ⟨fun w F u hF hL hr => by
  obtain ⟨u', h1, h2, h3, n, c, hv, _⟩ := sl_at (hL _ (zQ hm)) hX
  have : u = _ := hr
  subst this
  exact ⟨bl v, k * z, u', rfl, .inr ⟨_, zQ hm, by show v.ownBlock = _; rw [hv]; rfl⟩, D.keep (Keep.wide _) _ _ h1, h2, h3⟩⟩
inductive ArgCs (L : List Hp) : List D → List D → Prop
  | nil : ArgCs L [] []
  | cons {d d' : D} {r r' : List D} : ArgC L d d' → ArgCs L r r' → ArgCs L (d :: r) (d' :: r')
theorem ArgCs.repA {L : List Hp} {w : World} {F : Nat → Prop} (hF : ∀ b, F b → b < w.heap.size) (hL : ∀ h ∈ L, h.ok w F) {ds ds' : List D} (h : ArgCs L ds ds') : ∀ {vs : List Value}, D.repA w F ds vs → D.repA w (fun b => F b ∨ blks L b) ds' vs := by
  induction h with
  | nil => exact fun h => h
  | cons hd _ ih => rintro _ ⟨u, us, rfl, h2, h3⟩; exact ⟨u, us, rfl, hd.out _ _ _ hF hL h2, ih h3⟩
theorem ArgCs.repL {L : List Hp} {w : World} {F : Nat → Prop} (hF : ∀ b, F b → b < w.heap.size) (hL : ∀ h ∈ L, h.ok w F) {ds ds' : List D} (h : ArgCs L ds ds') : ∀ {vs : List Value}, D.repL w F ds vs → D.repL w (fun b => F b ∨ blks L b) ds' vs := by
  induction h with
  | nil => exact fun h => h
  | cons hd _ ih => rintro _ ⟨u, us, rfl, h1, h2, h3⟩; exact ⟨u, us, rfl, h1, hd.out _ _ _ hF hL h2, ih h3⟩
theorem ArgC.agg {L : List Hp} {cs cs' : List D} (h : ArgCs L cs cs') : ArgC L (.agg cs) (.agg cs') := ⟨fun _ _ _ hF hL ⟨vs, e, hl⟩ => ⟨vs, e, h.repL hF hL hl⟩⟩
theorem ArgC.tup {L : List Hp} {cs cs' : List D} (h : ArgCs L cs cs') : ArgC L (.tup cs) (.tup cs') := ⟨fun _ _ _ hF hL ⟨vs, e, hl⟩ => ⟨vs, e, h.repA hF hL hl⟩⟩
theorem ArgC.ifc {L : List Hp} {t : TypeId} {d d' : D} (h : ArgC L d d') : ArgC L (.ifc t d) (.ifc t d') := ⟨fun _ _ _ hF hL ⟨u, e, hr⟩ => ⟨u, e, h.out _ _ _ hF hL hr⟩⟩
theorem ArgC.fn {L : List Hp} {f : FuncId} {a a' b b' : List D} (h : ArgCs L a a') (k : ArgCs L b b') : ArgC L (.fn f a b) (.fn f a' b') := ⟨fun _ _ _ hF hL ⟨us, vs, e, h1, h2⟩ => ⟨us, vs, e, h.repA hF hL h1, k.repA hF hL h2⟩⟩

/-- What is owned holds data without memory. -/
def Hp.flat : Hp → Bool
  | .sl _ _ _ xs => D.flat.flatL xs
  | .bx _ _ x => x.flat
  | .it _ _ _ => true
  | .tab _ _ => false
  | .slo _ _ _ xs => D.flat.flatL xs
  | .sl2 _ _ _ _ _ xs => D.flat.flatL xs
theorem Hp.flat_ok {w : World} {F F' : Nat → Prop} {h : Hp} (hf : h.flat = true) (ok : h.ok w F) : h.ok w F' := by
  cases h with
  | sl v z T xs => obtain ⟨us, h1, h2⟩ := ok; exact ⟨us, RepE.flat hf h1, h2⟩
  | bx g T x => obtain ⟨u, h1, h2⟩ := ok; exact ⟨u, D.flat_rep _ _ hf h1, h2⟩
  | it g s p => exact ok
  | tab g cs => exact absurd hf (by simp [Hp.flat])
  | slo u z T xs => obtain ⟨us, h1, h2⟩ := ok; exact ⟨us, RepE.flat hf h1, h2⟩
  | sl2 v0 v z T m xs => obtain ⟨us, h1, h2⟩ := ok; exact ⟨us, RepE.flat hf h1, h2⟩

/-- A call: the callee gets Hp; what else is owned (L) it may read; then, unless L is nothing, what it hands back holds no memory of others. -/
theorem call_core {f : FuncId} {Hp1 Hr L : List Hp} {ds0 ds : List D} {R : D → List Hp → Prop} {C : Ctx} {w : World} {F : Nat → Prop} {vs : List Value} (hcall : CD P f Hp1 ds R) (gd : Good C (Hp1 ++ Hr) w F) (hL : ∀ h ∈ L, h ∈ Hr) (hr : D.repA w F ds0 vs) (ha : ArgCs L ds0 ds)
    (hfl : L = [] ∨ ∀ d H', R d H' → d.flat = true ∧ ∀ h ∈ H', h.flat = true) :
    Calls P f vs.toArray w (Ret fun u w' => ∃ F' d H1, R d H1 ∧ D.rep w' F' d u ∧ Good C (H1 ++ Hr) w' F' ∧ Keep w F w' F') := by
  have hap := List.pairwise_append.1 gd.h.apart
  have hokR : ∀ h ∈ Hr, h.ok w F := fun h hh => gd.h.ok h (List.mem_append_right _ hh)
  have hokL : ∀ h ∈ L, h.ok w F := fun h hh => hokR h (hL h hh)
  have hblkL : ∀ b, blks L b → blks Hr b := fun b ⟨h, hh, e⟩ => ⟨h, hL h hh, e⟩
  have hRlt : ∀ b, blks Hr b → b < w.heap.size := fun b ⟨h, hh, e⟩ => Hp.lt (hokR h hh) e
  have hdis : ∀ b, blks Hp1 b → ¬ blks Hr b := fun b ⟨h, hh, e⟩ ⟨h', hh', e'⟩ => hap.2.2 h hh h' hh' b e e'
  have hmine : ∀ b, blks Hp1 b → (C.w0.heap.size ≤ b ∨ C.Bor b) ∧ ¬ F b := fun b ⟨h, hh, e⟩ => gd.h.mine b ⟨h, List.mem_append_left _ hh, e⟩
  have hmineR : ∀ b, blks Hr b → (C.w0.heap.size ≤ b ∨ C.Bor b) ∧ ¬ F b := fun b ⟨h, hh, e⟩ => gd.h.mine b ⟨h, List.mem_append_right _ hh, e⟩
  have hF' : ∀ b, (F b ∨ blks L b) → b < w.heap.size := by
    rintro b (h | h)
    · exact gd.flt b h
    · exact hRlt b (hblkL b h)
  have hHOk : HOk w (fun b => F b ∨ blks L b) (fun _ => True) Hp1 := ⟨hap.1, fun h hh => Hp.keep (gd.h.ok h (List.mem_append_left _ hh)) (Keep.wide _) (fun _ _ => rfl), fun b hb => ⟨trivial, fun h => by
    rcases h with h | h
    · exact (hmine b hb).2 h
    · exact hdis b hb (hblkL b h)⟩⟩
  refine (hcall.out w (fun b => F b ∨ blks L b) vs (ha.repA gd.flt hokL hr) hF' hHOk).mono ?_
  rintro e w' ⟨u, rfl, F1, d, H1, hR, hrep, g1⟩
  refine ⟨u, rfl, ?_⟩
  -- the blocks that are shared behind the call: without those lent
  have key : ∀ F2 : Nat → Prop, (∀ b, F2 b → F1 b) → (∀ b, F b → F2 b) → (∀ b, F2 b → ¬ blks Hr b) → D.rep w' F2 d u → (∀ h ∈ H1, h.ok w' F2) → ∃ F' d H1, R d H1 ∧ D.rep w' F' d u ∧ Good C (H1 ++ Hr) w' F' ∧ Keep w F w' F' := by
    intro F2 h21 hF2 hnR hrep2 hok2
    have hkeep : Keep w F w' F2 := ⟨hF2, fun b hb hlt => g1.frame b hlt (fun hB => (hmine b hB).2 hb)⟩
    refine ⟨F2, d, H1, hR, hrep2, ⟨Nat.le_trans gd.size g1.size, g1.os.trans gd.os, g1.tape.trans gd.tape, g1.output.trans gd.output, fun b hb hn => ?_, fun b hb => hF2 b (gd.fsub b hb), fun b hb => ?_, fun b hb => g1.flt b (h21 b hb), ?_, ?_, ?_⟩, hkeep⟩
    · have : ¬ blks Hp1 b := fun hB => by
        rcases (hmine b hB).1 with h | h
        · omega
        · exact hn h
      exact (g1.frame b (Nat.lt_of_lt_of_le hb gd.size) this).trans (gd.frame b hb hn)
    · rcases g1.fnew b (h21 b hb) with h | h | h
      · rcases h with h | h
        · exact gd.fnew b h
        · exact absurd (hblkL b h) (hnR b hb)
      · exact .inr (.inl (Nat.le_trans gd.size h))
      · rcases (hmine b h).1 with h' | h'
        · exact .inr (.inl h')
        · exact .inr (.inr h')
    · refine List.pairwise_append.2 ⟨g1.h.apart, hap.2.1, fun h hh h' hh' b e e' => ?_⟩
      have hlt := hRlt b ⟨h', hh', e'⟩
      rcases (g1.h.mine b ⟨h, hh, e⟩).1 with h1 | h1
      · have h1 : w.heap.size ≤ b := h1
        omega
      · exact hdis b h1 ⟨h', hh', e'⟩
    · intro h hh
      rcases List.mem_append.1 hh with hh | hh
      · exact hok2 h hh
      · exact Hp.keep (hokR h hh) hkeep (fun b hb => g1.frame b (hRlt b ⟨h, hh, hb⟩) (fun hB => hdis b hB ⟨h, hh, hb⟩))
    · rintro b ⟨h, hh, e⟩
      rcases List.mem_append.1 hh with hh | hh
      · refine ⟨?_, fun h2 => (g1.h.mine b ⟨h, hh, e⟩).2 (h21 b h2)⟩
        rcases (g1.h.mine b ⟨h, hh, e⟩).1 with h1 | h1
        · exact .inl (Nat.le_trans gd.size h1)
        · exact (hmine b h1).1
      · exact ⟨(hmineR b ⟨h, hh, e⟩).1, fun h2 => hnR b h2 ⟨h, hh, e⟩⟩
  have hsub1 : ∀ b, F b → F1 b := fun b hb => g1.fsub b (.inl hb)
  rcases hfl with rfl | hfl
  · refine key F1 (fun _ h => h) hsub1 (fun b hb hB => ?_) hrep g1.h.ok
    rcases g1.fnew b hb with h | h | h
    · rcases h with h | ⟨_, h, _⟩
      · exact (hmineR b hB).2 h
      · cases h
    · have := hRlt b hB
      have h : w.heap.size ≤ b := h
      omega
    · exact hdis b h hB
  · obtain ⟨f1, f2⟩ := hfl d H1 hR
    refine key (fun b => F1 b ∧ ¬ blks Hr b) (fun _ h => h.1) (fun b hb => ⟨hsub1 b hb, fun hB => (hmineR b hB).2 hb⟩) (fun _ h => h.2) (D.flat_rep d u f1 hrep) (fun h hh => Hp.flat_ok (f2 h hh) (g1.h.ok h hh))

theorem zr {f : FuncId} {args : Array Operand} {ats : Array TypeId} (Hp1 Hr L : List Hp) {ds0 ds : List D} {R : D → List Hp → Prop} (hH : H = Hp1 ++ Hr) (hargs : opsD K args.toList = some ds0) (ha : ArgCs L ds0 ds) (hL : ∀ h ∈ L, h ∈ Hr)
    (hc : ∀ args w, (callFunc f args).run P w = .ok (.enter f args) w) (hcall : CD P f Hp1 ds R) (hfl : L = [] ∨ ∀ d H', R d H' → d.flat = true ∧ ∀ h ∈ H', h.flat = true) :
    Ef P (.call { callee := .value (.func f), args := args, argTypes := ats }) ty K H (fun d H' => ∃ H1, R d H1 ∧ H' = H1 ++ Hr) :=
  ⟨fun C ρ w F hk gd => by
    subst hH
    refine e_call (zy ρ args.toList) (zb2 ρ args.toList args.toList (fun _ h => h)) hc (call_core hcall gd hL (zco hk hargs) ha hfl) (fun u w' ⟨F', d, H1, h1, h2, h3, h4⟩ => ⟨F', d, _, ⟨H1, h1, rfl⟩, h2, h3, h4⟩)⟩

theorem ArgCs.repE {L : List Hp} {w : World} {F : Nat → Prop} {z : Nat} (hF : ∀ b, F b → b < w.heap.size) (hL : ∀ h ∈ L, h.ok w F) {ds ds' : List D} (h : ArgCs L ds ds') : ∀ {vs : List Value}, RepE w F z ds vs → RepE w (fun b => F b ∨ blks L b) z ds' vs := by
  induction h with
  | nil => exact fun h => h
  | cons hd _ ih => rintro _ ⟨u, us, rfl, h2, h3, h4, h5⟩; exact ⟨u, us, rfl, hd.out _ _ _ hF hL h2, h3, h4, ih h5⟩
/-- Contracts. -/
theorem CD.mono {f : FuncId} {ds : List D} {R R' : D → List Hp → Prop} (h : CD P f H ds R) (hR : ∀ d H', R d H' → R' d H') : CD P f H ds R' :=
  ⟨fun w F vs h1 h2 h3 => (h.out w F vs h1 h2 h3).mono fun e w' ⟨u, he, F', d, H', h4, h5⟩ => ⟨u, he, F', d, H', hR _ _ h4, h5⟩⟩

end
end Lp
/-
  A REGION THAT DRAWS ITS ORDER, over data: quiet operations in any order that the edges allow; those that turn what is owned one behind the other; the last ones in order.
-/
set_option linter.unusedVariables false
namespace Lp
open Go Go.RowKit

/-- What all may read, and what is new. -/
def FN (F : Nat → Prop) (w w' : World) (b : Nat) : Prop := F b ∨ (w.heap.size ≤ b ∧ b < w'.heap.size)

/-- An operation that only makes memory. -/
structure Qu (P : Program) (op : Op) (ty : TypeId) (K : Kd) (H : List Hp) (d : D) : Prop where
  out : ∀ ρ w F, KOk w F ρ K → (∀ b, F b → b < w.heap.size) → (∀ h ∈ H, h.ok w F) → EOp P op ty ρ w (fun u w' => Ext w w' ∧ D.rep w' (FN F w w') d u)

section
variable {P : Program} {ty : TypeId} {K : Kd} {H : List Hp} {op : Op}

theorem Pu.qu {d : D} (h : Pu P op ty K H d) : Qu P op ty K H d :=
  ⟨fun ρ w F hk hF hH => (h.out ρ w F hk hF hH).mono fun _ _ ⟨e, hr⟩ => by subst e; exact ⟨Ext.rfl', D.keep ⟨fun _ h => .inl h, fun _ _ _ => rfl⟩ _ _ hr⟩⟩

theorem Good.fn {C : Ctx} {H : List Hp} {w w' : World} {F : Nat → Prop} (g : Good C H w F) (E : Ext w w') : Good C H w' (FN F w w') ∧ Keep w F w' (FN F w w') := by
  have g' := g.ext E
  refine ⟨{ g' with fsub := fun b h => .inl (g.fsub b h), fnew := ?_, flt := ?_, h := ⟨g.h.apart, fun h hh => Hp.keep (g'.h.ok h hh) ⟨fun _ h => .inl h, fun _ _ _ => rfl⟩ (fun _ _ => rfl), fun b hb => ⟨(g.h.mine b hb).1, ?_⟩⟩ }, ⟨fun _ h => .inl h, fun b _ hb => E.block b hb (.inr (Nat.zero_le _))⟩⟩
  · rintro b (h | ⟨h, _⟩)
    · exact g.fnew b h
    · exact .inr (.inl (Nat.le_trans g.size h))
  · rintro b (h | ⟨_, h⟩)
    · exact Nat.lt_of_lt_of_le (g.flt b h) E.size
    · exact h
  · rintro (h | ⟨h, _⟩)
    · exact (g.h.mine b hb).2 h
    · have := zcH g.h hb; omega

/-- A call that turns nothing; what it makes all may read. -/
theorem qu_of_call {f : FuncId} {ds0 ds : List D} {R : D → List Hp → Prop} {w : World} {F : Nat → Prop} {vs : List Value} {d : D} (hcall : CD P f [] ds R) (hF : ∀ b, F b → b < w.heap.size) (hr : D.repA w F ds0 vs) (ha : CvL ds0 ds) (hd : ∀ d' H', R d' H' → ArgC H' d' d) :
    Calls P f vs.toArray w (Ret fun u w' => Ext w w' ∧ D.rep w' (FN F w w') d u) := by
  refine (hcall.out w F vs (ha.repA hr) hF ⟨.nil, fun _ h => by (cases h), fun _ ⟨_, h, _⟩ => by cases h⟩).mono ?_
  rintro e w' ⟨u, rfl, F', d', H', hR, hrep, g⟩
  have hno : ∀ b, ¬ blks [] b := fun _ ⟨_, h, _⟩ => by cases h
  refine ⟨u, rfl, ⟨g.os, g.tape, g.output, g.size, fun b hb _ => g.frame b hb (hno b)⟩, ?_⟩
  refine D.keep ⟨?_, fun _ _ _ => rfl⟩ _ _ ((hd d' H' hR).out w' F' u g.flt g.h.ok hrep)
  rintro b (h | h)
  · rcases g.fnew b h with h1 | h1 | h1
    · exact .inl h1
    · exact .inr ⟨h1, g.flt b h⟩
    · exact absurd h1 (hno b)
  · rcases (g.h.mine b h).1 with h1 | h1
    · exact .inr ⟨h1, zcH g.h h⟩
    · exact absurd h1 (hno b)
theorem qu_call {f : FuncId} {args : Array Operand} {ats : Array TypeId} {ds0 ds : List D} {R : D → List Hp → Prop} {d : D} (hargs : opsD K args.toList = some ds0) (ha : CvL ds0 ds)
    (hc : ∀ args w, (callFunc f args).run P w = .ok (.enter f args) w) (hcall : CD P f [] ds R) (hd : ∀ d' H', R d' H' → ArgC H' d' d) : Qu P (.call { callee := .value (.func f), args := args, argTypes := ats }) ty K H d :=
  ⟨fun ρ w F hk hF _ => e_call (zy ρ args.toList) (zb2 ρ args.toList args.toList (fun _ h => h)) hc (qu_of_call hcall hF (zco hk hargs) ha hd) (fun _ _ h => h)⟩
theorem HOk.empty {w : World} {F A : Nat → Prop} : HOk w F A [] := ⟨.nil, fun _ h => by (cases h), fun _ ⟨_, h, _⟩ => by cases h⟩
/-- An operation that makes something: all may read it. -/
theorem qu_of_ef {H0 : List Hp} {R : D → List Hp → Prop} {d : D} (h : Ef P op ty K [] R) (hd : ∀ d' H', R d' H' → ArgC H' d' d) : Qu P op ty K H0 d :=
  ⟨fun ρ w F hk hF _ => by
    have g0 : Good ⟨w, blks [], F⟩ [] w F := Good.start hF HOk.empty
    refine (h.out _ ρ w F hk g0).mono ?_
    rintro u w' ⟨F', d', H', hR, hrep, g, k⟩
    have hno : ∀ b, ¬ blks [] b := fun _ ⟨_, h, _⟩ => by cases h
    refine ⟨⟨g.os, g.tape, g.output, g.size, fun b hb _ => g.frame b hb (hno b)⟩, ?_⟩
    refine D.keep ⟨?_, fun _ _ _ => rfl⟩ _ _ ((hd d' H' hR).out w' F' u g.flt g.h.ok hrep)
    rintro b (h | h)
    · rcases g.fnew b h with h1 | h1 | h1
      · exact .inl h1
      · exact .inr ⟨h1, g.flt b h⟩
      · exact absurd h1 (hno b)
    · rcases (g.h.mine b h).1 with h1 | h1
      · exact .inr ⟨h1, zcH g.h h⟩
      · exact absurd h1 (hno b)⟩
theorem zat {t e len z : Nat} {ps : Array (Nat × Operand)} {zv : Value} (xs : List Operand) {ds : List D} (hp : ps.toList = (xs.zipIdx 0).map fun x => (x.2, x.1)) (hx : opsD K xs = some ds) (hc : CellDs [] ds) (hal : zcY z ds = true)
    (ht : ∀ w, (underlying t).run P w = .ok (.slice e) w) (hs : ∀ w, (Go.sizeOf e).run P w = .ok z w) (hzv : ∀ w, (zeroValue e).run P w = .ok zv w) (hlen : Nat.beq ds.length len = true) (hz : Nat.blt 0 z = true) (hsm : Nat.ble (len * z) 1000 = true) (hl0 : Nat.blt 0 len = true) :
    Qu P (.buildSlice t len ps) ty K H (.sh z ds) :=
  qu_of_ef (zP xs hp hx hc hal ht hs hzv hlen hz hsm hl0) fun _ _ ⟨g, e1, e2⟩ => by subst e1; subst e2; exact ArgC.own (j := 0) rfl rfl
theorem Qu.cv {d d' : D} (h : Qu P op ty K H d) (c : Cv d d') : Qu P op ty K H d' :=
  ⟨fun ρ w F hk hF hH => (h.out ρ w F hk hF hH).mono fun _ _ ⟨e, hr⟩ => ⟨e, c.out _ _ _ hr⟩⟩
end

/-- An operation of the head: its slot, what it reads as, what is owned behind it, if it turns that. -/
abbrev En := Tmp × D × Option (List Hp)

/-- What is owned ahead of the k-th operation. -/
def hof (H0 : List Hp) : List En → Nat → List Hp
  | _, 0 => H0
  | [], _ => H0
  | (_, _, e) :: r, k + 1 => hof (e.getD H0) r k
def isEf (ens : List En) (k : Nat) : Bool := match nth ens k with
  | some (_, _, some _) => true
  | _ => false
def zbV (ens : List En) : Nat → Option Nat
  | 0 => none
  | k + 1 => bif isEf ens k then some k else zbV ens k
def kpre (ens : List En) (K : Kd) : List Nat → Kd
  | [] => K
  | j :: r => match nth ens j with
    | some (t, d, _) => (t, d) :: kpre ens K r
    | none => kpre ens K r
def chainB (ops : List Oper) (ens : List En) : Bool := (List.range ens.length).all fun k => !isEf ens k || match zbV ens k with
  | some l => has (zae ops k) l
  | none => true
def enK (ens : List En) (K : Kd) : Kd := ens.foldl (fun K e => (e.1, e.2.1) :: K) K

def runAt (P : Program) (op : Op) (ty : TypeId) (K : Kd) (Hs Hk : List Hp) (d : D) : Option (List Hp) → Prop
  | none => Qu P op ty K Hs d
  | some H' => Ef P op ty K Hk (fun d' H'' => d' = d ∧ H'' = H') ∧ HSub H' Hs
structure StepA (P : Program) (N : Nat) (ops : List Oper) (K : Kd) (Hs H0 : List Hp) (ens : List En) (k : Nat) : Prop where
  out : ∃ t d e op ty g, nth ens k = some (t, d, e) ∧ opAt ops k = some (some t, op, ty, g) ∧
    match g with
    | none => runAt P op ty (kpre ens K (zae ops k)) Hs (hof H0 ens k) d e
    | some (j, want) => ∃ s u, zaB ops j = some s ∧ Nat.blt s N = true ∧ zal (kpre ens K (zae ops k)) s = some (.v u) ∧ (nb u = some want → runAt P op ty (kpre ens K (zae ops k)) Hs (hof H0 ens k) d e) ∧ (nb u ≠ some want → d = .v undef ∧ e = none)

section
variable {P : Program} {N : Nat} {ops : List Oper} {K : Kd} {Hs H0 : List Hp} {ens : List En} {k : Nat}

theorem sa_q {t : Tmp} {d : D} {op : Op} {ty : TypeId} (he : nth ens k = some (t, d, none)) (ho : opAt ops k = some (some t, op, ty, none)) {pre : List Nat} (hp : zae ops k = pre) (h : Qu P op ty (kpre ens K pre) Hs d) : StepA P N ops K Hs H0 ens k :=
  ⟨t, d, none, op, ty, none, he, ho, by subst hp; exact h⟩
theorem sa_p {t : Tmp} {d : D} {op : Op} {ty : TypeId} (he : nth ens k = some (t, d, none)) (ho : opAt ops k = some (some t, op, ty, none)) {pre : List Nat} (hp : zae ops k = pre) (h : Pu P op ty (kpre ens K pre) Hs d) : StepA P N ops K Hs H0 ens k :=
  sa_q he ho hp h.qu
theorem zbx {t : Tmp} {d : D} {op : Op} {ty : TypeId} {j : Nat} {want : Bool} {s : Tmp} (he : nth ens k = some (t, d, none)) (ho : opAt ops k = some (some t, op, ty, some (j, want))) {pre : List Nat} (hp : zae ops k = pre) (hj : zaB ops j = some s) (hs : Nat.blt s N = true) (hb : zal (kpre ens K pre) s = some (.v (.bool want))) (h : Qu P op ty (kpre ens K pre) Hs d) : StepA P N ops K Hs H0 ens k :=
  ⟨t, d, none, op, ty, some (j, want), he, ho, s, .bool want, hj, hs, by subst hp; exact hb, fun _ => by subst hp; exact h, fun hne => absurd rfl hne⟩
def zcO (P : Program) (N : Nat) (ops : List Oper) (K : Kd) (Hs H0 : List Hp) (ens : List En) : Nat → Nat → Prop
  | _, 0 => True
  | k, todo + 1 => StepA P N ops K Hs H0 ens k ∧ zcO P N ops K Hs H0 ens (k + 1) todo
theorem zcO.get : ∀ (todo k : Nat), zcO P N ops K Hs H0 ens k todo → ∀ i, k ≤ i → i < k + todo → StepA P N ops K Hs H0 ens i
  | 0, k, _, i, h1, h2 => by omega
  | todo + 1, k, ⟨h, hr⟩, i, h1, h2 => by
    rcases Nat.lt_or_ge k i with h3 | h3
    · exact zcO.get todo (k + 1) hr i h3 (by omega)
    · have : i = k := by omega
      subst this; exact h

theorem hof_none : ∀ (ens : List En) (H0 : List Hp) (k : Nat), isEf ens k = false → hof H0 ens (k + 1) = hof H0 ens k
  | [], H0, k, _ => by cases k <;> rfl
  | (t, d, e) :: r, H0, 0, h => by
    cases e with
    | none => show hof (none.getD H0) r 0 = H0; cases r <;> rfl
    | some x => simp [isEf, nth] at h
  | (t, d, e) :: r, H0, k + 1, h => hof_none r (e.getD H0) k (by simpa [isEf, nth] using h)
theorem zbN : ∀ (ens : List En) (H0 : List Hp) (k : Nat) (t : Tmp) (d : D) (H' : List Hp), nth ens k = some (t, d, some H') → hof H0 ens (k + 1) = H'
  | [], _, k, _, _, _, h => by simp [nth] at h
  | (t, d, e) :: r, H0, 0, t', d', H', h => by
    simp [nth] at h
    obtain ⟨rfl, rfl, rfl⟩ := h
    show hof H' r 0 = H'; cases r <;> rfl
  | (t, d, e) :: r, H0, k + 1, t', d', H', h => zbN r (e.getD H0) k t' d' H' (by simpa [nth] using h)
theorem zbO (p : Nat) : ∀ k, p ≤ k → (∀ i, p ≤ i → i < k → isEf ens i = false) → hof H0 ens k = hof H0 ens p
  | 0, h, _ => by rw [show p = 0 by omega]
  | k + 1, h, hn => by
    rcases Nat.lt_or_ge p (k + 1) with h1 | h1
    · rw [hof_none ens H0 k (hn k (by omega) (by omega))]
      exact zbO p k (by omega) (fun i a b => hn i a (by omega))
    · rw [show p = k + 1 by omega]
theorem lastEf_some : ∀ (k i : Nat), i < k → isEf ens i = true → ∃ l, zbV ens k = some l ∧ i ≤ l ∧ l < k ∧ isEf ens l = true
  | 0, i, h, _ => by omega
  | k + 1, i, h, he => by
    unfold zbV
    cases hk : isEf ens k with
    | true => exact ⟨k, rfl, by omega, by omega, hk⟩
    | false =>
      have : i < k := by
        rcases Nat.lt_or_ge i k with h1 | h1
        · exact h1
        · rw [show i = k by omega] at he; rw [he] at hk; cases hk
      obtain ⟨l, h1, h2, h3, h4⟩ := lastEf_some k i this he
      exact ⟨l, h1, h2, by omega, h4⟩

theorem kpre_ok {w : World} {F : Nat → Prop} {ρ : Env} (hk : KOk w F ρ K) : ∀ (pre : List Nat), (∀ j ∈ pre, ∀ t d e, nth ens j = some (t, d, e) → D.rep w F d (ρ t)) → KOk w F ρ (kpre ens K pre)
  | [], _ => hk
  | j :: r, h => by
    have ih := kpre_ok hk r (fun x hx => h x (List.mem_cons_of_mem _ hx))
    unfold kpre
    cases hj : nth ens j with
    | none => exact ih
    | some e =>
      obtain ⟨t, d, x⟩ := e
      intro s u hu
      simp only [zal] at hu
      by_cases e : s = t
      · subst e
        rw [show Nat.beq s s = true from Nat.beq_refl s] at hu
        simp only [cond_true, Option.some.injEq] at hu
        subst hu; exact h j List.mem_cons_self s _ x hj
      · rw [zbn e] at hu
        simp only [cond_false] at hu
        exact ih s u hu
theorem enK_ok {w : World} {F : Nat → Prop} {ρ : Env} : ∀ (ens : List En) (K : Kd), KOk w F ρ K → (∀ j : Nat, ∀ t d e, nth ens j = some (t, d, e) → D.rep w F d (ρ t)) → KOk w F ρ (enK ens K)
  | [], K, hk, _ => hk
  | (t, d, x) :: r, K, hk, h => by
    refine enK_ok r ((t, d) :: K) ?_ (fun j t' d' e hj => h (j + 1) t' d' e (by simpa [nth] using hj))
    intro s u hu
    simp only [zal] at hu
    by_cases e : s = t
    · subst e
      rw [show Nat.beq s s = true from Nat.beq_refl s] at hu
      simp only [cond_true, Option.some.injEq] at hu
      subst hu; exact h 0 s _ x (by simp [nth])
    · rw [zbn e] at hu
      simp only [cond_false] at hu
      exact hk s u hu

theorem lookD_keys {K : Kd} {t : Nat} (h : (keys (K.map fun x => (x.1, Value.nilFunc))).contains t = false) : zal K t = none := by
  induction K with
  | nil => rfl
  | cons x r ih =>
    obtain ⟨d, v⟩ := x
    simp only [keys, List.map_cons, List.contains_cons, Bool.or_eq_false_iff] at h
    have hne : ¬ t = d := by intro e; rw [e] at h; simp at h
    simp only [zal, zbn hne, cond_false]
    exact ih h.2
theorem KOk.other {w : World} {F : Nat → Prop} {ρ : Env} {K : Kd} (hk : KOk w F ρ K) {t : Nat} {v : Value} (ht : zal K t = none) : KOk w F (Lp.upd ρ (some t) v) K := by
  intro s u hu
  have : s ≠ t := by rintro rfl; rw [ht] at hu; cases hu
  simpa [Lp.upd, this] using hk s u hu
theorem hof_zero (H0 : List Hp) (ens : List En) : hof H0 ens 0 = H0 := by cases ens <;> rfl

theorem jd_draw {C : Ctx} {c : Code} {H : List Hp} {Q : za9} (n : Nat) (ens : List En) (Hs : List Hp) {Hn : List Hp} (hm : P.follows .mixedOrders = true) (hc : zcL c = some true) (hlen : Nat.beq ens.length n = true) (hB : drawB (zb3 c) n N (K.map fun x => (x.1, Value.nilFunc)) = true) (hch : chainB (zb3 c) ens = true) (hs0 : HSub H Hs) (hHn : hof H ens n = Hn)
    (hsteps : zcO P N (zb3 c) K Hs H ens 0 n) (next : OpsD P N C (zb3 c) n (enK ens K) Hn (fun ρ w F => Q .normal ρ w F)) : JD P N C c K H Q := by
  cases c <;> simp [zcL] at hc
  rename_i id opsA draw
  subst hc
  subst hHn
  simp only [zb3] at hB hsteps hch next
  generalize hops : opsA.toList = ops at hB hsteps hch next
  have hA : opsA = ops.toArray := by rw [← hops]
  subst hA
  have hlen := Nat.eq_of_beq_eq_true hlen
  unfold drawB at hB
  simp only [Bool.and_eq_true] at hB
  obtain ⟨⟨hback, htail⟩, hfresh⟩ := hB
  unfold freshB at hfresh
  simp only [Bool.and_eq_true] at hfresh
  obtain ⟨hnl, hfr⟩ := hfresh
  have hnl := Nat.le_of_ble_eq_true hnl
  rw [List.all_eq_true] at hfr
  have hpre : ∀ k, k < ops.length → ∀ j ∈ zae ops k, j < k := by
    intro k hk j hj
    unfold zcP at hback
    rw [List.all_eq_true] at hback
    have := hback k (List.mem_range.2 hk)
    rw [List.all_eq_true] at this
    exact zaR.1 (this j hj)
  have hstep : ∀ i, i < n → StepA P N ops K Hs H ens i := fun i hi => zcO.get n 0 hsteps i (Nat.zero_le _) (by omega)
  -- slots of their own
  have hd : ∀ i t d e, i < n → nth ens i = some (t, d, e) → zaB ops i = some t ∧ Nat.blt t N = true ∧ zal K t = none ∧ ∀ j, j < i → zaB ops j ≠ some t := by
    intro i t d e hi hn
    obtain ⟨t', d', e', op, ty, g, h1, h2, _⟩ := (hstep i hi).out
    rw [hn] at h1; cases h1
    have hdst : zaB ops i = some t := by
      obtain ⟨o, q1, q2, _⟩ := zbe h2
      have : nth ops i = some o := by rw [zaW]; simpa using q1
      simp [zaB, this, q2]
    have hf := hfr i (List.mem_range.2 hi)
    rw [hdst] at hf
    simp only [Bool.and_eq_true, Bool.not_eq_true'] at hf
    refine ⟨hdst, hf.1.1, lookD_keys hf.1.2, fun j hj => ?_⟩
    have := hf.2
    rw [List.all_eq_true] at this
    have := this j (List.mem_range.2 hj)
    simpa using this
  have hne : ∀ i j t d e t' d' e', i < n → j < n → i ≠ j → nth ens i = some (t, d, e) → nth ens j = some (t', d', e') → t ≠ t' := by
    intro i j t d e t' d' e' hi hj hij h1 h2 heq
    obtain ⟨f1, _, _, f4⟩ := hd i t d e hi h1
    obtain ⟨g1, _, _, g4⟩ := hd j t' d' e' hj h2
    rcases Nat.lt_or_gt_of_ne hij with hlt | hlt
    · exact g4 i hlt (by rw [f1, heq])
    · exact f4 j hlt (by rw [g1, heq])
  have hen : ∀ i, i < n → ∃ t d e, nth ens i = some (t, d, e) := fun i hi => by
    obtain ⟨t, d, e, _, _, _, h1, _⟩ := (hstep i hi).out; exact ⟨t, d, e, h1⟩
  have hchain : ∀ k l, k < n → isEf ens k = true → zbV ens k = some l → l ∈ zae ops k := by
    intro k l hk he hl
    unfold chainB at hch
    rw [List.all_eq_true] at hch
    have := hch k (List.mem_range.2 (by omega))
    rw [he, hl] at this
    exact has_mem (by simpa using this)
  -- all that is owned holds what stays
  have hsub : ∀ k, k ≤ n → HSub (hof H ens k) Hs := by
    intro k
    induction k with
    | zero => intro _; rw [hof_zero]; exact hs0
    | succ k ih =>
      intro hk
      cases he : isEf ens k with
      | false => rw [hof_none ens H k he]; exact ih (by omega)
      | true =>
        obtain ⟨t, d, e, op, ty, g, h1, h2, h3⟩ := (hstep k (by omega)).out
        cases e with
        | none => simp [isEf, h1] at he
        | some H' =>
          rw [zbN ens H k t d H' h1]
          cases g with
          | none => exact h3.2
          | some jw =>
            obtain ⟨j, want⟩ := jw
            obtain ⟨s, u, _, _, _, h7, h8⟩ := h3
            by_cases hb : nb u = some want
            · exact (h7 hb).2
            · have := (h8 hb).2; cases this
  refine ⟨fun a w F ok hk g => ?_⟩
  apply wp_region_any hm
  have final : ∀ (a : Act) (w' : World) (F' : Nat → Prop) (p : Nat), Ok N a → KOk w' F' (zX a) K → p ≤ n → Good C (hof H ens p) w' F' → (∀ i, p ≤ i → i < n → isEf ens i = false) → (∀ i t d e, i < n → nth ens i = some (t, d, e) → D.rep w' F' d (zX a t)) →
      wpOps P ops.toArray (fun e a' w' => Ok N a' ∧ ∃ F', Q e (zX a') w' F') (List.range' n (ops.length - n)) a w' := by
    intro a w' F' p ok hk hp g hno hrep
    rw [← zbO (H0 := H) p n hp hno] at g
    have hK := enK_ok ens K hk (fun j t d e hj => hrep j t d e (by rw [zaW] at hj; rw [← hlen]; exact (List.getElem?_eq_some_iff.1 hj).1) hj)
    refine zaD ?_ _ _ _ (next.out a w' F' ok hK g)
    rintro e a' w'' ⟨rfl, h1, h2⟩
    exact ⟨h1, h2⟩
  -- the invariant
  have key : ∀ (fuel : Nat) (listed : Array Bool) (a : Act) (w' : World) (F' : Nat → Prop) (p : Nat), listed.size = ops.length → cnt ops.length listed ≤ fuel → Ok N a → KOk w' F' (zX a) K → p ≤ n → Good C (hof H ens p) w' F' →
      (∀ i, i < p → isEf ens i = true → listed.getD i true = true) → (∀ i, p ≤ i → i < n → isEf ens i = true → listed.getD i true = false) →
      (∀ i t d e, i < n → listed.getD i true = true → nth ens i = some (t, d, e) → D.rep w' F' d (zX a t)) → (∀ i, i < n → listed.getD i true = true → ∀ j ∈ zae ops i, listed.getD j true = true) → (∀ i, n ≤ i → i < ops.length → listed.getD i true = false) →
      wpAny P .any ops.toArray (fun e a' w' => Ok N a' ∧ ∃ F', Q e (zX a') w' F') fuel listed a w' := by
    intro fuel
    induction fuel with
    | zero =>
      intro listed a w' F' p hs hcnt ok hk hp g hdone hnot hh hdn ht
      have hall : ∀ i, i < ops.length → listed.getD i true = true := by
        intro i hi
        cases hc : listed.getD i true with
        | true => rfl
        | false => have := cnt_set hi hs hc; omega
      have hn : ops.length = n := by
        rcases Nat.lt_or_ge n ops.length with h' | h'
        · have h1 := ht n (Nat.le_refl _) h'
          rw [hall n h'] at h1; cases h1
        · omega
      refine wpAny_tail (n := n) hback htail 0 n listed a w' (by omega) (Nat.le_refl _) hnl hs (fun i hi => by rw [hall i hi]; simp; omega) ?_ 0 (by omega)
      refine final a w' F' p ok hk hp g (fun i h1 h2 => ?_) (fun i t d e hi hn => hh i t d e hi (hall i (by omega)) hn)
      cases he : isEf ens i with
      | false => rfl
      | true => have := hnot i h1 h2 he; rw [hall i (by omega)] at this; cases this
    | succ fuel ih =>
      intro listed a w' F' p hs hcnt ok hk hp g hdone hnot hh hdn ht
      by_cases hall : ∀ i, i < n → listed.getD i true = true
      · refine wpAny_tail (n := n) hback htail (ops.length - n) n listed a w' rfl (Nat.le_refl _) hnl hs (fun i hi => ?_) ?_ (fuel + 1) ?_
        · rcases Nat.lt_or_ge i n with h' | h'
          · rw [hall i h']; simp [h']
          · rw [ht i h' hi]; simp; omega
        · refine final a w' F' p ok hk hp g (fun i h1 h2 => ?_) (fun i t d e hi hn => hh i t d e hi (hall i hi) hn)
          cases he : isEf ens i with
          | false => rfl
          | true => have := hnot i h1 h2 he; rw [hall i h2] at this; cases this
        · refine Nat.le_trans ?_ hcnt
          unfold cnt
          have hsplit : List.range ops.length = List.range n ++ List.range' n (ops.length - n) := by
            rw [List.range_eq_range', List.range_eq_range']
            have := @List.range'_append 0 n (ops.length - n) 1
            simp only [Nat.one_mul, Nat.zero_add] at this
            rw [this]; congr 1; omega
          rw [hsplit, List.countP_append]
          have : (List.range' n (ops.length - n)).countP (fun i => !listed.getD i true) = ops.length - n := by
            rw [List.countP_eq_length.2]
            · simp
            · intro i hi
              have := List.mem_range'_1.1 hi
              rw [ht i (by omega) (by omega)]; rfl
          omega
      · obtain ⟨i0, hi0⟩ := Classical.not_forall.1 hall
        obtain ⟨hi0n, hi0u⟩ := Classical.not_imp.1 hi0
        have hi0u : listed.getD i0 true = false := by cases hx : listed.getD i0 true with | false => rfl | true => exact absurd hx hi0u
        refine ⟨fun he => absurd he (some_ready hs hback i0 (by omega) hi0u), fun i hi => ?_⟩
        obtain ⟨hu, hil, hps⟩ := zbZ.1 hi
        have hin : i < n := by
          rcases Nat.lt_or_ge i n with h' | h'
          · exact h'
          · exfalso
            have hpm : i0 ∈ ancS ops i (zae ops i) := by
              have ht' := htail
              unfold zcZ at ht'
              rw [List.all_eq_true] at ht'
              have := ht' i (List.mem_range.2 hil)
              rw [Bool.or_eq_true] at this
              rcases this with h'' | h''
              · have := zaR.1 h''; omega
              · rw [List.all_eq_true] at h''
                exact zb5 (h'' i0 (List.mem_range.2 (by omega)))
            have := zct (p := fun j => j < ops.length ∧ listed.getD j true = true) (fun k hk j hj => by
              have hkn : k < n := by
                rcases Nat.lt_or_ge k n with hh | hh
                · exact hh
                · have := ht k hh hk.1; rw [hk.2] at this; cases this
              exact ⟨by have := hpre k hk.1 j hj; omega, hdn k hkn hk.2 j hj⟩) i _ (fun j hj => by
              have hjl : j < ops.length := by have := hpre i hil j hj; omega
              exact ⟨hjl, by rw [zcv hs hjl]; exact hps j hj⟩) i0 hpm
            rw [hi0u] at this
            cases this.2
        obtain ⟨t, d, e, op, ty, gd, h1, h2, h3⟩ := (hstep i hin).out
        obtain ⟨hdst, htN, htK, htne⟩ := hd i t d e hin h1
        have hpl : ∀ j ∈ zae ops i, listed.getD j true = true := fun j hj => by
          have hjl : j < ops.length := by have := hpre i hil j hj; omega
          rw [zcv hs hjl]; exact hps j hj
        have hkp : KOk w' F' (zX a) (kpre ens K (zae ops i)) := kpre_ok hk _ (fun j hj t' d' e' hn' => hh j t' d' e' (by have := hpre i hil j hj; omega) (hpl j hj) hn')
        obtain ⟨o, o1, o2, o3, o4, o5⟩ := zbe h2
        have hdok : dok N (some t) = true := htN
        -- behind the operation
        have after : ∀ v w'' F'' q, q ≤ n → Good C (hof H ens q) w'' F'' → Keep w' F' w'' F'' → D.rep w'' F'' d v → (∀ k, k < q → isEf ens k = true → (listed.setIfInBounds i true).getD k true = true) → (∀ k, q ≤ k → k < n → isEf ens k = true → (listed.setIfInBounds i true).getD k true = false) →
            wpAny P .any ops.toArray (fun e a' w' => Ok N a' ∧ ∃ F', Q e (zX a') w' F') fuel (listed.setIfInBounds i true) (a.put o.dst v) w'' := by
          intro v w'' F'' q hq g' kp hv hdone' hnot'
          have henv : zX (a.put o.dst v) = upd (zX a) (some t) v := by rw [o2]; exact zbJ ok hdok v
          refine ih _ _ _ F'' q (by simp [hs]) ?_ (ok.put _ _) ?_ hq g' hdone' hnot' ?_ ?_ ?_
          · have := cnt_set hil hs hu; omega
          · rw [henv]; exact (hk.keep kp).other htK
          · intro j t' d' e' hj hl hn'
            rw [henv]
            by_cases hij : i = j
            · subst hij
              rw [h1] at hn'; cases hn'
              simpa [upd] using hv
            · have hne' : t' ≠ t := fun h' => hne j i t' d' e' t d e hj hin (fun x => hij x.symm) hn' h1 h'
              rw [getD_set_ne true hij] at hl
              simp only [upd, hne', if_false]
              exact D.keep kp _ _ (hh j t' d' e' hj hl hn')
          · intro j hj hl k hk'
            by_cases hij : i = j
            · subst hij
              have := hpl k hk'
              have hki : i ≠ k := by have := hpre i hil k hk'; omega
              rw [getD_set_ne true hki]; exact this
            · rw [getD_set_ne true hij] at hl
              have := hdn j hj hl k hk'
              by_cases hik : i = k
              · subst hik; rw [hu] at this; cases this
              · rw [getD_set_ne true hik]; exact this
          · intro j hj hjl
            rw [getD_set_ne true (by omega)]
            exact ht j hj hjl
        have hset : (listed.setIfInBounds i true).getD i true = true := by
          have : i < listed.size := by omega
          simp [this]
        -- a quiet one: as many have turned what is owned as ahead
        have stay : isEf ens i = false → (∀ k, k < p → isEf ens k = true → (listed.setIfInBounds i true).getD k true = true) ∧ (∀ k, p ≤ k → k < n → isEf ens k = true → (listed.setIfInBounds i true).getD k true = false) := by
          intro hq
          refine ⟨fun k h1 h2 => ?_, fun k h1 h2 h3 => ?_⟩
          · by_cases hik : i = k
            · subst hik; exact hset
            · rw [getD_set_ne true hik]; exact hdone k h1 h2
          · by_cases hik : i = k
            · subst hik; rw [hq] at h3; cases h3
            · rw [getD_set_ne true hik]; exact hnot k h1 h2 h3
        have gs := (hsub p hp).out _ _ _ g
        have run : runAt P op ty (kpre ens K (zae ops i)) Hs (hof H ens i) d e → EOp P op ty (zX a) w' (fun v w'' => wpAny P .any ops.toArray (fun e a' w' => Ok N a' ∧ ∃ F', Q e (zX a') w' F') fuel (listed.setIfInBounds i true) (a.put o.dst v) w'') := by
          intro hrun
          cases e with
          | none =>
            have hq : isEf ens i = false := by simp [isEf, h1]
            refine (hrun.out _ w' F' hkp g.flt gs.h.ok).mono ?_
            rintro v w'' ⟨E, hrep⟩
            obtain ⟨g', kp⟩ := Good.fn g E
            exact after v w'' _ p hp g' kp hrep (stay hq).1 (stay hq).2
          | some H' =>
            have hq : isEf ens i = true := by simp [isEf, h1]
            obtain ⟨hef, _⟩ := hrun
            have hpi : p ≤ i := by
              rcases Nat.lt_or_ge i p with h' | h'
              · have := hdone i h' hq; rw [hu] at this; cases this
              · exact h'
            have hno : ∀ k, p ≤ k → k < i → isEf ens k = false := by
              intro k hk1 hk2
              cases hke : isEf ens k with
              | false => rfl
              | true =>
                obtain ⟨l, l1, l2, l3, l4⟩ := lastEf_some i k hk2 hke
                have := hpl l (hchain i l hin hq l1)
                rw [hnot l (by omega) (by omega) l4] at this; cases this
            have gi : Good C (hof H ens i) w' F' := by rw [zbO (H0 := H) p i hpi hno]; exact g
            refine (hef.out C _ w' F' hkp gi).mono ?_
            rintro v w'' ⟨F'', d', H'', ⟨rfl, rfl⟩, hrep, g', kp⟩
            refine after v w'' F'' (i + 1) (by omega) (by rw [zbN ens H i t _ _ h1]; exact g') kp hrep (fun k hk1 hk2 => ?_) (fun k hk1 hk2 hk3 => ?_)
            · by_cases hik : i = k
              · subst hik; exact hset
              · rw [getD_set_ne true hik]
                rcases Nat.lt_or_ge k p with h' | h'
                · exact hdone k h' hk2
                · have := hno k h' (by omega); rw [hk2] at this; cases this
            · rw [getD_set_ne true (by omega)]; exact hnot k (by omega) hk2 hk3
        unfold wpOp
        rw [o1]
        simp only
        subst o5
        cases hgo : o.guard with
        | none =>
          rw [hgo] at h3
          rw [if_pos (by unfold Region.wanted; rw [hgo])]
          left
          apply zbG
          rw [o3, o4]
          exact run h3
        | some jw =>
          obtain ⟨j, want⟩ := jw
          rw [hgo] at h3
          obtain ⟨s, u, t1, t2, t3, t4, t5⟩ := h3
          have hyv : yielded ops.toArray a.tmps j = nb u := by
            have he : zX a s = u := hkp s _ t3
            have hts : s < a.tmps.size := by rw [ok.1]; exact zaR.1 t2
            have hg' : a.tmps[s]? = some u := by
              simp only [zX, Array.getD_eq_getD_getElem?] at he
              rw [Array.getElem?_eq_getElem hts] at he ⊢
              simpa using he
            unfold yielded
            unfold zaB at t1
            cases hn : nth ops j with
            | none => rw [hn] at t1; cases t1
            | some oj =>
              rw [hn] at t1
              have : ops.toArray[j]? = some oj := by rw [zaW] at hn; simpa using hn
              rw [this]
              simp only [Option.bind_some, t1, hg']
              cases u <;> rfl
          by_cases hb : nb u = some want
          · rw [if_pos (by unfold Region.wanted; rw [hgo]; simp [hyv, hb])]
            left
            apply zbG
            rw [o3, o4]
            exact run (t4 hb)
          · rw [if_neg (by unfold Region.wanted; rw [hgo]; simp [hyv, hb])]
            obtain ⟨rfl, rfl⟩ := t5 hb
            have hq : isEf ens i = false := by simp [isEf, h1]
            exact after undef w' F' p hp g Keep.rfl' rfl (stay hq).1 (stay hq).2
  have gd := (Good.fn g (Ext.drew w)).1
  have hkd := hk.keep (Good.fn g (Ext.drew w)).2
  refine key ops.toArray.size (Array.replicate ops.toArray.size false) a _ _ 0 (by simp) ?_ ok hkd (Nat.zero_le _) (by rw [hof_zero]; exact gd) (fun i hi _ => by omega) (fun i _ hi _ => ?_) ?_ ?_ ?_
  · unfold cnt
    refine Nat.le_trans (List.countP_le_length) (by simp)
  · have : i < ops.length := by omega
    simp [this]
  · intro i t d e hi hl
    have : i < ops.length := by omega
    simp [this] at hl
  · intro i hi hl
    have : i < ops.length := by omega
    simp [this] at hl
  · intro i _ hi
    simp [hi]
end
end Lp
