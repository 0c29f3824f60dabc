/-
  WHAT A FUNCTION HANDS BACK, and bounds that every datum keeps; what comes in to a statement, as data.
-/
import Derived.Test.YtfjinapgehafiaaGreatProg
import Derived.Test.YtfjinapgehafiaaGreatDF
set_option linter.unusedVariables false
namespace Lp
open Go Go.RowKit Go.ChangeShapes Go.Deep

/-- A result as a datum. -/
structure ResO (P : Program) (K : Kd) (H : List Hp) (r : ResultVar) (d : D) : Prop where
  out : ∀ w F ρ, KOk w F ρ K → (∀ h ∈ H, h.ok w F) → ∃ u, D.rep w F d u ∧ match r with
    | .tmp t => ρ t = u
    | .cell a t => ∃ b o, ρ a = .pointer (some ⟨b, o, none⟩) ∧ (loadVar t ⟨b, o, none⟩).run P w = .ok u w
inductive ResOs (P : Program) (K : Kd) (H : List Hp) : List ResultVar → List D → Prop
  | nil : ResOs P K H [] []
  | cons {r : ResultVar} {d : D} {rs : List ResultVar} {ds : List D} : ResO P K H r d → ResOs P K H rs ds → ResOs P K H (r :: rs) (d :: ds)
def zet : List D → D
  | [d] => d
  | ds => .tup ds

section
variable {P : Program} {K : Kd} {H : List Hp}

theorem zf {t : Tmp} {d : D} (h : zaw K t = some d) : ResO P K H (.tmp t) d := ⟨fun w F ρ hk _ => ⟨_, hk t d h, rfl⟩⟩
theorem zB {r : ResultVar} {d d' : D} (h : ResO P K H r d) (c : Cv d d') : ResO P K H r d' := ⟨fun w F ρ hk hH => by obtain ⟨u, h1, h2⟩ := h.out w F ρ hk hH; exact ⟨u, c.out _ _ _ h1, h2⟩⟩
theorem ro_cell {a : Tmp} {t : TypeId} {g o n i : Nat} {T : TypeId} {X d : D} (hx : zaw K a = some (.v (.pointer (some ⟨g, o, none⟩)))) (hm : nth H i = some (.bx g T X)) (hg : ∀ w, (isAgg t).run P w = .ok true w) (hs : ∀ w, (Go.sizeOf t).run P w = .ok n w) (hn : Nat.ble (o + n) X.cells.length = true) (hd : zes X o n = d) : ResO P K H (.cell a t) d := ⟨fun w F ρ hk hH => by
  obtain ⟨u, hr, h1, hat⟩ := bx_at (hH _ (z6 hm))
  have hl := D.rep_cells hr h1
  have hlen := zbk hl
  have hn := Nat.le_of_ble_eq_true hn
  have hat' := hat.sub o n
  rw [Nat.zero_add] at hat'
  have hn' : (((vcs u).drop o).take n).length = n := by simp only [List.length_take, List.length_drop, hlen]; omega
  subst hd
  exact ⟨_, ⟨_, rfl, zcY n (zcZ o hl)⟩, g, o, hk a _ hx, run_loadVar_agg hg (by rw [hn']; exact hs) hat'⟩⟩

theorem results_data {w : World} {F : Nat → Prop} {ρ : Env} (hk : KOk w F ρ K) (hH : ∀ h ∈ H, h.ok w F) (tmps : Array Value) (ht : ∀ t, tmps.getD t undef = ρ t) (f : ResultVar → Sem Value) (f1 : ∀ t, f (.tmp t) = pure (tmps.getD t undef))
    (f2 : ∀ a t, f (.cell a t) = (asAddr (tmps.getD a undef) >>= fun x => loadVar t x)) {rs : List ResultVar} {ds : List D} (h : ResOs P K H rs ds) : ∃ vs, (rs.mapM f).run P w = .ok vs w ∧ D.repA w F ds vs := by
  induction h with
  | nil => exact ⟨[], by simp, rfl⟩
  | cons hd _ ih =>
    obtain ⟨vs, e1, e2⟩ := ih
    obtain ⟨u, hu, hm⟩ := hd.out w F ρ hk hH
    rename_i r d rs ds _
    refine ⟨u :: vs, ?_, u, vs, rfl, hu, e2⟩
    rw [List.mapM_cons]
    cases r with
    | tmp t =>
      rw [f1]
      have : tmps.getD t undef = u := by rw [ht]; exact hm
      simp only [Array.getD_eq_getD_getElem?] at this
      simp [e1, this]
    | cell a t =>
      rw [f2]
      obtain ⟨b, o, h1, h2⟩ := hm
      have : tmps.getD a undef = .pointer (some ⟨b, o, none⟩) := by rw [ht]; exact h1
      simp only [Array.getD_eq_getD_getElem?] at this
      simp [e1, this, asAddr, h2]

theorem results_packD {fn : Func} {rs : List ResultVar} {ds : List D} {w : World} {F : Nat → Prop} {ρ : Env} (hr : fn.results = rs.toArray) (h : ResOs P K H rs ds) (hk : KOk w F ρ K) (hH : ∀ h ∈ H, h.ok w F) (tmps : Array Value) (ht : ∀ t, tmps.getD t undef = ρ t) : ∃ v, (results fn tmps).run P w = .ok v w ∧ D.rep w F (zet ds) v := by
  have key : ∃ vs, (results fn tmps).run P w = .ok (packed vs) w ∧ D.repA w F ds vs := by
    unfold results
    rw [hr, List.mapM_toArray]
    simp only [Sem.run_bind, Sem.run_map, Sem.run_pure]
    generalize hf : (fun x : ResultVar => (match x with
      | .tmp t => pure (tmps.getD t undef)
      | .cell a t => do loadVar t (← asAddr (tmps.getD a undef)) : Sem Value)) = f
    obtain ⟨vs, e1, e2⟩ := results_data (P := P) hk hH tmps ht f (fun _ => by rw [← hf]) (fun _ _ => by rw [← hf]) h
    refine ⟨vs, ?_, e2⟩
    rw [e1]
    simp only [Result.andThen_ok]
    congr 1
    match vs with
    | [] => rfl
    | [v] => rfl
    | u :: v :: r => simp [packed]
  obtain ⟨vs, e1, e2⟩ := key
  refine ⟨packed vs, e1, ?_⟩
  · cases h with
    | nil => rw [show vs = [] from e2]; exact ⟨[], rfl, rfl⟩
    | cons h1 h2 =>
      cases h2 with
      | nil => obtain ⟨u, us, rfl, h3, h4⟩ := e2; rw [show us = [] from h4]; exact h3
      | cons h3 h4 => obtain ⟨u, us, rfl, h5, u', us', rfl, h6⟩ := e2; exact ⟨_, rfl, u, _, rfl, h5, u', us', rfl, h6⟩

theorem zbP {C : Ctx} {fn : Func} {R : D → List Hp → Prop} {rs : List ResultVar} {ds : List D} {d : D} (hr : fn.results = rs.toArray) (h : ResOs P K H rs ds) (hp : zet ds = d) (hR : R d H) : PD C (qret P fn C R) .ret K H :=
  ⟨fun ρ w F hk g tmps ht => by
    obtain ⟨v, e1, e2⟩ := results_packD hr h hk g.h.ok tmps ht
    exact ⟨v, e1, F, d, H, hR, hp ▸ e2, g⟩⟩
theorem pd_end {C : Ctx} {fn : Func} {R : D → List Hp → Prop} {rs : List ResultVar} {ds : List D} {d : D} (hr : fn.results = rs.toArray) (h : ResOs P K H rs ds) (hp : zet ds = d) (hR : R d H) : PD C (qret P fn C R) .normal K H :=
  ⟨fun ρ w F hk g tmps ht => by
    obtain ⟨v, e1, e2⟩ := results_packD hr h hk g.h.ok tmps ht
    exact ⟨v, e1, F, d, H, hR, hp ▸ e2, g⟩⟩
theorem zj {C : Ctx} {fn : Func} {R : D → List Hp → Prop} {rs : List ResultVar} {ds : List D} {d : D} {H' : List Hp} (hr : fn.results = rs.toArray) (h : ResOs P K H rs ds) (hp : zet ds = d) (hs : HSub H H') (hR : R d H') : PD C (qret P fn C R) .ret K H :=
  ⟨fun ρ w F hk g tmps ht => by
    obtain ⟨v, e1, e2⟩ := results_packD hr h hk g.h.ok tmps ht
    exact ⟨v, e1, F, d, H', hR, hp ▸ e2, hs.out _ _ _ g⟩⟩
theorem zaR {C : Ctx} {fn : Func} {R : D → List Hp → Prop} {rs : List ResultVar} {ds : List D} {d : D} {H' : List Hp} (hr : fn.results = rs.toArray) (h : ResOs P K H rs ds) (hp : zet ds = d) (hs : HSub H H') (hR : R d H') : PD C (qret P fn C R) .normal K H :=
  ⟨fun ρ w F hk g tmps ht => by
    obtain ⟨v, e1, e2⟩ := results_packD hr h hk g.h.ok tmps ht
    exact ⟨v, e1, F, d, H', hR, hp ▸ e2, hs.out _ _ _ g⟩⟩
theorem pd_mv_ret {C : Ctx} {fn : Func} {R : D → List Hp → Prop} {K' : Kd} {H' : List Hp} (m : Mv K H K' H') (h : PD C (qret P fn C R) .ret K' H') : PD C (qret P fn C R) .ret K H := PD.mv (fun _ _ _ _ h => h) m h
/-! ### bounds -/
mutual
def D.bd : D → Prop
  | .s b => b.size ≤ 9223372036854775807
  | .sh _ xs => xs.length ≤ 9223372036854775807 ∧ D.bdL xs
  | .agg cs => D.bdL cs
  | .tup cs => D.bdL cs
  | .ifc _ d => D.bd d
  | .el x _ => D.bd x
  | _ => True
def D.bdL : List D → Prop
  | [] => True
  | d :: r => D.bd d ∧ D.bdL r
end
section
variable {w : World} {F : Nat → Prop}
mutual
theorem D.rep_bd : ∀ (d : D) (a : Value), D.rep w F d a → D.bd d
  | .v _, _, _ => trivial
  | .ov _, _, _ => trivial
  | .s _, _, h => h.2
  | .agg cs, _, ⟨vs, e, h⟩ => D.repL_bd cs vs h
  | .tup cs, _, ⟨vs, e, h⟩ => D.repA_bd cs vs h
  | .ifc _ d, _, ⟨u, e, h⟩ => D.rep_bd d u h
  | .fn _ p q, _, _ => trivial
  | .sh z xs, _, ⟨A, c, e, h1, h2, h3⟩ => ⟨h2, by
      cases hxs : xs with
      | nil => exact trivial
      | cons x r =>
        obtain ⟨b, o, _, _, hc⟩ := h3 (by rw [hxs]; simp)
        rw [← hxs]
        exact D.repC_bd z b xs o hc⟩
  | .el x _, _, ⟨b, p, u, e, h1, h2, h3, h4⟩ => D.rep_bd x u h2
  | .shr _ _ _, _, _ => trivial
  | .any, _, _ => trivial
theorem D.repL_bd : ∀ (ds : List D) (vs : List Value), D.repL w F ds vs → D.bdL ds
  | [], _, _ => trivial
  | d :: r, _, ⟨u, us, e, h1, h2, h3⟩ => ⟨D.rep_bd d u h2, D.repL_bd r us h3⟩
theorem D.repA_bd : ∀ (ds : List D) (vs : List Value), D.repA w F ds vs → D.bdL ds
  | [], _, _ => trivial
  | d :: r, _, ⟨u, us, e, h2, h3⟩ => ⟨D.rep_bd d u h2, D.repA_bd r us h3⟩
theorem D.repC_bd (z b : Nat) : ∀ (xs : List D) (o : Nat), D.repC w F z b xs o → D.bdL xs
  | [], _, _ => trivial
  | x :: r, o, ⟨⟨u, h1, h2, h3, h4⟩, h5⟩ => ⟨D.rep_bd x u h1, D.repC_bd z b r (o + z) h5⟩
end
end
theorem zZ {α : Type} {f : α → D} {l : List α} {z : Nat} (h : D.bd (.sh z (l.map f))) : l.length ≤ 9223372036854775807 := by have := h.1; simpa using this

theorem JD.bd {N : Nat} {C : Ctx} {c : Code} {Q : zaU} (t : Nat) {d : D} (h : zaw K t = some d) (next : D.bd d → JD P N C c K H Q) : JD P N C c K H Q :=
  JD.fact (fun w F ρ hk _ => D.rep_bd d _ (hk t d h)) next
theorem OpsD.bd {N i : Nat} {C : Ctx} {ops : List Oper} {Kt : Env → World → (Nat → Prop) → Prop} (t : Nat) {d : D} (h : zaw K t = some d) (next : D.bd d → OpsD P N C ops i K H Kt) : OpsD P N C ops i K H Kt :=
  OpsD.fact (fun w F ρ hk _ => D.rep_bd d _ (hk t d h)) next
end

/-! ### data of the program -/
abbrev dI (n : Int) : D := .v (.int .i64 n)
abbrev dB (b : Bool) : D := .v (.bool b)
/-- the result is that, and nothing is owned -/
abbrev isR (d : D) : D → List Hp → Prop := fun r H => r = d ∧ H = []
/-- the result is a row of the call's own -/
abbrev zc7 (z : Nat) (T : TypeId) (xs : List D) : D → List Hp → Prop := fun r H => ∃ v, r = .ov v ∧ H = [.sl v z T xs]

/-- a list of data of a kind -/
abbrev D.ls {α : Type} (z : Nat) (f : α → D) (l : List α) : D := .sh z (l.map f)

def zee : List Nat → Kd → Kd
  | [], _ => []
  | t :: r, K => match zaw K t with
    | some d => (t, d) :: zee r K
    | none => zee r K
theorem zc5 : ∀ (ts : List Nat) (K : Kd), SubK (zee ts K) K
  | [], _ => trivial
  | t :: r, K => by
    unfold zee
    cases h : zaw K t with
    | none => exact zc5 r K
    | some d => exact ⟨⟨d, h, Cv.rfl'⟩, zc5 r K⟩
theorem sk {K : Kd} {t : Nat} {d : D} (h : zaw K t = some d) : ∃ d', zaw K t = some d' ∧ Cv d' d := ⟨d, h, Cv.rfl'⟩
theorem sc {K : Kd} {t : Nat} {d d' : D} (h : zaw K t = some d) (c : Cv d d') : ∃ d, zaw K t = some d ∧ Cv d d' := ⟨d, h, c⟩
theorem se {K : Kd} {t : Nat} {d d' : D} (h : zaw K t = some d) (c : d = d') : ∃ d, zaw K t = some d ∧ Cv d d' := ⟨d, h, Cv.eq c⟩
section
variable {P : Program} {K : Kd} {H : List Hp} {N : Nat} {C : Ctx}
theorem JD.keep {c : Code} {Q : zaU} (ts : List Nat) (K' : Kd) (h : zee ts K = K') (next : JD P N C c K' H Q) : JD P N C c K H Q := JD.sub K' (h ▸ zc5 ts K) next
theorem JD.norm {c : Code} {Q : zaU} (H' : List Hp) (h : H = H') (next : JD P N C c K H' Q) : JD P N C c K H Q := h ▸ next
theorem OpsD.norm {i : Nat} {ops : List Oper} {Kt : Env → World → (Nat → Prop) → Prop} (H' : List Hp) (h : H = H') (next : OpsD P N C ops i K H' Kt) : OpsD P N C ops i K H Kt := h ▸ next
theorem PD.norm {Q : zaU} {e : Exit} (H' : List Hp) (h : H = H') (next : PD C Q e K H') : PD C Q e K H := h ▸ next
theorem PD.keep {Q : zaU} {e : Exit} (ts : List Nat) (K' : Kd) (h : zee ts K = K') (next : PD C Q e K' H) : PD C Q e K H := PD.sub K' (h ▸ zc5 ts K) next
theorem PD.drop {Q : zaU} {e : Exit} (h : PD C Q e K []) : PD C Q e K H := PD.subH (HSub.less (List.nil_sublist _)) h

theorem OpsD.keep {i : Nat} {ops : List Oper} {Kt : Env → World → (Nat → Prop) → Prop} (ts : List Nat) (K' : Kd) (h : zee ts K = K') (next : OpsD P N C ops i K' H Kt) : OpsD P N C ops i K H Kt := OpsD.sub K' (h ▸ zc5 ts K) next
theorem zk {H : List Hp} {i : Nat} {h : Hp} (e : nth H i = some h) : H.Perm (h :: (H.take i ++ H.drop (i + 1))) := by
  rw [zbC] at e
  obtain ⟨hl, e⟩ := List.getElem?_eq_some_iff.1 e
  have : H = H.take i ++ h :: H.drop (i + 1) := by rw [← e, List.getElem_cons_drop, List.take_append_drop]
  conv => lhs; rw [this]
  exact List.perm_middle
theorem CvL.repE {w : World} {F : Nat → Prop} {z : Nat} {ds ds' : List D} (h : CvL ds ds') : ∀ {vs : List Value}, RepE w F z ds vs → RepE w F z ds' vs := by
  induction h with
  | nil => exact fun h => h
  | cons hd _ ih => rintro _ ⟨u, us, rfl, h2, h3, h4, h5⟩; exact ⟨u, us, rfl, hd.out _ _ _ h2, h3, h4, ih h5⟩
theorem CvL.repC {w : World} {F : Nat → Prop} {z b : Nat} {ds ds' : List D} (h : CvL ds ds') : ∀ {o : Nat}, D.repC w F z b ds o → D.repC w F z b ds' o := by
  induction h with
  | nil => exact fun h => h
  | cons hd _ ih => rintro o ⟨⟨u, h1, h2⟩, h3⟩; exact ⟨⟨u, hd.out _ _ _ h1, h2⟩, ih h3⟩
theorem CvL.len {ds ds' : List D} (h : CvL ds ds') : ds'.length = ds.length := by
  induction h with
  | nil => rfl
  | cons _ _ ih => simp [ih]
theorem Hp.cvs_sl {v : Value} {z : Nat} {T : TypeId} {xs xs' : List D} (h : CvL xs xs') : ∀ w F, (Hp.sl v z T xs).ok w F → (Hp.sl v z T xs').ok w F := fun _ _ ⟨us, h1, h2⟩ => ⟨us, h.repE h1, h2⟩
theorem Cv.shs {z : Nat} {xs xs' : List D} (h : CvL xs xs') : Cv (.sh z xs) (.sh z xs') := ⟨fun w F u ⟨A, c, h1, h2, h3, h4⟩ => ⟨A, c, by rw [h.len]; exact h1, by rw [h.len]; exact h2, by rw [h.len]; exact h3, fun hn => by
  obtain ⟨b, o, h5, h6, h7⟩ := h4 (by rintro rfl; cases h; exact hn rfl)
  exact ⟨b, o, h5, h6, h.repC h7⟩⟩⟩
theorem get_byte (s : ByteArray) (k : Nat) (h : k < s.size) : ∃ u : UInt8, s[k]? = some u := ⟨s[k], by simp [h]⟩
theorem HSub.none {H : List Hp} : HSub H [] := HSub.less (List.nil_sublist _)
theorem HSub.fst {H : List Hp} (n : Nat) {H' : List Hp} (e : H.take n = H') : HSub H H' := e ▸ HSub.less (List.take_sublist n H)
theorem HSub.lst {H : List Hp} (n : Nat) {H' : List Hp} (e : H.drop n = H') : HSub H H' := e ▸ HSub.less (List.drop_sublist n H)
theorem zbu {H : List Hp} {i : Nat} {h : Hp} (e : nth H i = some h) : [h].Sublist H := List.singleton_sublist.2 (z6 e)
theorem zo {H : List Hp} : ∀ h ∈ ([] : List Hp), h ∈ H := fun _ h => by cases h
theorem zaf {H L : List Hp} {j : Nat} {x : Hp} (h : nth H j = some x) (hr : ∀ h ∈ L, h ∈ H) : ∀ h ∈ x :: L, h ∈ H := fun y hy => by
  cases hy with
  | head => exact z6 h
  | tail _ hm => exact hr y hm
theorem zc9 {α : Type} {f : α → D} (h : ∀ x, (f x).flat = true) : ∀ l : List α, D.flat.flatL (l.map f) = true
  | [] => rfl
  | x :: r => by simp [D.flat.flatL, h x, zc9 h r]
theorem za5 {e : D} (h : e.flat = true) : ∀ d H', isR e d H' → d.flat = true ∧ ∀ h ∈ H', h.flat = true := fun _ _ ⟨h1, h2⟩ => by subst h1; subst h2; exact ⟨h, fun _ hh => by cases hh⟩
theorem isOwn_flat {z : Nat} {T : TypeId} {xs : List D} (h : D.flat.flatL xs = true) : ∀ d H', zc7 z T xs d H' → d.flat = true ∧ ∀ h ∈ H', h.flat = true := fun _ _ ⟨v, h1, h2⟩ => by
  subst h1; subst h2; exact ⟨rfl, fun x hx => by rw [List.mem_singleton.1 hx]; exact h⟩
theorem zbn {e : D} : ∀ d' H', isR e d' H' → ArgC H' d' e := fun _ _ ⟨h1, h2⟩ => by subst h1; subst h2; exact ArgC.id
theorem isOwn_share {z : Nat} {T : TypeId} {xs : List D} : ∀ d' H', zc7 z T xs d' H' → ArgC H' d' (.sh z xs) := fun _ _ ⟨v, h1, h2⟩ => by subst h1; subst h2; exact ArgC.own (j := 0) rfl rfl

variable {ty : TypeId} {α : Type} {f : α → D}
theorem zK {t : TypeId} {x y : Operand} {z bytes i : Nat} {v zv : Value} {T : TypeId} {l l' : List α} {d : D} (hx : opO K x = some v) (hm : nth H i = some (.sl v z T (l.map f))) (hy : opD K y = some d) (hsrc : SrcD H z d (l'.map f)) (ht : P.underlying t = some (.slice T))
    (hi' : ∃ i, P.info? T = some i ∧ i.zero = some zv ∧ i.size = z ∧ i.bytes = bytes) (hzs : zv.cells.size = z) (hsz : Nat.blt 0 z = true) (hlen : l.length + l'.length ≤ maxLen) (hbytes : (l.length + l'.length) * bytes ≤ 140737488355328) :
    Ef P (.call { callee := .builtin .append, args := #[x, y], argTypes := #[t, t] }) ty K H (fun d H' => ∃ v', d = .ov v' ∧ H' = H.set i (.sl v' z T ((l ++ l').map f))) := by
  have := ef_append (ty := ty) hx hm hy hsrc ht hi' hzs hsz (by simpa using hlen) (by simpa using hbytes)
  rw [← List.map_append] at this
  exact this
/-- append onto nothing: a row of the call's own -/
theorem zbs {t : TypeId} {x y : Operand} {z bytes : Nat} {zv : Value} {T : TypeId} {l' : List α} {d : D} (hx : opD K x = some (.v (.slice none 0 0))) (hy : opD K y = some d) (hsrc : SrcD (.sl (.slice none 0 0) z T [] :: H) z d (l'.map f)) (ht : P.underlying t = some (.slice T))
    (hi' : ∃ i, P.info? T = some i ∧ i.zero = some zv ∧ i.size = z ∧ i.bytes = bytes) (hzs : zv.cells.size = z) (hsz : Nat.blt 0 z = true) (hlen : l'.length ≤ maxLen) (hbytes : l'.length * bytes ≤ 140737488355328) :
    Ef P (.call { callee := .builtin .append, args := #[x, y], argTypes := #[t, t] }) ty K H (fun d H' => ∃ v', d = .ov v' ∧ H' = .sl v' z T (l'.map f) :: H) := by
  have := ef_append (ty := ty) (i := 0) (xs := []) (by unfold opO; rw [hx]; rfl) rfl hy hsrc ht hi' hzs hsz (by simpa using hlen) (by simpa using hbytes)
  exact Ef.preH (HSub.nil z T) (by simpa using this)
theorem zaT {t : TypeId} {x y : Operand} {v : Value} {z k o n i : Nat} {T : TypeId} {l : List α} {a a' : α} {d : D} (hx : opD K x = some (.v (.pointer (some ⟨bl v, k * z + o, none⟩)))) (hm : nth H i = some (.sl v z T (l.map f))) (ha : l[k]? = some a) (hy : opD K y = some d) (hc : CellD H d)
    (hs : ∀ w, (Go.sizeOf t).run P w = .ok n w) (hn : Nat.beq d.cells.length n = true) (ho : Nat.ble (o + n) (f a).cells.length = true) (hX : splD (f a) o d = some (f a')) : Ef P (.store t x y) ty K H (fun r H' => r = .v undef ∧ H' = H.set i (.sl v z T ((l.set k a').map f))) := by
  have := ef_store_sl (ty := ty) hx hm (zt ha) hy hc hs hn ho hX
  rw [← List.map_set] at this
  exact this
/-- is a slice nil? what all may read does not tell, but where it is it holds nothing -/
theorem ef_isNil {t t' : TypeId} {x : Operand} {z : Nat} {xs : List D} (hx : opD K x = some (.sh z xs)) (hr : ∀ A n c w, (do eqGuard .eql t x (.const (.slice none 0 0)) (.slice A n c) (.slice none 0 0); binOp .eql t (.slice A n c) (.slice none 0 0) : Sem Value).run P w = .ok (.bool A.isNone) w) :
    Ef P (.binOp .eql t x (.const (.slice none 0 0)) t') ty K H (fun d H' => ∃ b, d = .v (.bool b) ∧ H' = H ∧ (b = true → xs = [])) :=
  ⟨fun C ρ w F hk gd => by
    obtain ⟨A, c, h, h1, h2, h3⟩ := hk.op hx
    refine zce (zI ρ [x]) (opv1 ρ h) rfl (fun w => hr A xs.length c w) ⟨F, _, _, ⟨A.isNone, rfl, rfl, fun hn => ?_⟩, rfl, gd, Keep.rfl'⟩
    rcases Nat.eq_zero_or_pos xs.length with h0 | h0
    · exact List.eq_nil_of_length_eq_zero h0
    · obtain ⟨b, o, e, _⟩ := h3 (by intro e; rw [e] at h0; simp at h0)
      rw [e] at hn; cases hn⟩
end

theorem zbc {α β : Type} {r : Result α} {k : α → World → Result β} {v : β} {w' : World} (h : r.andThen k = .ok v w') : ∃ a w1, r = .ok a w1 ∧ k a w1 = .ok v w' := by
  cases r with
  | ok a w1 => exact ⟨a, w1, rfl, h⟩
  | halt x w1 => cases h
theorem load_same {P : Program} {a : Addr} {m : Mode} {w w1 : World} {v : Value} (h : (load a m).run P w = .ok v w1) : w1 = w := by
  rw [run_load] at h
  split at h
  · cases h; rfl
  · split at h
    · cases h; rfl
    · cases h
theorem loadFrom_same {P : Program} {a : Addr} : ∀ (n i : Nat) (acc r : Array Value) (w w1 : World), (loadCellsFrom a i n acc).run P w = .ok r w1 → w1 = w
  | 0, i, acc, r, w, w1, h => by simp [loadCellsFrom] at h; exact h.2.symm
  | n + 1, i, acc, r, w, w1, h => by
    unfold loadCellsFrom at h
    rw [Sem.run_bind] at h
    obtain ⟨x, w2, h1, h2⟩ := zbc h
    have := load_same h1
    subst this
    exact loadFrom_same n _ _ _ _ _ h2
theorem firstCells_same {P : Program} {z n : Nat} {A : Option Addr} {k c : Nat} {r : Array Value} {w w1 : World} (h : (Builtin.firstCells z n (.slice A k c)).run P w = .ok r w1) : w1 = w := by
  cases A with
  | none => simp [Builtin.firstCells] at h; exact h.2.symm
  | some a => exact loadFrom_same _ _ _ _ _ _ h
theorem zero_same {P : Program} {E : TypeId} {r : Value} {w w1 : World} (h : (zeroValue E).run P w = .ok r w1) : w1 = w := by
  simp only [zeroValue, Sem.run_bind, typeInfo, run_program, Result.andThen_ok] at h
  cases hi : P.info? E with
  | none => simp [hi] at h
  | some i =>
    simp only [hi, Sem.run_pure, Result.andThen_ok] at h
    cases hz : i.zero with
    | none => simp [hz] at h
    | some z => simp [hz] at h; exact h.2.symm
theorem newRow_ext {P : Program} {E : TypeId} {c : Array Value} {a : Addr} {w w1 : World} (h : (newRow E c).run P w = .ok a w1) : Ext w w1 := by
  simp [newRow] at h
  obtain ⟨_, rfl⟩ := h
  exact Ext.alloc _ _
theorem append_moved {P : Program} {w w' : World} {t ty E n cap m c : Nat} {A B : Option Addr} {v' : Value} {i : TypeInfo} (ht : P.underlying t = some (.slice E)) (hi : P.info? E = some i) (hn : cap < n + m) (hb : (n + m) * i.bytes ≤ 140737488355328) (hm : n + m ≤ maxLen)
    (h : (Builtin.append_ #[t, t] ty #[.slice A n cap, .slice B m c]).run P w = .ok v' w') : Ext w w' := by
  simp [Builtin.append_, run_underlying ht, Go.sizeOf, typeInfo, hi, Builtin.lenOf, show ¬ n + m ≤ cap by omega] at h
  have fin : ∀ {W : World} {k : Nat} {f : Addr → World → Result Value}, Ext w W → (∀ a w1 v w2, f a w1 = .ok v w2 → w2 = w1) → ((Sem.run P (Builtin.firstCells i.size n (Value.slice A n cap)) W).andThen fun a w' =>
                (Sem.run P (Builtin.firstCells i.size m (Value.slice B m c)) w').andThen fun a_1 w' =>
                  (Sem.run P (zeroValue E) w').andThen fun a_2 w' =>
                    (Sem.run P (newRow E (a ++ (a_1 ++ Builtin.zeroCells a_2.cells k))) w').andThen f) = .ok v' w' → Ext w w' := by
    intro W k f hE hf h
    obtain ⟨a, w1, h1, h⟩ := zbc h
    obtain ⟨a1, w2, h2, h⟩ := zbc h
    obtain ⟨a2, w3, h3, h⟩ := zbc h
    obtain ⟨a3, w4, h4, h⟩ := zbc h
    have e1 := firstCells_same h1
    have e2 := firstCells_same h2
    have e3 := zero_same h3
    have e4 := newRow_ext h4
    have e5 := hf _ _ _ _ h
    subst e1; subst e2; subst e3; subst e5
    exact hE.trans e4
  have hcond : ¬ (9223372036854775807 < (n : Int) + (m : Int) ∧ i.bytes = 0) := by
    rintro ⟨h1, _⟩; unfold maxLen at hm; omega
  rw [if_neg hcond] at h
  split at h
  · obtain ⟨_, _, h, _⟩ := zbc h; obtain ⟨_, _, _, h⟩ := zbc h; cases h
  · split at h
    · exact fin (W := w) Ext.rfl' (fun _ _ _ _ h => by cases h; rfl) h
    · exact fin (W := w.drew) (Ext.drew w) (fun _ _ _ _ h => by cases h; rfl) h
theorem append_inplace {P : Program} {w w' : World} {t ty E n cap m c : Nat} {A B : Option Addr} {v' : Value} {i : TypeInfo} (ht : P.underlying t = some (.slice E)) (hi : P.info? E = some i) (hn : n + m ≤ cap)
    (h : (Builtin.append_ #[t, t] ty #[.slice A n cap, .slice B m c]).run P w = .ok v' w') : v' = .slice A (n + m) cap := by
  simp [Builtin.append_, run_underlying ht, Go.sizeOf, typeInfo, hi, Builtin.lenOf, hn] at h
  obtain ⟨a, w1, h1, h⟩ := zbc h
  cases A with
  | none => simp at h; exact h.1.symm
  | some ad =>
    simp at h
    obtain ⟨_, _, _, h⟩ := zbc h
    cases h; rfl
/-- The front part of a row of the call's own, as a slice of its own. -/
theorem Own.front {w : World} {z : Nat} {T : TypeId} {g n m cap : Nat} {us : List Value} (h : Own vcs z T w 0 (.slice (some ⟨g, 0, none⟩) n cap) us) (hm : m ≤ us.length) : Own vcs z T w 0 (.slice (some ⟨g, 0, none⟩) m cap) (us.take m) := by
  have hz := h.2
  have hz' : ∀ x ∈ us.take m, (vcs x).length = z := fun x hx => hz x (List.mem_of_mem_take hx)
  rcases h.1.2 with ⟨e, _⟩ | ⟨g', cap', cur, e, hb, hg, hnc, hmx, hsz, htk⟩
  · cases e
  · injection e with e1 e2 e3
    injection e1 with e1; injection e1 with e1
    subst e1; subst e3
    have hl : (us.take m).length = m := by rw [List.length_take]; omega
    refine ⟨⟨zcq hz', .inr ⟨g, cap, cur, by rw [hl], hb, hg, by omega, hmx, hsz, ?_⟩⟩, hz'⟩
    rw [hl]
    have h1 : cur.toList.take (m * z) = (cur.toList.take (us.length * z)).take (m * z) := by
      rw [List.take_take, Nat.min_eq_left (Nat.mul_le_mul_right z hm)]
    rw [h1, htk]
    have hfl : ((us.take m).flatMap vcs).length = m * z := by rw [zcq hz', hl]
    have : us.flatMap vcs = (us.take m).flatMap vcs ++ (us.drop m).flatMap vcs := by rw [← List.flatMap_append, List.take_append_drop]
    rw [this, ← hfl, List.take_left]
theorem HSub.pair {H : List Hp} {v : Value} {z : Nat} {T : TypeId} {xs : List D} (m : Nat) (hm : xs.length = m) : HSub (.sl v z T xs :: H) (.sl2 v v z T m xs :: H) := HSub.turn (by funext b; simp [Hp.blk]) (fun w F ⟨us, h1, h2⟩ => by
  have hl := h1.len
  exact ⟨us, h1, h2, by rw [List.take_of_length_le (by omega)]; exact h2, by omega⟩)
theorem ef_append2 {P : Program} {ty : TypeId} {K : Kd} {H : List Hp} {α : Type} {f : α → D} {t : TypeId} {x y : Operand} {z bytes i m : Nat} {v0 v zv : Value} {T : TypeId} {l l' : List α} {d : D} (hx : opO K x = some v) (hm : nth H i = some (.sl2 v0 v z T m (l.map f))) (hy : opD K y = some d) (hsrc : SrcD H z d (l'.map f)) (ht : P.underlying t = some (.slice T))
    (hi' : ∃ i, P.info? T = some i ∧ i.zero = some zv ∧ i.size = z ∧ i.bytes = bytes) (hzs : zv.cells.size = z) (hsz : Nat.blt 0 z = true) (hlen : l.length + l'.length ≤ maxLen) (hbytes : (l.length + l'.length) * bytes ≤ 140737488355328) :
    Ef P (.call { callee := .builtin .append, args := #[x, y], argTypes := #[t, t] }) ty K H (fun d H' => ∃ v', d = .ov v' ∧ H' = H.set i (.sl2 v0 v' z T m ((l ++ l').map f))) :=
  ⟨fun C ρ w F hk gd => by
    obtain ⟨us, hus, hown, hown0, hmle⟩ := gd.h.ok _ (z6 hm)
    obtain ⟨vs, hvs, hsl⟩ := hsrc.out w F _ gd.flt gd.h.ok (hk.op hy)
    have hul := hus.len
    have hvl := hvs.len
    rw [List.length_map] at hul hvl hmle
    have hz := zbj.1 hsz
    refine e_append' (α := Value) (cs := vcs) (z := z) (E := T) (base := 0) (xs := us) (ys := vs) (zI ρ [x, y]) (zbq ρ (hk.opO hx)) (zbp ρ rfl) ht hi' hzs hz hown hsl (fun u hu => ?_) (by omega) (by rw [hul, hvl]; exact hbytes) (Nat.zero_le _) (fun v' w' h1 h2 h3 h4 => ?_)
    · have := hvs.one u hu
      have gen : ∀ l : List Value, (∀ c ∈ l, c.oneCell' = true) → zcc l := by
        intro l; induction l with
        | nil => exact fun _ => trivial
        | cons a r ih => exact fun h => ⟨h a List.mem_cons_self, ih fun c hc => h c (List.mem_cons_of_mem _ hc)⟩
      exact gen _ this
    · obtain ⟨i0, q1, q2, q3, q4⟩ := hi'
      obtain ⟨a, b, U, hU⟩ := h2
      obtain ⟨A, cp, ev, _⟩ := hown.sl.capOk
      obtain ⟨B, c, es, _⟩ := hsl.capOk
      have key : Own vcs z T w' 0 v0 ((us ++ vs).take m) := by
        rw [List.take_append_of_le_length (by omega)]
        by_cases hin : us.length + vs.length ≤ cp
        · rw [ev, es] at h4
          have e := append_inplace ht q1 hin h4
          rcases hown0.1.2 with ⟨e0, h0⟩ | ⟨g0, c0, cur0, e0, _, hg0, hnc0, hmx0, hs0, ht0⟩
          · exact ⟨⟨hown0.1.1, .inl ⟨e0, h0⟩⟩, hown0.2⟩
          · by_cases hsame : v.ownBlock = some g0
            · rcases hown.1.2 with ⟨e1, _⟩ | ⟨g1, c1, cur1, e1, _, hg1, hnc1, hmx1, hs1, ht1⟩
              · rw [e1] at hsame; cases hsame
              · rw [e1] at hsame ev
                injection ev with ev1 ev2 ev3
                have : g1 = g0 := by simpa [Value.ownBlock] using hsame
                subst this
                rw [hg1] at hg0
                injection hg0 with hg0; injection hg0 with hg0
                have hcap : c0 = cp := by
                  have h5 : c1 * z = c0 * z := by rw [← hs1, ← hs0, hg0]
                  have := Nat.eq_of_mul_eq_mul_right hz h5
                  omega
                rw [e, ← ev1] at h1
                have hf := Own.front (m := (us.take m).length) h1 (by rw [List.length_take, List.length_append]; omega)
                rw [e0, hcap]
                have : (us ++ vs).take (us.take m).length = us.take m := by
                  rw [List.length_take, Nat.min_eq_left (by omega), List.take_append_of_le_length (by omega)]
                rw [this] at hf
                exact hf
            · refine hown0.upd U (fun g hg => ?_)
              rw [e0] at hg
              have : g0 = g := by simpa [Value.ownBlock] using hg
              subst this
              rcases hU with ⟨rfl, rfl⟩ | ⟨h5, rfl, _⟩
              · exact .inr (Nat.zero_le _)
              · have : a ≠ g0 := fun e => hsame (by rw [← e]; exact h5)
                omega
        · rw [ev, es] at h4
          have E := append_moved ht q1 (by omega) (by rw [q4, hul, hvl]; exact hbytes) (by omega) h4
          exact hown0.ext E
      have := gd.turn (h' := .sl2 v0 v' z T m ((l ++ l').map f)) hm (fun c hc hn => U.block c hc (by
        rcases hU with ⟨rfl, rfl⟩ | ⟨h4, rfl, _⟩
        · exact .inr (Nat.zero_le _)
        · have : a ≠ c := fun e => hn (by subst e; exact .inr h4)
          omega)) U.size U.os U.tape U.output (fun c e => by
        rcases e with e | e
        · exact .inl (.inl e)
        rcases h3 with h3 | h3
        · exact .inl (.inr (by rw [← h3]; exact e))
        · rw [h3] at e; cases e; exact .inr (Nat.le_refl _)) (fun kp => ⟨us ++ vs, by rw [List.map_append]; exact (hus.keep kp).app (hvs.keep kp), h1, key, by rw [List.length_map, List.length_append]; omega⟩)
      exact ⟨F, .ov v', _, ⟨v', rfl, rfl⟩, ⟨rfl, h1.one⟩, this.1, this.2⟩⟩
/-- What such a row was ahead, and what it is. -/
theorem pair_len {w : World} {F : Nat → Prop} {z : Nat} {T : TypeId} {v : Value} {us : List Value} (h : Own vcs z T w 0 v us) : us.length ≤ maxLen := by
  rcases h.1.2 with ⟨_, h0⟩ | ⟨g, cap, cur, _, _, _, h3, h4, _⟩
  · rw [h0]; exact Nat.zero_le _
  · omega
theorem own_sh {w : World} {F B : Nat → Prop} {z : Nat} {T : TypeId} {v : Value} {us : List Value} {xs : List D} (h : Own vcs z T w 0 v us) (hr : RepE w F z xs us) (hB : ∀ g, v.ownBlock = some g → B g) : D.rep w (fun b => F b ∨ B b) (.sh z xs) v :=
  D.sl_rep (hr.keep (Keep.wide _)) h.sl (fun _ g hg => .inr (hB g hg)) (pair_len (F := F) h)
theorem ArgC.was {L : List Hp} {z j m : Nat} {v0 v : Value} {T : TypeId} {α : Type} {f : α → D} {l : List α} (hm : nth L j = some (.sl2 v0 v z T m (l.map f))) {d : D} (hd : asO d = some v0) : ArgC L d (.sh z ((l.take m).map f)) := ⟨fun w F u hF hL hr => by
  obtain ⟨us, h1, h2, h3, h4⟩ := hL _ (z6 hm)
  have : u = _ := zdZ hr hd
  subst this
  rw [List.map_take]
  exact own_sh h3 (h1.take m) (fun g hg => ⟨_, z6 hm, .inl hg⟩)⟩
theorem ArgC.now {L : List Hp} {z j m : Nat} {v0 v : Value} {T : TypeId} {xs : List D} (hm : nth L j = some (.sl2 v0 v z T m xs)) {d : D} (hd : asO d = some v) : ArgC L d (.sh z xs) := ⟨fun w F u hF hL hr => by
  obtain ⟨us, h1, h2, h3, h4⟩ := hL _ (z6 hm)
  have : u = _ := zdZ hr hd
  subst this
  exact own_sh h2 h1 (fun g hg => ⟨_, z6 hm, .inr hg⟩)⟩
/-! ### what comes in -/
abbrev FA (w : World) : Nat → Prop := fun b => b < w.heap.size
section
variable {H : Type} {enc : TypeId × Value → H} {P : Program} {w : World} {held : Bool} {sp : Nat → Bool}

/-- cells that read as a datum of z cells -/
def InD (w : World) (z : Nat) (d : D) (cs : List Value) : Prop := ∃ u, cs = vcs u ∧ D.rep w (FA w) d u ∧ One u ∧ cs.length = z

theorem open_slD {α : Type} [Inhabited α] (f : α → D) {z : Nat} {t e : TypeId} {fuel : Nat} {vs : List Value} {x : DataW H × List MemPlace} (ht : P.underlying t = some (.slice e)) (hz : P.cellsOf e = z) (hz0 : 0 < z)
    (h : DataW.trod enc P w 0 sp held fuel t vs = some x)
    (el : ∀ n cs' y, DataW.trod enc P w 0 sp held n e cs' = some y → ∃ d : α, InD w z (f d) cs') :
    ∃ (v : Value) (xs : List α), vs = [v] ∧ D.rep w (FA w) (.sh z (xs.map f)) v := by
  haveI : Inhabited (α × Value) := ⟨(default, undef)⟩
  obtain ⟨v, xs, h1, h2, h3, h4⟩ := open_sl (α := α × Value) (cs := fun p => vcs p.2) (z := z) (fun p => D.rep w (FA w) (f p.1) p.2 ∧ One p.2 ∧ (vcs p.2).length = z) ht hz hz0 h (fun n cs' y hy => by
    obtain ⟨d, u, e1, e2, e3, e4⟩ := el n cs' y hy
    exact ⟨(d, u), e1, by rw [← e1]; exact e4, e2, e3, by rw [← e1]; exact e4⟩)
  refine ⟨v, xs.map (·.1), h1, ?_⟩
  have hE : ∀ ys : List (α × Value), (∀ p ∈ ys, D.rep w (FA w) (f p.1) p.2 ∧ One p.2 ∧ (vcs p.2).length = z) → RepE w (FA w) z ((ys.map (·.1)).map f) (ys.map (·.2)) := by
    intro ys
    induction ys with
    | nil => intro _; exact rfl
    | cons p r ih =>
      intro hp
      have h0 := hp p List.mem_cons_self
      exact ⟨p.2, r.map (·.2), rfl, h0.1, h0.2.1, by simpa [vcs] using h0.2.2, ih (fun q hq => hp q (List.mem_cons_of_mem _ hq))⟩
  have hsl : SlT vcs z w 0 w.heap.size v (xs.map (·.2)) := by
    show Sl w 0 w.heap.size z v ((xs.map (·.2)).map vcs)
    rw [List.map_map]; exact h2
  refine D.sl_rep (hE xs h3) hsl (fun hn g hg => ?_) (by simpa using h4)
  obtain ⟨A, c, e1, e2, e3, e4, e5⟩ := hsl
  obtain ⟨b, o, e6, _, e7, _⟩ := e4 (by simpa using hn)
  rw [e1, e6] at hg
  cases hg; exact e7
theorem InD.one {d : D} {v : Value} (h : D.rep w (FA w) d v) (h1 : v.oneCell' = true) : InD w 1 d [v] := ⟨v, (vcs_one h1).symm, h, One.one h1, rfl⟩
end
end Lp
/-
  Rows and their order, as plain data: how two labels, two lists of labels, two rows stand.
-/
namespace Lp
open Go

abbrev dN (n : Nat) : D := .v (.int .i64 (n : Int))
/-- A row as data. -/
structure RowD where
  ls : List Lbl
  v : Int
  deriving DecidableEq
abbrev LLs := List (List RowD)
def Lbl.d (x : Lbl) : D := .agg [.s x.n, .s x.v]
def RowD.d (x : RowD) : D := .agg [.sh 2 (x.ls.map Lbl.d), .v (.int .i64 x.v)]

def or2 (a b : Int) : Int := if a ≠ 0 then a else b
def zbg : List Int → Int
  | [] => 0
  | a :: r => if a ≠ 0 then a else zbg r
theorem firstNZ_two (a b : Int) : zbg [a, b] = or2 a b := by
  unfold zbg zbg zbg or2; split
  · rfl
  · split <;> omega
def zN (a b : Lbl) : Int := or2 (cmpS a.n b.n) (cmpS a.v b.v)
def z1 : List Lbl → List Lbl → Int
  | [], [] => 0
  | [], _ :: _ => -1
  | _ :: _, [] => 1
  | a :: r, b :: s => if zN a b ≠ 0 then zN a b else z1 r s
def cmpI (a b : Int) : Int := if a < b then -1 else if b < a then 1 else 0
def zO (o : Int) (a b : RowD) : Int :=
  if o = 1 then or2 (cmpI a.v b.v) (z1 a.ls b.ls) else if o = 2 then or2 (cmpI b.v a.v) (z1 a.ls b.ls) else z1 a.ls b.ls
def less (o : Int) (a b : RowD) : Bool := decide (zO o a b < 0)

theorem zat {α : Type} {xs : List α} {k : Nat} {x : α} (h : xs[k]? = some x) : xs.drop k = x :: xs.drop (k + 1) := by
  have hk := get_lt h
  rw [List.drop_eq_getElem_cons hk]
  congr 1
  exact (List.getElem?_eq_some_iff.1 h).2
/-- The first that part. -/
theorem cmpLs_at {a b : List Lbl} {k : Nat} {x y : Lbl} (hx : a[k]? = some x) (hy : b[k]? = some y) (hd : z1 a b = z1 (a.drop k) (b.drop k)) (hc : zN x y ≠ 0) : z1 a b = zN x y := by
  rw [hd, zat hx, zat hy]; unfold z1; rw [if_pos hc]
theorem cmpLs_next {a b : List Lbl} {k : Nat} {x y : Lbl} (hx : a[k]? = some x) (hy : b[k]? = some y) (hd : z1 a b = z1 (a.drop k) (b.drop k)) (hc : zN x y = 0) : z1 a b = z1 (a.drop (k + 1)) (b.drop (k + 1)) := by
  rw [hd, zat hx, zat hy]
  conv => lhs; unfold z1
  rw [if_neg (by omega)]
theorem cmpLs_right {a b : List Lbl} {k : Nat} {x : Lbl} (hx : a[k]? = some x) (hy : b.length ≤ k) (hd : z1 a b = z1 (a.drop k) (b.drop k)) : z1 a b = 1 := by
  rw [hd, zat hx, List.drop_eq_nil_of_le hy]; rfl
theorem cmpLs_end {a b : List Lbl} {k : Nat} (hx : a.length ≤ k) (hd : z1 a b = z1 (a.drop k) (b.drop k)) (hk : k ≤ a.length) : z1 a b = if a.length < b.length then -1 else 0 := by
  rw [hd, List.drop_eq_nil_of_le hx]
  split
  · have : b.drop k ≠ [] := by intro h; have := congrArg List.length h; simp at this; omega
    cases h : b.drop k with
    | nil => exact absurd h this
    | cons y s => rfl
  · rw [List.drop_eq_nil_of_le (by omega)]; rfl

theorem firstNZ_next {ns : List Int} {k : Nat} {x : Int} (hx : ns[k]? = some x) (h : zbg ns = zbg (ns.drop k)) (hz : x = 0) : zbg ns = zbg (ns.drop (k + 1)) := by
  rw [h, zat hx]; conv => lhs; unfold zbg
  rw [if_neg (by omega)]
theorem firstNZ_at {ns : List Int} {k : Nat} {x : Int} (hx : ns[k]? = some x) (h : zbg ns = zbg (ns.drop k)) (hz : x ≠ 0) : zbg ns = x := by
  rw [h, zat hx]; unfold zbg; rw [if_pos hz]
theorem cmpLs_nil {a b : List Lbl} {k : Nat} (h1 : a.length ≤ k) (h2 : b.length ≤ k) (_h : k ≤ a.length) : z1 (a.drop k) (b.drop k) = 0 := by
  rw [List.drop_eq_nil_of_le h1, List.drop_eq_nil_of_le h2]; rfl
theorem cmpLs_nil_l {a b : List Lbl} {k : Nat} (h1 : a.length ≤ k) (h2 : k < b.length) : z1 (a.drop k) (b.drop k) = -1 := by
  obtain ⟨y, hy⟩ := zG b k h2
  rw [List.drop_eq_nil_of_le h1, zat hy]; rfl
theorem cmpLs_nil_r {a b : List Lbl} {k : Nat} (h1 : k < a.length) (h2 : b.length ≤ k) : z1 (a.drop k) (b.drop k) = 1 := by
  obtain ⟨y, hy⟩ := zG a k h1
  rw [List.drop_eq_nil_of_le h2, zat hy]; rfl

def zam (ls : List Lbl) : Bool := (ls.take 30).all (fun x => decide (x.n.size ≤ 200) && decide (x.v.size ≤ 200)) && decide (ls.length ≤ 20)
def za4 (rs : List RowD) : Bool := (rs.take 100).all (fun r => zam r.ls) && decide (rs.length ≤ 60)

theorem zbR {α : Type} {f : α → Bool} {xs : List α} {k : Nat} {x : α} (hx : xs[k]? = some x) (h : (xs.take k).all f = true) (hf : f x = true) : (xs.take (k + 1)).all f = true := by
  rw [z0 hx, List.all_append, h]; simp [hf]
theorem all_take_bad {α : Type} {f : α → Bool} {xs : List α} {k n : Nat} {x : α} (hx : xs[k]? = some x) (hk : k < n) (hf : f x = false) : (xs.take n).all f = false := by
  rw [List.all_eq_false]
  refine ⟨x, ?_, by simp [hf]⟩
  have : (xs.take n)[k]? = some x := by rw [List.getElem?_take, if_pos hk]; exact hx
  exact List.mem_of_getElem? this
theorem all_take_le {α : Type} {f : α → Bool} {xs : List α} {k n : Nat} (h : (xs.take k).all f = true) (hk : xs.length ≤ k ∨ n ≤ k) : (xs.take n).all f = true := by
  rw [List.all_eq_true] at h ⊢
  intro x hx
  refine h x ?_
  rcases hk with hk | hk
  · rw [List.take_of_length_le hk]; exact List.mem_of_mem_take hx
  · have : xs.take n = (xs.take k).take n := by rw [List.take_take, Nat.min_eq_left hk]
    rw [this] at hx; exact List.mem_of_mem_take hx
theorem zav {α : Type} {xs : List α} {k : Nat} {x : α} (h : xs[k]? = some x) : x ∈ xs := List.mem_of_getElem? h
theorem zbZ {α : Type} [DecidableEq α] {a b : List α} (h : a.length ≠ b.length) : decide (a = b) = false := by
  rw [decide_eq_false]; rintro rfl; exact h rfl
theorem same_ne_at {α : Type} [DecidableEq α] {a b : List α} {k : Nat} {x y : α} (hx : a[k]? = some x) (hy : b[k]? = some y) (h : x ≠ y) : decide (a = b) = false := by
  rw [decide_eq_false]; rintro rfl; rw [hx] at hy; cases hy; exact h rfl
theorem zcW {α : Type} [DecidableEq α] {a b : List α} {k : Nat} (hl : a.length = b.length) (hk : a.length ≤ k) (h : a.take k = b.take k) : decide (a = b) = true := by
  rw [decide_eq_true]; rwa [List.take_of_length_le hk, List.take_of_length_le (by omega)] at h
theorem same_snoc {α : Type} {a b : List α} {k : Nat} {x y : α} (hx : a[k]? = some x) (hy : b[k]? = some y) (h : a.take k = b.take k) (he : x = y) : a.take (k + 1) = b.take (k + 1) := by rw [z0 hx, z0 hy, h, he]

theorem lightL_bad {xs : List Lbl} {k : Nat} {x : Lbl} (hx : xs[k]? = some x) (hk : k < 30) (h : 200 < x.n.size ∨ 200 < x.v.size) : zam xs = false := by
  unfold zam; rw [all_take_bad hx hk]; · rfl
  rw [Bool.and_eq_false_iff, decide_eq_false_iff_not, decide_eq_false_iff_not]; omega
theorem lightL_end {xs : List Lbl} {k : Nat} (h : (xs.take k).all (fun x => decide (x.n.size ≤ 200) && decide (x.v.size ≤ 200)) = true) (hk : xs.length ≤ k ∨ 30 ≤ k) : zam xs = decide (xs.length ≤ 20) := by
  unfold zam; rw [all_take_le h hk, Bool.true_and]
theorem lightR_bad {xs : List RowD} {k : Nat} {x : RowD} (hx : xs[k]? = some x) (hk : k < 100) (h : zam x.ls = false) : za4 xs = false := by
  unfold za4; rw [all_take_bad hx hk h]; rfl
theorem lightR_end {xs : List RowD} {k : Nat} (h : (xs.take k).all (fun r => zam r.ls) = true) (hk : xs.length ≤ k ∨ 100 ≤ k) : za4 xs = decide (xs.length ≤ 60) := by
  unfold za4; rw [all_take_le h hk, Bool.true_and]
theorem lightR_len {rs : List RowD} (h : za4 rs = true) : rs.length ≤ 60 := by
  unfold za4 at h; simp only [Bool.and_eq_true, decide_eq_true_eq] at h; exact h.2
theorem lightL_len {ls : List Lbl} (h : zam ls = true) : ls.length ≤ 20 := by
  unfold zam at h; simp only [Bool.and_eq_true, decide_eq_true_eq] at h; exact h.2
theorem lightR_row {rs : List RowD} (h : za4 rs = true) {r : RowD} (hr : r ∈ rs) : zam r.ls = true := by
  have hl := lightR_len h
  unfold za4 at h
  simp only [Bool.and_eq_true] at h
  have h1 := h.1
  rw [List.take_of_length_le (by omega), List.all_eq_true] at h1
  exact h1 r hr
end Lp
/-
  What comes in, as data: labels, rows, lists of rows, texts; and a law whose answer is fixed.
-/
set_option linter.unusedVariables false
namespace Lp
open Go Go.RowKit Go.ChangeShapes Go.Deep Go.Proofs

instance : Inhabited Lbl := ⟨⟨ByteArray.empty, ByteArray.empty⟩⟩
instance : Inhabited RowD := ⟨⟨[], 0⟩⟩

/-- A call that owns nothing and whose answer is fixed. -/
theorem CD.law {P : Program} {f : FuncId} {ds : List D} {r : D} (h : CD P f [] ds (isR r)) {w : World} {vs : List Value} (hr : D.repA w (FA w) ds vs) : Calls P f vs.toArray w (Ret fun u w' => Ext w w' ∧ ∃ F', D.rep w' F' r u) := by
  refine (h.out w (FA w) vs hr (fun _ h => h) HOk.empty).mono ?_
  rintro e w' ⟨u, rfl, F', d', H', ⟨rfl, rfl⟩, hrep, g⟩
  have hno : ∀ b, ¬ blks [] b := fun _ ⟨_, h, _⟩ => by cases h
  exact ⟨u, rfl, ⟨g.os, g.tape, g.output, g.size, fun b hb _ => g.frame b hb (hno b)⟩, F', hrep⟩

section
variable {H : Type} {enc : TypeId × Value → H} {w : World} {held : Bool} {sp : Nat → Bool} {n : Nat}
theorem in_int {cs : List Value} {y : DataW H × List MemPlace} (h : DataW.trod enc Tryz.prog w 0 sp held n 3 cs = some y) : ∃ d : Int, InD w 1 (.v (.int .i64 d)) cs := by
  obtain ⟨i, e1, _, _⟩ := DataW.trod_int (by kernel_rfl) h
  exact ⟨i, by rw [e1]; exact InD.one rfl rfl⟩
theorem in_str {cs : List Value} {y : DataW H × List MemPlace} (h : DataW.trod enc Tryz.prog w 0 sp held n 9 cs = some y) : ∃ d : ByteArray, InD w 1 (.s d) cs := by
  obtain ⟨s0, e0, _, k0⟩ := DataW.trod_string (by kernel_rfl) h
  exact ⟨s0, by rw [e0]; exact InD.one ⟨rfl, k0⟩ rfl⟩
theorem in_lbl {cs : List Value} {y : DataW H × List MemPlace} (h : DataW.trod enc Tryz.prog w 0 sp held n 62 cs = some y) : ∃ d : Lbl, InD w 2 (Lbl.d d) cs := by
  obtain ⟨a, b, y0, y1, m, rfl, h0, h1⟩ := open_str2 (f0 := ⟨"Name", 9, 0, false, "", "", 0⟩) (f1 := ⟨"Value", 9, 1, false, "", "", 16⟩) (by kernel_rfl) rfl rfl (by kernel_rfl) (by kernel_rfl) (by kernel_rfl) h
  obtain ⟨s0, e0, _, k0⟩ := DataW.trod_string (by kernel_rfl) h0
  obtain ⟨s1, e1, _, k1⟩ := DataW.trod_string (by kernel_rfl) h1
  simp at e0 e1
  subst e0; subst e1
  exact ⟨⟨s0, s1⟩, .agg #[.string s0, .string s1], rfl, ⟨_, rfl, _, _, rfl, rfl, ⟨rfl, k0⟩, _, _, rfl, rfl, ⟨rfl, k1⟩, rfl⟩, fun c hc => by
    simp [Value.cells] at hc; rcases hc with rfl | rfl <;> rfl, rfl⟩
theorem in_labels {vs : List Value} {x : DataW H × List MemPlace} (h : DataW.trod enc Tryz.prog w 0 sp held n 50 vs = some x) : ∃ (v : Value) (ls : List Lbl), vs = [v] ∧ D.rep w (FA w) (.sh 2 (ls.map Lbl.d)) v := open_slD Lbl.d (by kernel_rfl) (by kernel_rfl) (by decide) h (fun _ _ _ h => in_lbl h)
theorem in_texts {vs : List Value} {x : DataW H × List MemPlace} (h : DataW.trod enc Tryz.prog w 0 sp held n 23 vs = some x) : ∃ (v : Value) (ls : List ByteArray), vs = [v] ∧ D.rep w (FA w) (.sh 1 (ls.map D.s)) v := open_slD D.s (by kernel_rfl) (by kernel_rfl) (by decide) h (fun _ _ _ h => in_str h)
theorem in_row {cs : List Value} {y : DataW H × List MemPlace} (h : DataW.trod enc Tryz.prog w 0 sp held n 53 cs = some y) : ∃ d : RowD, InD w 2 (RowD.d d) cs := by
  obtain ⟨a, b, y0, y1, m, rfl, h0, h1⟩ := open_str2 (f0 := ⟨"Labels", 50, 0, false, "", "", 0⟩) (f1 := ⟨"V", 3, 1, false, "", "", 24⟩) (by kernel_rfl) rfl rfl (by kernel_rfl) (by kernel_rfl) (by kernel_rfl) h
  obtain ⟨v, ls, e0, k0⟩ := in_labels h0
  obtain ⟨i, e1, _, _⟩ := DataW.trod_int (by kernel_rfl) h1
  have e3 : b = Value.int .i64 i := by simpa using e1
  have e4 : a = v := by simpa using e0
  subst e4; subst e3
  have hv : a.oneCell' = true := by obtain ⟨A, c, e, _⟩ := k0; rw [e]; rfl
  exact ⟨⟨ls, i⟩, .agg #[a, .int .i64 i], rfl, ⟨_, rfl, _, _, rfl, hv, k0, _, _, rfl, rfl, rfl, rfl⟩, fun c hc => by
    simp [Value.cells] at hc; rcases hc with rfl | rfl; exact hv; rfl, rfl⟩
theorem in_rows {vs : List Value} {x : DataW H × List MemPlace} (h : DataW.trod enc Tryz.prog w 0 sp held n 22 vs = some x) : ∃ (v : Value) (ls : List RowD), vs = [v] ∧ D.rep w (FA w) (.sh 2 (ls.map RowD.d)) v := open_slD RowD.d (by kernel_rfl) (by kernel_rfl) (by decide) h (fun _ _ _ h => in_row h)
end
end Lp
/-
  The program draws the order of what Go leaves open.
-/
namespace Lp
open Go Go.RowKit Go.Proofs
theorem zah : Tryz.prog.follows .mixedOrders = true := by kernel_rfl
abbrev F' : Bool := false
abbrev dZ : D := .v (.slice none 0 0)
abbrev dP (g o : Nat) : D := .v (.pointer (some ⟨g, o, none⟩))
abbrev vS (g n c : Nat) : Value := .slice (some ⟨g, 0, none⟩) n c
end Lp
