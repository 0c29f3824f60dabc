/-
  THE ENGINE, sixth part: code by its path; a function's frame; what a function hands back.
-/
import Derived.Test.YtjhkajkickngmaaEngD
namespace Lp
open Go Go.RowKit

def isSeq : Code → Bool | .seq _ _ => true | _ => false
def isSkip : Code → Bool | .skip => true | _ => false
def isRet : Code → Bool | .ret => true | _ => false
def isLoop : Code → Bool | .loop _ => true | _ => false
def condOf : Code → Option Operand | .cond c _ _ => some c | _ => none
def blockOf : Code → Option Nat | .block i _ => some i | _ => none
def exitOf : Code → Option Nat | .exit i => some i | _ => none
def labelOf : Code → Option Nat | .label i => some i | _ => none

theorem cd_nil (c : Code) : cd c [] = c := by cases c <;> rfl

theorem cd_app (b : Bool) : ∀ (p : List Bool) (c : Code), cd c (p ++ [b]) = cd (cd c p) [b]
  | [], c => by rw [cd_nil]; rfl
  | i :: r, c => by
    have ih := cd_app b r
    cases c <;> simp only [List.cons_append, cd] <;> first | rfl | (cases i <;> simp only [cond_true, cond_false, ih]) | exact ih _

section
variable {P : Program} {N : Nat} {l : Kn} {w : World} {Q : Ends} {c : Code} {p : List Bool}

theorem jp_seq (pa pb : List Bool) (hk : isSeq (cd c p) = true) (ha : p ++ [false] = pa) (hb : p ++ [true] = pb) (h : J P N (cd c pa) l w (seqQ P N (cd c pb) Q)) : J P N (cd c p) l w Q := by
  subst ha; subst hb
  rw [cd_app, cd_app] at h
  cases hc : cd c p <;> rw [hc] at hk h <;> simp [isSeq] at hk
  simp only [cd, cond_true, cond_false, cd_nil] at h
  exact j_seq h
theorem jp_cond (pa pb : List Bool) {x : Operand} {t : Bool} (hk : condOf (cd c p) = some x) (ha : p ++ [false] = pa) (hb : p ++ [true] = pb) (hx : opv l x = some (.bool t)) (ht : t = true → J P N (cd c pa) l w Q) (hf : t = false → J P N (cd c pb) l w Q) : J P N (cd c p) l w Q := by
  subst ha; subst hb
  rw [cd_app] at ht hf
  cases hc : cd c p <;> rw [hc] at hk ht hf <;> simp [condOf] at hk
  simp only [cd, cond_true, cond_false, cd_nil] at ht hf
  subst hk
  exact j_cond hx ht hf
theorem jp_cond_t (pa : List Bool) {x : Operand} (hk : condOf (cd c p) = some x) (ha : p ++ [false] = pa) (hx : opv l x = some (.bool true)) (ht : J P N (cd c pa) l w Q) : J P N (cd c p) l w Q :=
  jp_cond pa _ hk ha rfl hx (fun _ => ht) (fun e => by cases e)
theorem jp_cond_f (pb : List Bool) {x : Operand} (hk : condOf (cd c p) = some x) (hb : p ++ [true] = pb) (hx : opv l x = some (.bool false)) (hf : J P N (cd c pb) l w Q) : J P N (cd c p) l w Q :=
  jp_cond _ pb hk rfl hb hx (fun e => by cases e) (fun _ => hf)
theorem jp_block (pa : List Bool) {id : Nat} (hk : blockOf (cd c p) = some id) (ha : p ++ [false] = pa) (h : J P N (cd c pa) l w (blockQ id Q)) : J P N (cd c p) l w Q := by
  subst ha
  rw [cd_app] at h
  cases hc : cd c p <;> rw [hc] at hk h <;> simp [blockOf] at hk
  simp only [cd, cd_nil] at h
  subst hk
  exact j_block h
theorem jp_loop {G : Type} (L : G → Kn) (I : G → World → Prop) (μ : G → Nat) (pa : List Bool) (g : G) (hk : isLoop (cd c p) = true) (ha : p ++ [false] = pa) (hs : Sub (L g) l) (hI : I g w)
    (h : ∀ g w, I g w → J P N (cd c pa) (L g) w (loopQ L I μ g Q)) : J P N (cd c p) l w Q := by
  subst ha
  rw [cd_app] at h
  cases hc : cd c p <;> rw [hc] at hk h <;> simp [isLoop] at hk
  simp only [cd, cd_nil] at h
  exact j_loop L I μ g hs hI h
theorem jp_skip (hk : isSkip (cd c p) = true) (h : Post Q .normal l w) : J P N (cd c p) l w Q := by
  cases hc : cd c p <;> rw [hc] at hk <;> simp [isSkip] at hk
  exact j_skip h
theorem jp_ret (hk : isRet (cd c p) = true) (h : Post Q .ret l w) : J P N (cd c p) l w Q := by
  cases hc : cd c p <;> rw [hc] at hk <;> simp [isRet] at hk
  exact j_ret h
theorem jp_exit {id : Nat} (hk : exitOf (cd c p) = some id) (h : Post Q (.exit id) l w) : J P N (cd c p) l w Q := by
  cases hc : cd c p <;> rw [hc] at hk <;> simp [exitOf] at hk
  subst hk
  exact j_exit h

variable {ops : List Oper} {K : Env → World → Prop} {i : Nat}

theorem ops_end (hn : Nat.ble ops.length i = true) (h : Post Q .normal l w) : Ops P N ops i l w (fun ρ w' => Q .normal ρ w') := ops_nil hn h
theorem ops_val {d : Tmp} {op : Op} {ty : TypeId} {v : Value} (ho : opAt ops i = some (some d, op, ty, none)) (hd : Nat.blt d N = true)
    (h : ∀ ρ, Knows ρ l → EOp P op ty ρ w (fun u w' => u = v ∧ w' = w)) (next : Ops P N ops (i + 1) ((d, v) :: l) w K) : Ops P N ops i l w K :=
  ops_step ho hd fun ρ hk => (h ρ hk).mono fun u w' ⟨h1, h2⟩ => by subst h1; subst h2; exact next
theorem ops_rel {d : Option Tmp} {op : Op} {ty : TypeId} (R : Value → World → Prop) (ho : opAt ops i = some (d, op, ty, none)) (hd : dok N d = true)
    (h : ∀ ρ, Knows ρ l → EOp P op ty ρ w R) (next : ∀ v w', R v w' → Ops P N ops (i + 1) (upl l d v) w' K) : Ops P N ops i l w K :=
  ops_step ho hd fun ρ hk => (h ρ hk).mono fun v w' hR => next v w' hR
theorem ops_run {d : Tmp} {op : Op} {ty : TypeId} {v : Value} {j : Nat} {want : Bool} {t : Tmp} (ho : opAt ops i = some (some d, op, ty, some (j, want))) (hd : Nat.blt d N = true) (hj : dstOf ops j = some t) (htn : Nat.blt t N = true) (hb : look l t = some (.bool want))
    (h : ∀ ρ, Knows ρ l → EOp P op ty ρ w (fun u w' => u = v ∧ w' = w)) (next : Ops P N ops (i + 1) ((d, v) :: l) w K) : Ops P N ops i l w K := by
  unfold dstOf at hj
  cases hn : nth ops j with
  | none => rw [hn] at hj; cases hj
  | some oj =>
    rw [hn] at hj
    refine ops_guard (dj := some t) (t := t) ho hd (by unfold opAt; rw [hn]; simp only [hj]; rfl) rfl htn hb (fun _ ρ hk => (h ρ hk).mono fun u w' ⟨h1, h2⟩ => by subst h1; subst h2; exact next) (fun hne => absurd rfl hne)
theorem ops_runrel {d : Tmp} {op : Op} {ty : TypeId} (R : Value → World → Prop) {j : Nat} {want : Bool} {t : Tmp} (ho : opAt ops i = some (some d, op, ty, some (j, want))) (hd : Nat.blt d N = true) (hj : dstOf ops j = some t) (htn : Nat.blt t N = true) (hb : look l t = some (.bool want))
    (h : ∀ ρ, Knows ρ l → EOp P op ty ρ w R) (next : ∀ v w', R v w' → Ops P N ops (i + 1) ((d, v) :: l) w' K) : Ops P N ops i l w K := by
  unfold dstOf at hj
  cases hn : nth ops j with
  | none => rw [hn] at hj; cases hj
  | some oj =>
    rw [hn] at hj
    refine ops_guard (dj := some t) (t := t) ho hd (by unfold opAt; rw [hn]; simp only [hj]; rfl) rfl htn hb (fun _ ρ hk => (h ρ hk).mono fun v w' hR => next v w' hR) (fun hne => absurd rfl hne)
theorem ops_skip {d : Tmp} {op : Op} {ty : TypeId} {j : Nat} {want : Bool} {t : Tmp} (ho : opAt ops i = some (some d, op, ty, some (j, want))) (hd : Nat.blt d N = true) (hj : dstOf ops j = some t) (htn : Nat.blt t N = true) (hb : look l t = some (.bool (!want)))
    (next : Ops P N ops (i + 1) ((d, undef) :: l) w K) : Ops P N ops i l w K := by
  unfold dstOf at hj
  cases hn : nth ops j with
  | none => rw [hn] at hj; cases hj
  | some oj =>
    rw [hn] at hj
    refine ops_guard (dj := some t) (t := t) ho hd (by unfold opAt; rw [hn]; simp only [hj]; rfl) rfl htn hb (fun h => absurd h (by cases want <;> simp [nb])) (fun _ => next)
theorem ops_skipu {d : Tmp} {op : Op} {ty : TypeId} {j : Nat} {want : Bool} {t : Tmp} (ho : opAt ops i = some (some d, op, ty, some (j, want))) (hd : Nat.blt d N = true) (hj : dstOf ops j = some t) (htn : Nat.blt t N = true) (hb : look l t = some undef)
    (next : Ops P N ops (i + 1) ((d, undef) :: l) w K) : Ops P N ops i l w K := by
  unfold dstOf at hj
  cases hn : nth ops j with
  | none => rw [hn] at hj; cases hj
  | some oj =>
    rw [hn] at hj
    refine ops_guard (dj := some t) (t := t) ho hd (by unfold opAt; rw [hn]; simp only [hj]; rfl) rfl htn hb (fun h => absurd h (by simp [nb, undef])) (fun _ => next)
end

/-- A piece of code that only brings out a Bool: its ways meet again. -/
theorem j_sum {P : Program} {N : Nat} {l : Kn} {w : World} {Q : Ends} {c : Code} (t : Nat) (b : Bool) (h : ∀ Q' : Ends, (∀ w', Ext w w' → Post Q' .normal ((t, .bool b) :: l) w') → J P N c l w Q') (next : ∀ w', Ext w w' → Post Q .normal ((t, .bool b) :: l) w') : J P N c l w Q := h Q next

def argsK (i : Nat) : List Value → Kn
  | [] => []
  | v :: r => (i, v) :: argsK (i + 1) r

theorem look_argsK : ∀ (vs : List Value) (i t : Nat) (v : Value), look (argsK i vs) t = some v → i ≤ t ∧ vs[t - i]? = some v
  | [], i, t, v, h => by simp [argsK, look] at h
  | u :: r, i, t, v, h => by
    simp only [argsK, look] at h
    by_cases e : t = i
    · subst e
      rw [show Nat.beq t t = true from Nat.beq_refl t] at h
      simp only [cond_true, Option.some.injEq] at h
      exact ⟨Nat.le_refl _, by simp [h]⟩
    · rw [nbeq_ne e] at h
      obtain ⟨h1, h2⟩ := look_argsK r (i + 1) t v h
      refine ⟨by omega, ?_⟩
      rw [show t - i = (t - (i + 1)) + 1 by omega]
      simpa using h2

def retQ (P : Program) (fn : Func) (R : Value → World → Prop) : Ends
  | .normal, ρ, w => ∀ tmps : Array Value, (∀ t, tmps.getD t undef = ρ t) → ∃ v, (results fn tmps).run P w = .ok v w ∧ R v w
  | .ret, ρ, w => ∀ tmps : Array Value, (∀ t, tmps.getD t undef = ρ t) → ∃ v, (results fn tmps).run P w = .ok v w ∧ R v w
  | _, _, _ => False

theorem calls_of_J {P : Program} {f : FuncId} {fn : Func} {N : Nat} {args : Array Value} {w : World} {R : Value → World → Prop} (hf : P.funcs[f]? = some fn) (hb : fn.body.isSome = true) (hN : fn.ntmps = N) (hs : Nat.ble args.size N = true)
    (h : J P N (cd (bodyOf fn) []) (argsK 0 args.toList) w (retQ P fn R)) : Calls P f args w (Ret R) := by
  cases hbody : fn.body with
  | none => rw [hbody] at hb; cases hb
  | some c =>
    have hs' := Nat.le_of_ble_eq_true hs
    refine calls_of_wp hf hbody ?_
    have hc : cd (bodyOf fn) [] = c := by
      have : bodyOf fn = c := by unfold bodyOf; rw [hbody]; rfl
      rw [this]; cases c <;> rfl
    rw [hc] at h
    refine wp_mono (h.out _ ⟨by simp [hN]; omega, rfl⟩ ?_) ?_
    · intro t v hv
      obtain ⟨_, h2⟩ := look_argsK _ _ _ _ hv
      simp only [Nat.sub_zero, Array.getElem?_toList] at h2
      simp only [envOf, Array.getD_eq_getD_getElem?]
      rw [Array.getElem?_append_left (Array.getElem?_eq_some_iff.1 h2).1, h2]; rfl
    · rintro e a' w' ⟨ok, hq⟩
      cases e with
      | normal =>
        obtain ⟨v, h1, h2⟩ := hq a'.tmps (fun _ => rfl)
        exact ⟨ok.2, v, h1, v, rfl, h2⟩
      | ret =>
        obtain ⟨v, h1, h2⟩ := hq a'.tmps (fun _ => rfl)
        exact ⟨ok.2, v, h1, v, rfl, h2⟩
      | _ => exact hq.elim

/-- What the results read as. -/
def ResV (P : Program) (l : Kn) (w : World) : List ResultVar → List Value → Prop
  | [], [] => True
  | .tmp t :: r, v :: vs => look l t = some v ∧ ResV P l w r vs
  | .cell a t :: r, v :: vs => (∃ b o, look l a = some (.pointer (some ⟨b, o, none⟩)) ∧ (loadVar t ⟨b, o, none⟩).run P w = .ok v w) ∧ ResV P l w r vs
  | _, _ => False

theorem run_loadVar_agg {P : Program} {t b o : Nat} {w : World} {cs : List Value} (hg : ∀ w, (isAgg t).run P w = .ok true w) (hs : ∀ w, (Go.sizeOf t).run P w = .ok cs.length w) (hc : At w b o cs) : (loadVar t ⟨b, o, none⟩).run P w = .ok (.agg cs.toArray) w := by
  have := run_loadCells P w b o cs hc
  simp [loadVar, hg, hs, this]
theorem run_loadVar_one {P : Program} {t b o : Nat} {w : World} {v : Value} (hg : ∀ w, (isAgg t).run P w = .ok false w) (hc : w.cell? ⟨b, o, none⟩ = some v) : (loadVar t ⟨b, o, none⟩).run P w = .ok v w := by
  simp [loadVar, hg, hc]

def packed : List Value → Value
  | [v] => v
  | vs => .tuple vs.toArray

theorem results_run {P : Program} {ρ : Env} {l : Kn} {w : World} (hk : Knows ρ l) (tmps : Array Value) (ht : ∀ t, tmps.getD t undef = ρ t) (f : ResultVar → Sem Value) (f1 : ∀ t, f (.tmp t) = pure (tmps.getD t undef))
    (f2 : ∀ a t, f (.cell a t) = (asAddr (tmps.getD a undef) >>= fun x => loadVar t x)) : ∀ (rs : List ResultVar) (vs : List Value), ResV P l w rs vs → (rs.mapM f).run P w = .ok vs w
  | [], [], _ => by simp
  | .tmp t :: r, v :: vs, ⟨h1, h2⟩ => by
    have ih := results_run hk tmps ht f f1 f2 r vs h2
    rw [List.mapM_cons, f1]
    simp [ih, ht, hk t v h1]
  | .cell a t :: r, v :: vs, ⟨⟨b, o, h1, h3⟩, h2⟩ => by
    have ih := results_run hk tmps ht f f1 f2 r vs h2
    rw [List.mapM_cons, f2]
    simp [ih, ht, hk a _ h1, asAddr, h3]
  | [], _ :: _, h => h.elim
  | .tmp _ :: _, [], h => h.elim
  | .cell _ _ :: _, [], h => h.elim

theorem results_ok {P : Program} {fn : Func} {rs : List ResultVar} {vs : List Value} {l : Kn} {w : World} {ρ : Env} (hr : fn.results = rs.toArray) (hv : ResV P l w rs vs) (hk : Knows ρ l) (tmps : Array Value) (ht : ∀ t, tmps.getD t undef = ρ t) :
    (results fn tmps).run P w = .ok (packed vs) w := by
  unfold results
  rw [hr]
  rw [List.mapM_toArray]
  simp only [Sem.run_bind, Sem.run_map, Sem.run_pure]
  rw [results_run hk tmps ht _ (fun _ => rfl) (fun _ _ => rfl) rs vs hv]
  simp only [Result.andThen_ok]
  congr 1
  match vs with
  | [] => rfl
  | [v] => rfl
  | u :: v :: r => simp [packed]

theorem post_ret {P : Program} {fn : Func} {R : Value → World → Prop} {rs : List ResultVar} {l : Kn} {w : World} (vs : List Value) (v : Value) (hr : fn.results = rs.toArray) (hv : ResV P l w rs vs) (hp : packed vs = v) (h : R v w) : Post (retQ P fn R) .ret l w :=
  fun _ hk tmps ht => ⟨v, hp ▸ results_ok hr hv hk tmps ht, h⟩
theorem post_end {P : Program} {fn : Func} {R : Value → World → Prop} {rs : List ResultVar} {l : Kn} {w : World} (vs : List Value) (v : Value) (hr : fn.results = rs.toArray) (hv : ResV P l w rs vs) (hp : packed vs = v) (h : R v w) : Post (retQ P fn R) .normal l w :=
  fun _ hk tmps ht => ⟨v, hp ▸ results_ok hr hv hk tmps ht, h⟩

end Lp
