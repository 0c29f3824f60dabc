/-
  The rules for code once more: one computation stands for all that a step asks.
-/
import Derived.Test.YtfjinapgehafiaaGreatDP
set_option linter.unusedVariables false
namespace Lp
open Go Go.RowKit Go.Proofs
/-- a list, copied until it stands there entry by entry -/
def cpF {α : Type} : List α → Option (List α)
  | [] => some []
  | x :: r => match cpF r with
    | some l => some (x :: l)
    | none => none
theorem zef {α : Type} : ∀ {l l' : List α}, cpF l = some l' → l = l'
  | [], _, h => by injection h
  | x :: r, l', h => by
    unfold cpF at h
    split at h
    · rename_i l hl; injection h with h; rw [← h, zef hl]
    · cases h
def kpF : List Nat → Kd → Option Kd
  | [], _ => some []
  | t :: r, K => match zaw K t with
    | some d => match kpF r K with
      | some l => some ((t, d) :: l)
      | none => none
    | none => none
theorem kpF_sub : ∀ {ts : List Nat} {K K' : Kd}, kpF ts K = some K' → SubK K' K
  | [], _, _, h => by injection h with h; subst h; trivial
  | t :: r, K, K', h => by
    unfold kpF at h
    split at h
    · rename_i d hd
      split at h
      · rename_i l hl; injection h with h; subst h; exact ⟨⟨d, hd, Cv.rfl'⟩, kpF_sub hl⟩
      · cases h
    · cases h
theorem sa : ∀ {K' K : Kd}, K'.map (fun p => zaw K p.1) = K'.map (fun p => some p.2) → SubK K' K
  | [], _, _ => trivial
  | (t, d) :: r, K, h => by
    simp only [List.map_cons, List.cons.injEq] at h
    exact ⟨⟨d, h.1, Cv.rfl'⟩, sa h.2⟩
def snF : List Bool → Bool → Option (List Bool)
  | [], b => some [b]
  | x :: r, b => match snF r b with
    | some l => some (x :: l)
    | none => none
theorem zdS : ∀ {p q : List Bool} {b : Bool}, snF p b = some q → p ++ [b] = q
  | [], _, _, h => by injection h
  | x :: r, q, b, h => by
    unfold snF at h
    split at h
    · rename_i l hl; injection h with h; rw [← h, List.cons_append, zdS hl]
    · cases h
/-- what an operation without side conditions gives -/
def zer (K : Kd) : Op → Option D
  | .move x => opD K x
  | .assign x => opD K x
  | .extract x n => match opD K x with
    | some (.tup ds) => nth ds n
    | _ => none
  | .pick c x y => match opD K c with
    | some (.v (.bool true)) => opD K x
    | some (.v (.bool false)) => opD K y
    | _ => none
  | .unOp .not _ x => match opD K x with
    | some (.v (.bool true)) => some (.v (.bool false))
    | some (.v (.bool false)) => some (.v (.bool true))
    | _ => none
  | .nilCheck x => match opD K x with
    | some (.v (.pointer (some a))) => some (.v (.pointer (some a)))
    | some (.el X o) => some (.el X o)
    | _ => none
  | _ => none
theorem pureD_ok {P : Program} {ty : TypeId} {K : Kd} {H : List Hp} {op : Op} {d : D} (h : zer K op = some d) : Pu P op ty K H d := by
  unfold zer at h
  split at h
  · exact zm h
  · exact zdu h
  · split at h
    · rename_i hx; exact zc3 hx h
    · cases h
  · split at h
    · rename_i hc; exact p_pick_t hc h
    · rename_i hc; exact zco hc h
    · cases h
  · split at h
    · rename_i hx; injection h with h; subst h; exact zaP (q := true) hx
    · rename_i hx; injection h with h; subst h; exact zaP (q := false) hx
    · cases h
  · split at h
    · rename_i hx; injection h with h; subst h; exact za9 hx
    · rename_i hx; injection h with h; subst h; exact p_nilCheck_el hx
    · cases h
  · cases h
/-- a cell and its datum -/
def oneC (N : Nat) (t : Tmp) : Option D → Option (Tmp × D)
  | some d => bif Nat.blt t N then some (t, d) else none
  | none => none
theorem oneC_ok {N : Nat} {t u : Tmp} {x : Option D} {d : D} (h : oneC N t x = some (u, d)) : t = u ∧ x = some d ∧ Nat.blt t N = true := by
  unfold oneC at h
  cases x with
  | none => cases h
  | some e =>
    cases hb : Nat.blt t N
    · simp [hb] at h
    · simp [hb] at h; exact ⟨h.1, by rw [h.2], rfl⟩
/-- an operation under a guard: what was computed there -/
def guardD (K : Kd) (want : Bool) (op : Op) : Option D → Option D
  | some (.v u) => match nb u, want with
    | some true, true => zer K op
    | some false, false => zer K op
    | some true, false => some (.v undef)
    | some false, true => some (.v undef)
    | none, _ => some (.v undef)
  | _ => none
/-- one operation: which cell it fills, and with what -/
def oneD (ops : List Oper) (i N : Nat) (K : Kd) : Option (Tmp × D) :=
  match opAt ops i with
  | some (some t, op, _, none) => oneC N t (zer K op)
  | some (some t, op, _, some (j, want)) => match za6 ops j with
    | some s => bif Nat.blt s N then oneC N t (guardD K want op (zaw K s)) else none
    | none => none
  | _ => none
/-- n operations -/
def runD (ops : List Oper) (N : Nat) : Nat → Nat → Kd → Option (Nat × Kd)
  | 0, i, K => some (i, K)
  | n + 1, i, K => match oneD ops i N K with
    | some (t, d) => runD ops N n (i + 1) ((t, d) :: K)
    | none => none
def opP (ops : List Oper) (i N : Nat) : Option (Tmp × Op × TypeId) := match opAt ops i with
  | some (some t, op, ty, none) => bif Nat.blt t N then some (t, op, ty) else none
  | _ => none
def opE (ops : List Oper) (i N : Nat) : Option (Option Tmp × Op × TypeId) := match opAt ops i with
  | some (t, op, ty, none) => bif dok N t then some (t, op, ty) else none
  | _ => none
/-- the guard of an operation that runs -/
def gdF (ops : List Oper) (N : Nat) (K : Kd) (j : Nat) (want : Bool) : Bool := match za6 ops j with
  | some s => match zaw K s with
    | some (.v (.bool b)) => Nat.blt s N && (b == want)
    | _ => false
  | none => false
def opG (ops : List Oper) (i N : Nat) (K : Kd) : Option (Option Tmp × Op × TypeId) := match opAt ops i with
  | some (t, op, ty, some (j, want)) => match dok N t, gdF ops N K j want with
    | true, true => some (t, op, ty)
    | _, _ => none
  | _ => none
section
variable {P : Program} {N : Nat} {C : Ctx} {K : Kd} {H : List Hp} {ops : List Oper} {i : Nat} {Kt : Env → World → (Nat → Prop) → Prop}
theorem nb_b {u : Value} {b : Bool} (h : nb u = some b) : u = .bool b := by cases u <;> simp [nb] at h; rw [h]
theorem o1 {t : Tmp} {d : D} (h : oneD ops i N K = some (t, d)) (k : OpsD P N C ops (i + 1) ((t, d) :: K) H Kt) : OpsD P N C ops i K H Kt := by
  unfold oneD at h
  split at h
  · rename_i t' op ty ho
    obtain ⟨e1, e2, e3⟩ := oneC_ok h
    subst e1
    exact od_pu ho e3 (pureD_ok e2) k
  · rename_i t' op ty j want ho
    split at h
    · rename_i s hs
      cases hb : Nat.blt s N
      · simp [hb] at h
      · simp only [hb, cond_true] at h
        obtain ⟨e1, e2, e3⟩ := oneC_ok h
        subst e1
        unfold guardD at e2
        split at e2
        · rename_i u hl
          split at e2
          · rename_i hn; rw [nb_b hn] at hl; exact od_runp ho e3 hs hb hl (pureD_ok e2) k
          · rename_i hn; rw [nb_b hn] at hl; exact od_runp ho e3 hs hb hl (pureD_ok e2) k
          · rename_i hn; injection e2 with e2; subst e2; exact od_skip ho e3 hs hb hl (by rw [hn]; decide) k
          · rename_i hn; injection e2 with e2; subst e2; exact od_skip ho e3 hs hb hl (by rw [hn]; decide) k
          · rename_i hn; injection e2 with e2; subst e2; exact od_skip ho e3 hs hb hl (by rw [hn]; simp) k
        · cases e2
    · cases h
  · cases h
theorem oR (n : Nat) {j : Nat} {K' : Kd} (h : runD ops N n i K = some (j, K')) (k : OpsD P N C ops j K' H Kt) : OpsD P N C ops i K H Kt := by
  induction n generalizing i K with
  | zero => injection h with h; injection h with h1 h2; subst h1; subst h2; exact k
  | succ n ih =>
    unfold runD at h
    split at h
    · rename_i t d he; exact o1 he (ih h)
    · cases h
theorem opP_ok {t : Tmp} {op : Op} {ty : TypeId} (h : opP ops i N = some (t, op, ty)) : opAt ops i = some (some t, op, ty, none) ∧ Nat.blt t N = true := by
  unfold opP at h
  split at h
  · rename_i t' op' ty' ho
    cases hb : Nat.blt t' N
    · simp [hb] at h
    · simp [hb] at h; obtain ⟨h1, h2, h3⟩ := h; subst h1; subst h2; subst h3; exact ⟨ho, hb⟩
  · cases h
theorem opE_ok {t : Option Tmp} {op : Op} {ty : TypeId} (h : opE ops i N = some (t, op, ty)) : opAt ops i = some (t, op, ty, none) ∧ dok N t = true := by
  unfold opE at h
  split at h
  · rename_i t' op' ty' ho
    cases hb : dok N t'
    · simp [hb] at h
    · simp [hb] at h; obtain ⟨h1, h2, h3⟩ := h; subst h1; subst h2; subst h3; exact ⟨ho, hb⟩
  · cases h
theorem opG_ok {t : Option Tmp} {op : Op} {ty : TypeId} (h : opG ops i N K = some (t, op, ty)) : ∃ j want s, opAt ops i = some (t, op, ty, some (j, want)) ∧ dok N t = true ∧ za6 ops j = some s ∧ Nat.blt s N = true ∧ zaw K s = some (.v (.bool want)) := by
  unfold opG at h
  split at h
  · rename_i t' op' ty' j want ho
    split at h
    · rename_i h1 h2
      injection h with h; injection h with e1 h; injection h with e2 e3
      subst e1; subst e2; subst e3
      unfold gdF at h2
      split at h2
      · rename_i s hs
        split at h2
        · rename_i b hb
          simp only [Bool.and_eq_true, beq_iff_eq] at h2
          obtain ⟨h3, h4⟩ := h2; subst h4
          exact ⟨j, b, s, ho, h1, hs, h3, hb⟩
        · cases h2
      · cases h2
    · cases h
  · cases h
theorem oP {t : Tmp} {op : Op} {ty : TypeId} {d : D} (ho : opP ops i N = some (t, op, ty)) (h : Pu P op ty K H d) (k : OpsD P N C ops (i + 1) ((t, d) :: K) H Kt) : OpsD P N C ops i K H Kt := od_pu (opP_ok ho).1 (opP_ok ho).2 h k
theorem oE {t : Option Tmp} {op : Op} {ty : TypeId} {R : D → List Hp → Prop} (ho : opE ops i N = some (t, op, ty)) (h : Ef P op ty K H R) (k : ∀ d H', R d H' → OpsD P N C ops (i + 1) (upK K t d) H' Kt) : OpsD P N C ops i K H Kt := od_step (opE_ok ho).1 (opE_ok ho).2 h k
theorem oF {t : Option Tmp} {op : Op} {ty : TypeId} {R : D → List Hp → Prop} (ho : opG ops i N K = some (t, op, ty)) (h : Ef P op ty K H R) (k : ∀ d H', R d H' → OpsD P N C ops (i + 1) (upK K t d) H' Kt) : OpsD P N C ops i K H Kt := by
  obtain ⟨j, want, s, h1, h2, h3, h4, h5⟩ := opG_ok ho
  exact od_run h1 h2 h3 h4 h5 h k
theorem oG {t : Tmp} {op : Op} {ty : TypeId} {d : D} (ho : opG ops i N K = some (some t, op, ty)) (h : Pu P op ty K H d) (k : OpsD P N C ops (i + 1) ((t, d) :: K) H Kt) : OpsD P N C ops i K H Kt :=
  oF ho h.ef fun _ _ ⟨e1, e2⟩ => by subst e1; subst e2; exact k
/-- a call that only hands back a datum -/
theorem oW {t : Option Tmp} {f : FuncId} {args : Array Operand} {ats : Array TypeId} {ty : TypeId} {ds0 ds : List D} {d : D} (ho : opE ops i N = some (t, .call { callee := .value (.func f), args := args, argTypes := ats }, ty)) (hargs : opsD K args.toList = some ds0) (ha : ArgCs [] ds0 ds)
    (hc : ∀ args w, (callFunc f args).run P w = .ok (.enter f args) w) (hcall : CD P f [] ds (isR d)) (k : OpsD P N C ops (i + 1) (upK K t d) H Kt) : OpsD P N C ops i K H Kt :=
  oE ho (zx [] _ [] rfl hargs ha zo hc hcall (.inl rfl)) (by rintro _ _ ⟨_, ⟨rfl, rfl⟩, rfl⟩; exact k)
theorem oV {t : Option Tmp} {f : FuncId} {args : Array Operand} {ats : Array TypeId} {ty : TypeId} {ds0 ds : List D} {d : D} (ho : opG ops i N K = some (t, .call { callee := .value (.func f), args := args, argTypes := ats }, ty)) (hargs : opsD K args.toList = some ds0) (ha : ArgCs [] ds0 ds)
    (hc : ∀ args w, (callFunc f args).run P w = .ok (.enter f args) w) (hcall : CD P f [] ds (isR d)) (k : OpsD P N C ops (i + 1) (upK K t d) H Kt) : OpsD P N C ops i K H Kt :=
  oF ho (zx [] _ [] rfl hargs ha zo hc hcall (.inl rfl)) (by rintro _ _ ⟨_, ⟨rfl, rfl⟩, rfl⟩; exact k)
theorem acs {L : List Hp} : ∀ {ds : List D}, ArgCs L ds ds
  | [] => .nil
  | _ :: _ => .cons ArgC.id acs
theorem on {H' : List Hp} (h : cpF H = some H') (k : OpsD P N C ops i K H' Kt) : OpsD P N C ops i K H Kt := zef h ▸ k
theorem ok (ts : List Nat) {K' : Kd} (h : kpF ts K = some K') (k : OpsD P N C ops i K' H Kt) : OpsD P N C ops i K H Kt := OpsD.sub K' (kpF_sub h) k
theorem os (t : Nat) {d d' : D} (h : zaw K t = some d) (e : d = d') (k : OpsD P N C ops i ((t, d') :: K) H Kt) : OpsD P N C ops i K H Kt := by
  subst e
  refine ⟨fun a w F ok hk g => k.out a w F ok (fun s u hu => ?_) g⟩
  simp only [zaw] at hu
  by_cases e : s = t
  · subst e; rw [show Nat.beq s s = true from Nat.beq_refl s] at hu; simp only [cond_true, Option.some.injEq] at hu; subst hu; exact hk s _ h
  · rw [zbE e] at hu; exact hk s u hu
/-- behind the last operation: the code that follows -/
theorem oZ {b : Code} {Q : zaU} (hn : Nat.ble ops.length i = true) (h : JD P N C b K H Q) : OpsD P N C ops i K H (fun ρ w F => qseq P N b Q .normal ρ w F) := zg (Q := qseq P N b Q) hn (zc h)
end
section
variable {P : Program} {N : Nat} {C : Ctx} {K : Kd} {H : List Hp} {Q : zaU} {c : Code} {p pa pb : List Bool}
theorem jn {H' : List Hp} {b : Code} (h : cpF H = some H') (k : JD P N C b K H' Q) : JD P N C b K H Q := zef h ▸ k
theorem pn {H' : List Hp} {e : Exit} (h : cpF H = some H') (k : PD C Q e K H') : PD C Q e K H := zef h ▸ k
theorem jk (ts : List Nat) {K' : Kd} {b : Code} (h : kpF ts K = some K') (k : JD P N C b K' H Q) : JD P N C b K H Q := JD.sub K' (kpF_sub h) k
theorem pk (ts : List Nat) {K' : Kd} {e : Exit} (h : kpF ts K = some K') (k : PD C Q e K' H) : PD C Q e K H := PD.sub K' (kpF_sub h) k
theorem ja {K' : Kd} {b : Code} (h : cpF K = some K') (k : JD P N C b K' H Q) : JD P N C b K H Q := zef h ▸ k
theorem js (t : Nat) {d d' : D} {b : Code} (h : zaw K t = some d) (e : d = d') (k : JD P N C b ((t, d') :: K) H Q) : JD P N C b K H Q := by
  subst e
  refine ⟨fun a w F ok hk g => k.out a w F ok (fun s u hu => ?_) g⟩
  simp only [zaw] at hu
  by_cases e : s = t
  · subst e; rw [show Nat.beq s s = true from Nat.beq_refl s] at hu; simp only [cond_true, Option.some.injEq] at hu; subst hu; exact hk s _ h
  · rw [zbE e] at hu; exact hk s u hu
def sqF (c : Code) (p : List Bool) : Option (List Bool × List Bool) := match isSeq (cd c p), snF p false, snF p true with
  | true, some a, some b => some (a, b)
  | _, _, _ => none
theorem sqF_ok (h : sqF c p = some (pa, pb)) : isSeq (cd c p) = true ∧ p ++ [false] = pa ∧ p ++ [true] = pb := by
  unfold sqF at h
  split at h
  · rename_i h1 h2 h3; injection h with h; injection h with e1 e2; subst e1; subst e2; exact ⟨h1, zdS h2, zdS h3⟩
  · cases h
theorem jS (h : sqF c p = some (pa, pb)) (k : JD P N C (cd c pa) K H (qseq P N (cd c pb) Q)) : JD P N C (cd c p) K H Q := jd_seq _ _ (sqF_ok h).1 (sqF_ok h).2.1 (sqF_ok h).2.2 k
def sgF (c : Code) (p : List Bool) : Option (List Bool × List Bool) := match sqF c p with
  | some (a, b) => match zdU (cd c a) with
    | some false => some (a, b)
    | _ => none
  | none => none
theorem jT (h : sgF c p = some (pa, pb)) (k : OpsD P N C (zcP (cd c pa)) 0 K H (fun ρ w F => qseq P N (cd c pb) Q .normal ρ w F)) : JD P N C (cd c p) K H Q := by
  unfold sgF at h
  split at h
  · rename_i a b h1
    split at h
    · rename_i h2; injection h with h; injection h with e1 e2; subst e1; subst e2; exact jS h1 (za h2 k)
    · cases h
  · cases h
def cnF (c : Code) (p : List Bool) (K : Kd) : Option (List Bool × List Bool × D) := match condOf (cd c p), snF p false, snF p true with
  | some x, some a, some b => match opD K x with
    | some d => some (a, b, d)
    | none => none
  | _, _, _ => none
theorem jC {t : Bool} (h : cnF c p K = some (pa, pb, .v (.bool t))) (ht : t = true → JD P N C (cd c pa) K H Q) (hf : t = false → JD P N C (cd c pb) K H Q) : JD P N C (cd c p) K H Q := by
  unfold cnF at h
  split at h
  · rename_i x a b h1 h2 h3
    split at h
    · rename_i d hd; injection h with h; injection h with e1 h; injection h with e2 e3
      subst e1; subst e2; subst e3
      exact jd_cond _ _ h1 (zdS h2) (zdS h3) hd ht hf
    · cases h
  · cases h
theorem jD {φ : Prop} {_ : Decidable φ} (h : cnF c p K = some (pa, pb, .v (.bool (decide φ)))) (ht : φ → JD P N C (cd c pa) K H Q) (hf : ¬φ → JD P N C (cd c pb) K H Q) : JD P N C (cd c p) K H Q :=
  jC h (fun e => ht (of_decide_eq_true e)) (fun e => hf (of_decide_eq_false e))
theorem jCt (h : cnF c p K = some (pa, pb, .v (.bool true))) (ht : JD P N C (cd c pa) K H Q) : JD P N C (cd c p) K H Q := jC h (fun _ => ht) (fun e => by cases e)
theorem jCf (h : cnF c p K = some (pa, pb, .v (.bool false))) (hf : JD P N C (cd c pb) K H Q) : JD P N C (cd c p) K H Q := jC h (fun e => by cases e) (fun _ => hf)
def blF (c : Code) (p : List Bool) : Option (List Bool × Nat) := match blockOf (cd c p), snF p false with
  | some n, some a => some (a, n)
  | _, _ => none
theorem jB {id : Nat} (h : blF c p = some (pa, id)) (k : JD P N C (cd c pa) K H (zd2 id Q)) : JD P N C (cd c p) K H Q := by
  unfold blF at h
  split at h
  · rename_i h1 h2; injection h with h; injection h with e1 e2; subst e1; subst e2; exact jd_block _ h1 (zdS h2) k
  · cases h
def lpF (c : Code) (p : List Bool) : Option (List Bool) := match isLoop (cd c p), snF p false with
  | true, some a => some a
  | _, _ => none
theorem zdA (h : lpF c p = some pa) : isLoop (cd c p) = true ∧ p ++ [false] = pa := by
  unfold lpF at h
  split at h
  · rename_i h1 h2; injection h with h; subst h; exact ⟨h1, zdS h2⟩
  · cases h
abbrev ql1 {A0 : Type} (C : Ctx) (L : A0 → Kd) (HI : A0 → List Hp) (I : A0 → Prop) (μ : A0 → Nat) (a0 : A0) (Q : zaU) : zaU := zd7 C (fun g : A0 => L g) (fun g : A0 => HI g) (fun g : A0 => I g) (fun g : A0 => μ g) a0 Q
theorem jl1 {A0 : Type} (L : A0 → Kd) (HI : A0 → List Hp) (I : A0 → Prop) (μ : A0 → Nat) (a0 : A0) (hk : lpF c p = some pa) (hs : SubK (L a0) K) (hH : HSub H (HI a0)) (hI : I a0) (h : ∀ b0, I b0 → JD P N C (cd c pa) (L b0) (HI b0) (ql1 C L HI I μ b0 Q)) : JD P N C (cd c p) K H Q :=
  jd_loop (fun g : A0 => L g) (fun g : A0 => HI g) (fun g : A0 => I g) (fun g : A0 => μ g) pa a0 (zdA hk).1 (zdA hk).2 hs hH hI (fun g hg => h g hg)
theorem pl1 {A0 : Type} {L : A0 → Kd} {HI : A0 → List Hp} {I : A0 → Prop} {μ : A0 → Nat} {a0 : A0} (b0 : A0) (hs : SubK (L b0) K) (hH : HSub H (HI b0)) (hI : I b0) (hμ : μ b0 < μ a0) : PD C (ql1 C L HI I μ a0 Q) .normal K H := pd_loop b0 hs hH hI hμ
abbrev ql2 {A0 A1 : Type} (C : Ctx) (L : A0 → A1 → Kd) (HI : A0 → A1 → List Hp) (I : A0 → A1 → Prop) (μ : A0 → A1 → Nat) (a0 : A0) (a1 : A1) (Q : zaU) : zaU := zd7 C (fun g : A0 × A1 => L g.1 g.2) (fun g : A0 × A1 => HI g.1 g.2) (fun g : A0 × A1 => I g.1 g.2) (fun g : A0 × A1 => μ g.1 g.2) (a0, a1) Q
theorem jl2 {A0 A1 : Type} (L : A0 → A1 → Kd) (HI : A0 → A1 → List Hp) (I : A0 → A1 → Prop) (μ : A0 → A1 → Nat) (a0 : A0) (a1 : A1) (hk : lpF c p = some pa) (hs : SubK (L a0 a1) K) (hH : HSub H (HI a0 a1)) (hI : I a0 a1) (h : ∀ b0 b1, I b0 b1 → JD P N C (cd c pa) (L b0 b1) (HI b0 b1) (ql2 C L HI I μ b0 b1 Q)) : JD P N C (cd c p) K H Q :=
  jd_loop (fun g : A0 × A1 => L g.1 g.2) (fun g : A0 × A1 => HI g.1 g.2) (fun g : A0 × A1 => I g.1 g.2) (fun g : A0 × A1 => μ g.1 g.2) pa (a0, a1) (zdA hk).1 (zdA hk).2 hs hH hI (fun g hg => h g.1 g.2 hg)
theorem pl2 {A0 A1 : Type} {L : A0 → A1 → Kd} {HI : A0 → A1 → List Hp} {I : A0 → A1 → Prop} {μ : A0 → A1 → Nat} {a0 : A0} {a1 : A1} (b0 : A0) (b1 : A1) (hs : SubK (L b0 b1) K) (hH : HSub H (HI b0 b1)) (hI : I b0 b1) (hμ : μ b0 b1 < μ a0 a1) : PD C (ql2 C L HI I μ a0 a1 Q) .normal K H := pd_loop (b0, b1) hs hH hI hμ
abbrev ql3 {A0 A1 A2 : Type} (C : Ctx) (L : A0 → A1 → A2 → Kd) (HI : A0 → A1 → A2 → List Hp) (I : A0 → A1 → A2 → Prop) (μ : A0 → A1 → A2 → Nat) (a0 : A0) (a1 : A1) (a2 : A2) (Q : zaU) : zaU := zd7 C (fun g : A0 × A1 × A2 => L g.1 g.2.1 g.2.2) (fun g : A0 × A1 × A2 => HI g.1 g.2.1 g.2.2) (fun g : A0 × A1 × A2 => I g.1 g.2.1 g.2.2) (fun g : A0 × A1 × A2 => μ g.1 g.2.1 g.2.2) (a0, a1, a2) Q
theorem jl3 {A0 A1 A2 : Type} (L : A0 → A1 → A2 → Kd) (HI : A0 → A1 → A2 → List Hp) (I : A0 → A1 → A2 → Prop) (μ : A0 → A1 → A2 → Nat) (a0 : A0) (a1 : A1) (a2 : A2) (hk : lpF c p = some pa) (hs : SubK (L a0 a1 a2) K) (hH : HSub H (HI a0 a1 a2)) (hI : I a0 a1 a2) (h : ∀ b0 b1 b2, I b0 b1 b2 → JD P N C (cd c pa) (L b0 b1 b2) (HI b0 b1 b2) (ql3 C L HI I μ b0 b1 b2 Q)) : JD P N C (cd c p) K H Q :=
  jd_loop (fun g : A0 × A1 × A2 => L g.1 g.2.1 g.2.2) (fun g : A0 × A1 × A2 => HI g.1 g.2.1 g.2.2) (fun g : A0 × A1 × A2 => I g.1 g.2.1 g.2.2) (fun g : A0 × A1 × A2 => μ g.1 g.2.1 g.2.2) pa (a0, a1, a2) (zdA hk).1 (zdA hk).2 hs hH hI (fun g hg => h g.1 g.2.1 g.2.2 hg)
theorem pl3 {A0 A1 A2 : Type} {L : A0 → A1 → A2 → Kd} {HI : A0 → A1 → A2 → List Hp} {I : A0 → A1 → A2 → Prop} {μ : A0 → A1 → A2 → Nat} {a0 : A0} {a1 : A1} {a2 : A2} (b0 : A0) (b1 : A1) (b2 : A2) (hs : SubK (L b0 b1 b2) K) (hH : HSub H (HI b0 b1 b2)) (hI : I b0 b1 b2) (hμ : μ b0 b1 b2 < μ a0 a1 a2) : PD C (ql3 C L HI I μ a0 a1 a2 Q) .normal K H := pd_loop (b0, b1, b2) hs hH hI hμ
abbrev ql4 {A0 A1 A2 A3 : Type} (C : Ctx) (L : A0 → A1 → A2 → A3 → Kd) (HI : A0 → A1 → A2 → A3 → List Hp) (I : A0 → A1 → A2 → A3 → Prop) (μ : A0 → A1 → A2 → A3 → Nat) (a0 : A0) (a1 : A1) (a2 : A2) (a3 : A3) (Q : zaU) : zaU := zd7 C (fun g : A0 × A1 × A2 × A3 => L g.1 g.2.1 g.2.2.1 g.2.2.2) (fun g : A0 × A1 × A2 × A3 => HI g.1 g.2.1 g.2.2.1 g.2.2.2) (fun g : A0 × A1 × A2 × A3 => I g.1 g.2.1 g.2.2.1 g.2.2.2) (fun g : A0 × A1 × A2 × A3 => μ g.1 g.2.1 g.2.2.1 g.2.2.2) (a0, a1, a2, a3) Q
theorem jl4 {A0 A1 A2 A3 : Type} (L : A0 → A1 → A2 → A3 → Kd) (HI : A0 → A1 → A2 → A3 → List Hp) (I : A0 → A1 → A2 → A3 → Prop) (μ : A0 → A1 → A2 → A3 → Nat) (a0 : A0) (a1 : A1) (a2 : A2) (a3 : A3) (hk : lpF c p = some pa) (hs : SubK (L a0 a1 a2 a3) K) (hH : HSub H (HI a0 a1 a2 a3)) (hI : I a0 a1 a2 a3) (h : ∀ b0 b1 b2 b3, I b0 b1 b2 b3 → JD P N C (cd c pa) (L b0 b1 b2 b3) (HI b0 b1 b2 b3) (ql4 C L HI I μ b0 b1 b2 b3 Q)) : JD P N C (cd c p) K H Q :=
  jd_loop (fun g : A0 × A1 × A2 × A3 => L g.1 g.2.1 g.2.2.1 g.2.2.2) (fun g : A0 × A1 × A2 × A3 => HI g.1 g.2.1 g.2.2.1 g.2.2.2) (fun g : A0 × A1 × A2 × A3 => I g.1 g.2.1 g.2.2.1 g.2.2.2) (fun g : A0 × A1 × A2 × A3 => μ g.1 g.2.1 g.2.2.1 g.2.2.2) pa (a0, a1, a2, a3) (zdA hk).1 (zdA hk).2 hs hH hI (fun g hg => h g.1 g.2.1 g.2.2.1 g.2.2.2 hg)
theorem pl4 {A0 A1 A2 A3 : Type} {L : A0 → A1 → A2 → A3 → Kd} {HI : A0 → A1 → A2 → A3 → List Hp} {I : A0 → A1 → A2 → A3 → Prop} {μ : A0 → A1 → A2 → A3 → Nat} {a0 : A0} {a1 : A1} {a2 : A2} {a3 : A3} (b0 : A0) (b1 : A1) (b2 : A2) (b3 : A3) (hs : SubK (L b0 b1 b2 b3) K) (hH : HSub H (HI b0 b1 b2 b3)) (hI : I b0 b1 b2 b3) (hμ : μ b0 b1 b2 b3 < μ a0 a1 a2 a3) : PD C (ql4 C L HI I μ a0 a1 a2 a3 Q) .normal K H := pd_loop (b0, b1, b2, b3) hs hH hI hμ
end
theorem bA (a b : Bool) : ((a && b) = true) = (a = true ∧ b = true) := Bool.and_eq_true a b
theorem bB (a b : Bool) : ((a || b) = true) = (a = true ∨ b = true) := Bool.or_eq_true a b
theorem bC (b : Bool) : ((!b) = true) = (b = false) := Bool.not_eq_true' b
theorem bD (b : Bool) : ((!b) = false) = (b = true) := Bool.not_eq_false' b
theorem bE (a b : Bool) : ((a && b) = false) = (a = false ∨ b = false) := by cases a <;> cases b <;> simp
theorem bF (a b : Bool) : ((a || b) = false) = (a = false ∧ b = false) := by cases a <;> cases b <;> simp
theorem bG (p : Prop) [Decidable p] : (decide p = true) = p := decide_eq_true_eq
theorem bH (p : Prop) [Decidable p] : (decide p = false) = ¬p := by simp
theorem bI (p : Prop) [Decidable p] : (¬¬p) = p := by simp
theorem bJ {α : Sort _} (a b : α) : (a ≠ b) = ¬a = b := rfl
theorem la {α : Type} {a b : List α} : (a ++ b).length = a.length + b.length := List.length_append
theorem lc {α : Type} {a : α} {b : List α} : (a :: b).length = b.length + 1 := List.length_cons
theorem ln {α : Type} : ([] : List α).length = 0 := List.length_nil
theorem lm {α β : Type} {a : List α} {f : α → β} : (a.map f).length = a.length := List.length_map f
theorem lt' {α : Type} {n : Nat} {a : List α} : (a.take n).length = min n a.length := List.length_take
theorem ld {α : Type} {n : Nat} {a : List α} : (a.drop n).length = a.length - n := List.length_drop
theorem ls {α : Type} {n : Nat} {a : List α} {x : α} : (a.set n x).length = a.length := List.length_set
theorem lr {α : Type} {n : Nat} {x : α} : (List.replicate n x).length = n := List.length_replicate
end Lp
/- Walks, printed by a program of mine. -/
set_option linter.unusedSimpArgs false
set_option linter.unusedVariables false
set_option maxHeartbeats 4000000
set_option maxRecDepth 100000
namespace Lp
open Go Go.RowKit Go.Proofs

namespace HdYtfjinapgehafiaaGreatV2
theorem z2 (b o : Nat) : ∀ w, (Instr.fieldAt 53 (.pointer (some ⟨b, o, none⟩)) 0).run Tryz.prog w = .ok (.pointer (some ⟨b, o + 0, none⟩)) w := fun _ => by kernel_rfl
theorem zaj (b o : Nat) : ∀ w, (Instr.fieldAt 53 (.pointer (some ⟨b, o, none⟩)) 1).run Tryz.prog w = .ok (.pointer (some ⟨b, o + 1, none⟩)) w := fun _ => by kernel_rfl
theorem zax (b o : Nat) : ∀ w, (Instr.fieldAt 62 (.pointer (some ⟨b, o, none⟩)) 0).run Tryz.prog w = .ok (.pointer (some ⟨b, o + 0, none⟩)) w := fun _ => by kernel_rfl
theorem za3 (b o : Nat) : ∀ w, (Instr.fieldAt 62 (.pointer (some ⟨b, o, none⟩)) 1).run Tryz.prog w = .ok (.pointer (some ⟨b, o + 1, none⟩)) w := fun _ => by kernel_rfl
end HdYtfjinapgehafiaaGreatV2
open HdYtfjinapgehafiaaGreatV2

theorem p_eqlbl_eql {ty t' : TypeId} {K : Kd} {H : List Hp} {x y : Operand} {a b : Lbl} {q : Bool} (hx : opD K x = some (Lbl.d a)) (hy : opD K y = some (Lbl.d b)) (hq : decide (a = b) = q) : Pu Tryz.prog (.binOp .eql 62 x y t') ty K H (dB q) :=
  ⟨fun ρ w F hk _ _ => by
    obtain ⟨vs, e, u1, r1, rfl, _, ⟨rfl, _⟩, u2, r2, rfl, _, ⟨rfl, _⟩, rfl⟩ := hk.op hx
    obtain ⟨vs', e', u3, r3, rfl, _, ⟨rfl, _⟩, u4, r4, rfl, _, ⟨rfl, _⟩, rfl⟩ := hk.op hy
    refine zce (r := .bool q) (zI ρ [x, y]) (zbq ρ e) (zbp ρ e') (fun w => ?_) ⟨rfl, rfl⟩
    subst hq
    obtain ⟨a1, a2⟩ := a
    obtain ⟨b1, b2⟩ := b
    simp [go_sem, toList_beq]
    by_cases h1 : a1 = b1 <;> by_cases h2 : a2 = b2 <;> simp [h1, h2]⟩

theorem row_eq {a b : RowD} (h : a.v = b.v ∧ a.ls = b.ls) : a = b := by
  obtain ⟨p, q⟩ := a
  obtain ⟨r, s⟩ := b
  obtain ⟨h1, h2⟩ := h
  simp at h1 h2; simp [h1, h2]
theorem row_ne {a b : RowD} (h : ¬ (a.v = b.v ∧ a.ls = b.ls)) : a ≠ b := by rintro rfl; exact h ⟨rfl, rfl⟩

theorem SameLabels_c (a : List Lbl) (b : List Lbl)  :
    CD Tryz.prog 23 [] [.sh 2 (a.map Lbl.d), .sh 2 (b.map Lbl.d)] (isR (dB (decide (a = b)))) := by
  refine zy Tryz.func23 rfl (N := 27) rfl rfl (fun C => ?_)
  refine jk [0, 1] rfl ?_
  refine JD.bd 0 rfl (fun bd0 => ?_)
  have nl0 := zZ bd0
  refine JD.bd 1 rfl (fun bd1 => ?_)
  have nl1 := zZ bd1
  refine jT rfl (oR 1 rfl (oZ rfl (jS rfl (jT rfl (oR 1 rfl (oP rfl (zae (n := a.length) rfl Tryz.runUnderlying50 (by simp only [lm, lc, ln])) (oR 1 rfl (oP rfl (zae (n := b.length) rfl Tryz.runUnderlying50 (by simp only [lm, lc, ln])) (oP rfl (zau rfl rfl rfl) (oZ rfl ?_))))))))))
  refine jD rfl (fun hc1 => ?_) (fun hc1 => ?_)
  · skip
    refine jT rfl (oR 1 rfl (oZ rfl (zs rfl (ze ?_))))
    exact zj Tryz.results23 (.cons (zB (zf rfl) (Cv.eq (congrArg (fun b => D.v (.bool b)) (by first | exact (zbZ (by omega)).symm | exact (zcW (by omega) (by omega) hf).symm)))) .nil) rfl HSub.none ⟨rfl, rfl⟩
  · skip
    refine zq rfl (zc (jS rfl (jT rfl (oR 1 rfl (oZ rfl (jB rfl (jl1 (fun (a_ : Nat) => [(0, .sh 2 (a.map Lbl.d)), (1, .sh 2 (b.map Lbl.d)), (5, dN a_)]) (fun a_ => []) (fun a_ => (a_ ≤ a.length) ∧ (a.take a_ = b.take a_)) (fun a_ => a.length - a_) 0 rfl (sa rfl) HSub.rfl' ⟨Nat.zero_le _, by simp⟩ ?_)))))))
    rintro k ⟨hk, hf⟩
    refine ja rfl (jn rfl (jS rfl (jT rfl (oR 2 rfl (oP rfl (zae (n := a.length) rfl Tryz.runUnderlying50 (by simp only [lm, lc, ln])) (oP rfl (zL rfl rfl rfl) (oZ rfl ?_)))))))
    refine jD rfl (fun hc2 => ?_) (fun hc2 => ?_)
    · skip
      refine zq rfl (zc (jS rfl (jB rfl (jS rfl (jk [0, 1, 5, 11, 12, 13, 14] rfl (jn rfl ?_))))))
      obtain ⟨x1, hx1⟩ := zG a k (by omega)
      obtain ⟨x2, hx2⟩ := zG b k (by omega)
      refine z3 8 [(17, .sh 2 (a.map Lbl.d), none), (18, dN k, none), (19, .el (Lbl.d x1) 0, none), (20, Lbl.d x1, none), (21, .sh 2 (b.map Lbl.d), none), (22, dN k, none), (23, .el (Lbl.d x2) 0, none), (24, Lbl.d x2, none)] [] (Hn := []) zah rfl rfl rfl rfl HSub.rfl' rfl ⟨sa_p rfl rfl rfl (zm rfl), sa_p rfl rfl rfl (zm rfl), sa_p rfl rfl rfl (zC (k := k) rfl rfl Tryz.runUnderlying50 Tryz.sizeOf62 (by first | rfl | omega) (zt hx1)), sa_p rfl rfl rfl (zar (d := Lbl.d x1) rfl Tryz.isAgg62 Tryz.sizeOf62 rfl rfl), sa_p rfl rfl rfl (zm rfl), sa_p rfl rfl rfl (zm rfl), sa_p rfl rfl rfl (zC (k := k) rfl rfl Tryz.runUnderlying50 Tryz.sizeOf62 (by first | rfl | omega) (zt hx2)), sa_p rfl rfl rfl (zar (d := Lbl.d x2) rfl Tryz.isAgg62 Tryz.sizeOf62 rfl rfl), trivial⟩ (ok [0, 1, 5, 11, 12, 13, 14, 17, 18, 19, 20, 21, 22, 23, 24] rfl (oP rfl (p_eqlbl_eql rfl rfl rfl) (oP rfl (zaP rfl) (oZ rfl ?_))))
      refine jC rfl (fun hc3 => ?_) (fun hc3 => ?_)
      · replace hc3 := of_decide_eq_false (p := x1 = x2) (by simpa using hc3)
        refine jT rfl (oR 1 rfl (oZ rfl (zs rfl (zi (ze (zQ (zi (ze ?_))))))))
        exact zj Tryz.results23 (.cons (zB (zf rfl) (Cv.eq (congrArg (fun b => D.v (.bool b)) (by first | exact (zbZ (by omega)).symm | exact (same_ne_at hx1 hx2 (by simpa using hc3)).symm | exact (zcW (by omega) (by omega) hf).symm)))) .nil) rfl HSub.none ⟨rfl, rfl⟩
      · replace hc3 := of_decide_eq_true (p := x1 = x2) (by simpa using hc3)
        refine zq rfl (zw (zc (za rfl (oR 1 rfl (oP rfl (zS (c := ((k + 1 : Nat) : Int)) rfl rfl (zF (by omega) (by omega))) (oR 1 rfl (zg rfl ?_)))))))
        exact pl1 (k + 1) (sa rfl) HSub.rfl' ⟨by omega, same_snoc hx1 hx2 hf (by simpa using hc3)⟩ (by omega)
    · skip
      refine zE rfl (zr (zn (zh (zc (jT rfl (oR 1 rfl (oZ rfl (zs rfl ?_))))))))
      exact zj Tryz.results23 (.cons (zB (zf rfl) (Cv.eq (congrArg (fun b => D.v (.bool b)) (by first | exact (zbZ (by omega)).symm | exact (zcW (by omega) (by omega) hf).symm)))) .nil) rfl HSub.none ⟨rfl, rfl⟩

theorem zbz (a : List RowD) (b : List RowD)  :
    CD Tryz.prog 22 [] [.sh 2 (a.map RowD.d), .sh 2 (b.map RowD.d)] (isR (dB (decide (a = b)))) := by
  refine zy Tryz.func22 rfl (N := 42) rfl rfl (fun C => ?_)
  refine jk [0, 1] rfl ?_
  refine JD.bd 0 rfl (fun bd0 => ?_)
  have nl0 := zZ bd0
  refine JD.bd 1 rfl (fun bd1 => ?_)
  have nl1 := zZ bd1
  refine jT rfl (oR 1 rfl (oZ rfl (jS rfl (jT rfl (oR 1 rfl (oP rfl (zae (n := a.length) rfl Tryz.runUnderlying22 (by simp only [lm, lc, ln])) (oR 1 rfl (oP rfl (zae (n := b.length) rfl Tryz.runUnderlying22 (by simp only [lm, lc, ln])) (oP rfl (zau rfl rfl rfl) (oZ rfl ?_))))))))))
  refine jD rfl (fun hc1 => ?_) (fun hc1 => ?_)
  · skip
    refine jT rfl (oR 1 rfl (oZ rfl (zs rfl (ze ?_))))
    exact zj Tryz.results22 (.cons (zB (zf rfl) (Cv.eq (congrArg (fun b => D.v (.bool b)) (by first | exact (zbZ (by omega)).symm | exact (zcW (by omega) (by omega) hf).symm)))) .nil) rfl HSub.none ⟨rfl, rfl⟩
  · skip
    refine zq rfl (zc (jS rfl (jT rfl (oR 1 rfl (oZ rfl (jB rfl (jl1 (fun (a_ : Nat) => [(0, .sh 2 (a.map RowD.d)), (1, .sh 2 (b.map RowD.d)), (5, dN a_)]) (fun a_ => []) (fun a_ => (a_ ≤ a.length) ∧ (a.take a_ = b.take a_)) (fun a_ => a.length - a_) 0 rfl (sa rfl) HSub.rfl' ⟨Nat.zero_le _, by simp⟩ ?_)))))))
    rintro k ⟨hk, hf⟩
    refine ja rfl (jn rfl (jS rfl (jT rfl (oR 2 rfl (oP rfl (zae (n := a.length) rfl Tryz.runUnderlying22 (by simp only [lm, lc, ln])) (oP rfl (zL rfl rfl rfl) (oZ rfl ?_)))))))
    refine jD rfl (fun hc2 => ?_) (fun hc2 => ?_)
    · skip
      refine zq rfl (zc (jS rfl (jB rfl (jS rfl ?_))))
      obtain ⟨x1, hx1⟩ := zG a k (by omega)
      obtain ⟨x2, hx2⟩ := zG b k (by omega)
      refine jk [0, 1, 5, 11, 12, 13, 14] rfl ?_
      refine zab 41 (!((decide (x1.v = x2.v) && decide (x1.ls = x2.ls)))) [] (fun _ hQ3 => ?_) ?_
      · skip
        by_cases hg4 : x1.v = x2.v
        · skip
          refine jk [0, 1, 5, 11, 12, 13, 14] rfl (jn rfl ?_)
          refine z3 22 [(17, .sh 2 (a.map RowD.d), none), (18, dN k, none), (19, .el (RowD.d x1) 0, none), (20, .el (RowD.d x1) 1, none), (21, dI x1.v, none), (22, .sh 2 (b.map RowD.d), none), (23, dN k, none), (24, .el (RowD.d x2) 0, none), (25, .el (RowD.d x2) 1, none), (26, dI x2.v, none), (27, dB true, none), (28, dB true, none), (29, .sh 2 (a.map RowD.d), none), (30, dN k, none), (31, .el (RowD.d x1) 0, none), (32, .el (RowD.d x1) 0, none), (33, .sh 2 (x1.ls.map Lbl.d), none), (34, .sh 2 (b.map RowD.d), none), (35, dN k, none), (36, .el (RowD.d x2) 0, none), (37, .el (RowD.d x2) 0, none), (38, .sh 2 (x2.ls.map Lbl.d), none)] [] (Hn := []) zah rfl rfl rfl rfl HSub.rfl' rfl ⟨sa_p rfl rfl rfl (zm rfl), sa_p rfl rfl rfl (zm rfl), sa_p rfl rfl rfl (zC (k := k) rfl rfl Tryz.runUnderlying22 Tryz.sizeOf53 (by first | rfl | omega) (zt hx1)), sa_p rfl rfl rfl (zD rfl zaj rfl), sa_p rfl rfl rfl (zH rfl Tryz.isAgg3 rfl), sa_p rfl rfl rfl (zm rfl), sa_p rfl rfl rfl (zm rfl), sa_p rfl rfl rfl (zC (k := k) rfl rfl Tryz.runUnderlying22 Tryz.sizeOf53 (by first | rfl | omega) (zt hx2)), sa_p rfl rfl rfl (zD rfl zaj rfl), sa_p rfl rfl rfl (zH rfl Tryz.isAgg3 rfl), sa_p rfl rfl rfl (zV rfl rfl (decide_eq_true hg4)), sa_p rfl rfl rfl (zm rfl), zM rfl rfl rfl rfl rfl rfl (zm rfl).qu, zM rfl rfl rfl rfl rfl rfl (zm rfl).qu, zM rfl rfl rfl rfl rfl rfl (zC (k := k) rfl rfl Tryz.runUnderlying22 Tryz.sizeOf53 (by first | rfl | omega) (zt hx1)).qu, zM rfl rfl rfl rfl rfl rfl (zD rfl z2 rfl).qu, zM rfl rfl rfl rfl rfl rfl (zH rfl Tryz.isAgg50 rfl).qu, zM rfl rfl rfl rfl rfl rfl (zm rfl).qu, zM rfl rfl rfl rfl rfl rfl (zm rfl).qu, zM rfl rfl rfl rfl rfl rfl (zC (k := k) rfl rfl Tryz.runUnderlying22 Tryz.sizeOf53 (by first | rfl | omega) (zt hx2)).qu, zM rfl rfl rfl rfl rfl rfl (zD rfl z2 rfl).qu, zM rfl rfl rfl rfl rfl rfl (zH rfl Tryz.isAgg50 rfl).qu, trivial⟩ ?_
          refine ok [0, 1, 5, 11, 12, 13, 14, 17, 18, 19, 20, 21, 22, 23, 24, 25, 26, 27, 28, 29, 30, 31, 32, 33, 34, 35, 36, 37, 38] rfl (oV rfl rfl acs Tryz.call23 (SameLabels_c x1.ls x2.ls) (oR 1 rfl (oP rfl (zaP rfl) (zg rfl ?_))))
          exact PD.sub ((41, dB (!((decide (x1.v = x2.v) && decide (x1.ls = x2.ls))))) :: [(0, .sh 2 (a.map RowD.d)), (1, .sh 2 (b.map RowD.d)), (5, dN k), (11, dN k), (12, .sh 2 (a.map RowD.d)), (13, dN a.length), (14, dB (decide (((k : Nat) : Int) < ((a.length : Nat) : Int))))]) ⟨sc rfl (Cv.eq (congrArg (fun b => D.v (.bool b)) (by first | (simp [hc2, hg4]; done) | (simp_all; done)))), sk rfl, sk rfl, sk rfl, sk rfl, sk rfl, sk rfl, sk rfl, trivial⟩ hQ3
        · skip
          refine jk [0, 1, 5, 11, 12, 13, 14] rfl (jn rfl ?_)
          refine z3 22 [(17, .sh 2 (a.map RowD.d), none), (18, dN k, none), (19, .el (RowD.d x1) 0, none), (20, .el (RowD.d x1) 1, none), (21, dI x1.v, none), (22, .sh 2 (b.map RowD.d), none), (23, dN k, none), (24, .el (RowD.d x2) 0, none), (25, .el (RowD.d x2) 1, none), (26, dI x2.v, none), (27, dB false, none), (28, dB false, none), (29, .v undef, none), (30, .v undef, none), (31, .v undef, none), (32, .v undef, none), (33, .v undef, none), (34, .v undef, none), (35, .v undef, none), (36, .v undef, none), (37, .v undef, none), (38, .v undef, none)] [] (Hn := []) zah rfl rfl rfl rfl HSub.rfl' rfl ⟨sa_p rfl rfl rfl (zm rfl), sa_p rfl rfl rfl (zm rfl), sa_p rfl rfl rfl (zC (k := k) rfl rfl Tryz.runUnderlying22 Tryz.sizeOf53 (by first | rfl | omega) (zt hx1)), sa_p rfl rfl rfl (zD rfl zaj rfl), sa_p rfl rfl rfl (zH rfl Tryz.isAgg3 rfl), sa_p rfl rfl rfl (zm rfl), sa_p rfl rfl rfl (zm rfl), sa_p rfl rfl rfl (zC (k := k) rfl rfl Tryz.runUnderlying22 Tryz.sizeOf53 (by first | rfl | omega) (zt hx2)), sa_p rfl rfl rfl (zD rfl zaj rfl), sa_p rfl rfl rfl (zH rfl Tryz.isAgg3 rfl), sa_p rfl rfl rfl (zV rfl rfl (decide_eq_false hg4)), sa_p rfl rfl rfl (zm rfl), sa_s rfl rfl rfl rfl rfl rfl (by decide), sa_s rfl rfl rfl rfl rfl rfl (by decide), sa_s rfl rfl rfl rfl rfl rfl (by decide), sa_s rfl rfl rfl rfl rfl rfl (by decide), sa_s rfl rfl rfl rfl rfl rfl (by decide), sa_s rfl rfl rfl rfl rfl rfl (by decide), sa_s rfl rfl rfl rfl rfl rfl (by decide), sa_s rfl rfl rfl rfl rfl rfl (by decide), sa_s rfl rfl rfl rfl rfl rfl (by decide), sa_s rfl rfl rfl rfl rfl rfl (by decide), trivial⟩ ?_
          refine ok [0, 1, 5, 11, 12, 13, 14, 17, 18, 19, 20, 21, 22, 23, 24, 25, 26, 27, 28, 29, 30, 31, 32, 33, 34, 35, 36, 37, 38] rfl (oR 3 rfl (zg rfl ?_))
          exact PD.sub ((41, dB (!((decide (x1.v = x2.v) && decide (x1.ls = x2.ls))))) :: [(0, .sh 2 (a.map RowD.d)), (1, .sh 2 (b.map RowD.d)), (5, dN k), (11, dN k), (12, .sh 2 (a.map RowD.d)), (13, dN a.length), (14, dB (decide (((k : Nat) : Int) < ((a.length : Nat) : Int))))]) ⟨sc rfl (Cv.eq (congrArg (fun b => D.v (.bool b)) (by first | (simp [hc2, hg4]; done) | (simp_all; done)))), sk rfl, sk rfl, sk rfl, sk rfl, sk rfl, sk rfl, sk rfl, trivial⟩ hQ3
      · skip
        refine zc ?_
        refine jC rfl (fun hc5 => ?_) (fun hc5 => ?_)
        · simp only [bA, bB, bC, bD, bE, bF, bG, bH, bI, bJ] at hc5
          refine jT rfl (oR 1 rfl (oZ rfl (zs rfl (zi (ze (zQ (zi (ze ?_))))))))
          exact zj Tryz.results22 (.cons (zB (zf rfl) (Cv.eq (congrArg (fun b => D.v (.bool b)) (by first | exact (zbZ (by omega)).symm | exact (same_ne_at hx1 hx2 (row_ne (fun e => by rcases hc5 with h | h; exact h e.1; exact h e.2))).symm | exact (zcW (by omega) (by omega) hf).symm)))) .nil) rfl HSub.none ⟨rfl, rfl⟩
        · simp only [bA, bB, bC, bD, bE, bF, bG, bH, bI, bJ] at hc5
          refine zq rfl (zw (zc (za rfl (oR 1 rfl (oP rfl (zS (c := ((k + 1 : Nat) : Int)) rfl rfl (zF (by omega) (by omega))) (oR 1 rfl (zg rfl ?_)))))))
          exact pl1 (k + 1) (sa rfl) HSub.rfl' ⟨by omega, same_snoc hx1 hx2 hf (by refine row_eq ?_; simpa using hc5)⟩ (by omega)
    · skip
      refine zE rfl (zr (zn (zh (zc (jT rfl (oR 1 rfl (oZ rfl (zs rfl ?_))))))))
      exact zj Tryz.results22 (.cons (zB (zf rfl) (Cv.eq (congrArg (fun b => D.v (.bool b)) (by first | exact (zbZ (by omega)).symm | exact (zcW (by omega) (by omega) hf).symm)))) .nil) rfl HSub.none ⟨rfl, rfl⟩

theorem Light2_c (l : List Lbl)  :
    CD Tryz.prog 35 [] [.sh 2 (l.map Lbl.d)] (isR (dB (zam l))) := by
  refine zy Tryz.func35 rfl (N := 33) rfl rfl (fun C => ?_)
  refine jk [0] rfl ?_
  refine JD.bd 0 rfl (fun bd0 => ?_)
  have nl0 := zZ bd0
  refine jT rfl (oR 1 rfl (oZ rfl (jS rfl (jT rfl (oR 1 rfl (oZ rfl (jB rfl (jl1 (fun (a_ : Nat) => [(0, .sh 2 (l.map Lbl.d)), (3, dN a_)]) (fun a_ => []) (fun a_ => (a_ ≤ l.length ∧ a_ ≤ 30) ∧ ((l.take a_).all (fun x => decide (x.n.size ≤ 200) && decide (x.v.size ≤ 200)) = true)) (fun a_ => l.length - a_) 0 rfl (sa rfl) HSub.rfl' ⟨⟨Nat.zero_le _, Nat.zero_le _⟩, by simp⟩ ?_))))))))
  rintro k ⟨hk, hf⟩
  refine ja rfl (jn rfl (jS rfl (jS rfl (jk [0, 3] rfl ?_))))
  refine zab 11 ((decide (((k : Nat) : Int) < ((l.length : Nat) : Int)) && decide (((k : Nat) : Int) < (30 : Int)))) [] (fun _ hQ1 => ?_) ?_
  · skip
    by_cases hg2 : ((k : Nat) : Int) < ((l.length : Nat) : Int)
    · skip
      refine za rfl (oR 2 rfl (oP rfl (zae (n := l.length) rfl Tryz.runUnderlying50 (by simp only [lm, lc, ln])) (oP rfl (zL rfl rfl (decide_eq_true hg2)) (oR 2 rfl (oG rfl (zL rfl rfl rfl) (oR 1 rfl (zg rfl ?_)))))))
      exact PD.sub ((11, dB (decide (((k : Nat) : Int) < ((l.length : Nat) : Int)) && decide (((k : Nat) : Int) < (30 : Int)))) :: [(0, .sh 2 (l.map Lbl.d)), (3, dN k)]) ⟨sc rfl (Cv.eq (congrArg (fun b => D.v (.bool b)) (by first | (simp [hg2]; done) | (simp_all; done)))), sk rfl, sk rfl, trivial⟩ hQ1
    · skip
      refine za rfl (oR 2 rfl (oP rfl (zae (n := l.length) rfl Tryz.runUnderlying50 (by simp only [lm, lc, ln])) (oP rfl (zL rfl rfl (decide_eq_false hg2)) (oR 4 rfl (zg rfl ?_)))))
      exact PD.sub ((11, dB (decide (((k : Nat) : Int) < ((l.length : Nat) : Int)) && decide (((k : Nat) : Int) < (30 : Int)))) :: [(0, .sh 2 (l.map Lbl.d)), (3, dN k)]) ⟨sc rfl (Cv.eq (congrArg (fun b => D.v (.bool b)) (by first | (simp [hg2]; done) | (simp_all; done)))), sk rfl, sk rfl, trivial⟩ hQ1
  · skip
    refine zc ?_
    refine jC rfl (fun hc3 => ?_) (fun hc3 => ?_)
    · simp only [bA, bB, bC, bD, bE, bF, bG, bH, bI, bJ] at hc3
      refine zq rfl (zc (jS rfl (jB rfl (jS rfl ?_))))
      obtain ⟨x1, hx1⟩ := zG l k (by omega)
      refine jk [0, 3, 11] rfl ?_
      refine zab 29 ((decide ((200 : Int) < ((x1.n.size : Nat) : Int)) || decide ((200 : Int) < ((x1.v.size : Nat) : Int)))) [] (fun _ hQ4 => ?_) ?_
      · skip
        by_cases hg5 : (200 : Int) < ((x1.n.size : Nat) : Int)
        · skip
          refine za rfl (oR 2 rfl (oP rfl (zC (k := k) rfl rfl Tryz.runUnderlying50 Tryz.sizeOf62 (by first | rfl | omega) (zt hx1)) (oP rfl (zD rfl zax rfl) (oP rfl (zH rfl Tryz.isAgg9 rfl) (oP rfl (zas rfl Tryz.runUnderlying9) (oP rfl (zaz rfl rfl (decide_eq_true hg5)) (oR 9 rfl (zg rfl ?_))))))))
          exact PD.sub ((29, dB (decide ((200 : Int) < ((x1.n.size : Nat) : Int)) || decide ((200 : Int) < ((x1.v.size : Nat) : Int)))) :: [(0, .sh 2 (l.map Lbl.d)), (3, dN k), (11, dB (decide (((k : Nat) : Int) < ((l.length : Nat) : Int)) && decide (((k : Nat) : Int) < (30 : Int))))]) ⟨sc rfl (Cv.eq (congrArg (fun b => D.v (.bool b)) (by first | (simp [hg5]; done) | (simp_all; done)))), sk rfl, sk rfl, sk rfl, trivial⟩ hQ4
        · skip
          refine za rfl (oR 2 rfl (oP rfl (zC (k := k) rfl rfl Tryz.runUnderlying50 Tryz.sizeOf62 (by first | rfl | omega) (zt hx1)) (oP rfl (zD rfl zax rfl) (oP rfl (zH rfl Tryz.isAgg9 rfl) (oP rfl (zas rfl Tryz.runUnderlying9) (oP rfl (zaz rfl rfl (decide_eq_false hg5)) (oR 3 rfl (oG rfl (zC (k := k) rfl rfl Tryz.runUnderlying50 Tryz.sizeOf62 (by first | rfl | omega) (zt hx1)) (oG rfl (zD rfl za3 rfl) (oG rfl (zH rfl Tryz.isAgg9 rfl) (oG rfl (zas rfl Tryz.runUnderlying9) (oG rfl (zaz rfl rfl rfl) (oR 1 rfl (zg rfl ?_))))))))))))))
          exact PD.sub ((29, dB (decide ((200 : Int) < ((x1.n.size : Nat) : Int)) || decide ((200 : Int) < ((x1.v.size : Nat) : Int)))) :: [(0, .sh 2 (l.map Lbl.d)), (3, dN k), (11, dB (decide (((k : Nat) : Int) < ((l.length : Nat) : Int)) && decide (((k : Nat) : Int) < (30 : Int))))]) ⟨sc rfl (Cv.eq (congrArg (fun b => D.v (.bool b)) (by first | (simp [hg5]; done) | (simp_all; done)))), sk rfl, sk rfl, sk rfl, trivial⟩ hQ4
      · skip
        refine zc ?_
        refine jC rfl (fun hc6 => ?_) (fun hc6 => ?_)
        · simp only [bA, bB, bC, bD, bE, bF, bG, bH, bI, bJ] at hc6
          refine jT rfl (oR 1 rfl (oZ rfl (zs rfl (zi (ze (zQ (zi (ze ?_))))))))
          exact zj Tryz.results35 (.cons (zB (zf rfl) (Cv.eq (congrArg (fun b => D.v (.bool b)) (by first | rw [lightL_bad hx1 (by omega) (by omega)] | (rw [lightL_end hf (by omega)]; exact decide_eq_decide.2 (by omega)))))) .nil) rfl HSub.none ⟨rfl, rfl⟩
        · simp only [bA, bB, bC, bD, bE, bF, bG, bH, bI, bJ] at hc6
          refine zq rfl (zw (zc (za rfl (oR 1 rfl (oP rfl (zS (c := ((k + 1 : Nat) : Int)) rfl rfl (zF (by omega) (by omega))) (oR 1 rfl (zg rfl ?_)))))))
          exact pl1 (k + 1) (sa rfl) HSub.rfl' ⟨by omega, zbR hx1 hf (by simp only [Bool.and_eq_true, decide_eq_true_eq]; omega)⟩ (by omega)
    · simp only [bA, bB, bC, bD, bE, bF, bG, bH, bI, bJ] at hc3
      refine zE rfl (zr (zn (zh (zc (jT rfl (oR 1 rfl (oP rfl (zae (n := l.length) rfl Tryz.runUnderlying50 (by simp only [lm, lc, ln])) (oP rfl (zaK rfl rfl rfl) (oR 1 rfl (oZ rfl (zs rfl ?_)))))))))))
      exact zj Tryz.results35 (.cons (zB (zf rfl) (Cv.eq (congrArg (fun b => D.v (.bool b)) (by first | rw [lightL_bad hk (by omega) (by omega)] | (rw [lightL_end hf (by omega)]; exact decide_eq_decide.2 (by omega)))))) .nil) rfl HSub.none ⟨rfl, rfl⟩

theorem zbK (l : List RowD)  :
    CD Tryz.prog 10 [] [.sh 2 (l.map RowD.d)] (isR (dB (za4 l))) := by
  refine zy Tryz.func10 rfl (N := 24) rfl rfl (fun C => ?_)
  refine jk [0] rfl ?_
  refine JD.bd 0 rfl (fun bd0 => ?_)
  have nl0 := zZ bd0
  refine jT rfl (oR 1 rfl (oZ rfl (jS rfl (jT rfl (oR 1 rfl (oZ rfl (jB rfl (jl1 (fun (a_ : Nat) => [(0, .sh 2 (l.map RowD.d)), (3, dN a_)]) (fun a_ => []) (fun a_ => (a_ ≤ l.length ∧ a_ ≤ 100) ∧ ((l.take a_).all (fun r => zam r.ls) = true)) (fun a_ => l.length - a_) 0 rfl (sa rfl) HSub.rfl' ⟨⟨Nat.zero_le _, Nat.zero_le _⟩, by simp⟩ ?_))))))))
  rintro k ⟨hk, hf⟩
  refine ja rfl (jn rfl (jS rfl (jS rfl (jk [0, 3] rfl ?_))))
  refine zab 11 ((decide (((k : Nat) : Int) < ((l.length : Nat) : Int)) && decide (((k : Nat) : Int) < (100 : Int)))) [] (fun _ hQ1 => ?_) ?_
  · skip
    by_cases hg2 : ((k : Nat) : Int) < ((l.length : Nat) : Int)
    · skip
      refine za rfl (oR 2 rfl (oP rfl (zae (n := l.length) rfl Tryz.runUnderlying22 (by simp only [lm, lc, ln])) (oP rfl (zL rfl rfl (decide_eq_true hg2)) (oR 2 rfl (oG rfl (zL rfl rfl rfl) (oR 1 rfl (zg rfl ?_)))))))
      exact PD.sub ((11, dB (decide (((k : Nat) : Int) < ((l.length : Nat) : Int)) && decide (((k : Nat) : Int) < (100 : Int)))) :: [(0, .sh 2 (l.map RowD.d)), (3, dN k)]) ⟨sc rfl (Cv.eq (congrArg (fun b => D.v (.bool b)) (by first | (simp [hg2]; done) | (simp_all; done)))), sk rfl, sk rfl, trivial⟩ hQ1
    · skip
      refine za rfl (oR 2 rfl (oP rfl (zae (n := l.length) rfl Tryz.runUnderlying22 (by simp only [lm, lc, ln])) (oP rfl (zL rfl rfl (decide_eq_false hg2)) (oR 4 rfl (zg rfl ?_)))))
      exact PD.sub ((11, dB (decide (((k : Nat) : Int) < ((l.length : Nat) : Int)) && decide (((k : Nat) : Int) < (100 : Int)))) :: [(0, .sh 2 (l.map RowD.d)), (3, dN k)]) ⟨sc rfl (Cv.eq (congrArg (fun b => D.v (.bool b)) (by first | (simp [hg2]; done) | (simp_all; done)))), sk rfl, sk rfl, trivial⟩ hQ1
  · skip
    refine zc ?_
    refine jC rfl (fun hc3 => ?_) (fun hc3 => ?_)
    · simp only [bA, bB, bC, bD, bE, bF, bG, bH, bI, bJ] at hc3
      refine zq rfl (zc (jS rfl (jB rfl (jT rfl (oR 2 rfl ?_)))))
      obtain ⟨x1, hx1⟩ := zG l k (by omega)
      refine oP rfl (zC (k := k) rfl rfl Tryz.runUnderlying22 Tryz.sizeOf53 (by first | rfl | omega) (zt hx1)) (oP rfl (zD rfl z2 rfl) (oP rfl (zH rfl Tryz.isAgg50 rfl) (oW rfl rfl acs Tryz.call35 (Light2_c x1.ls) (oP rfl (zaP rfl) (oZ rfl ?_)))))
      refine jC rfl (fun hc4 => ?_) (fun hc4 => ?_)
      · simp only [bA, bB, bC, bD, bE, bF, bG, bH, bI, bJ] at hc4
        refine jT rfl (oR 1 rfl (oZ rfl (zs rfl (zi (ze (zQ (zi (ze ?_))))))))
        exact zj Tryz.results10 (.cons (zB (zf rfl) (Cv.eq (congrArg (fun b => D.v (.bool b)) (by first | rw [lightR_bad hx1 (by omega) (by simpa using hc4)] | (rw [lightR_end hf (by omega)]; exact decide_eq_decide.2 (by omega)))))) .nil) rfl HSub.none ⟨rfl, rfl⟩
      · simp only [bA, bB, bC, bD, bE, bF, bG, bH, bI, bJ] at hc4
        refine zq rfl (zw (zc (za rfl (oR 1 rfl (oP rfl (zS (c := ((k + 1 : Nat) : Int)) rfl rfl (zF (by omega) (by omega))) (oR 1 rfl (zg rfl ?_)))))))
        exact pl1 (k + 1) (sa rfl) HSub.rfl' ⟨by omega, zbR hx1 hf (by simpa using hc4)⟩ (by omega)
    · simp only [bA, bB, bC, bD, bE, bF, bG, bH, bI, bJ] at hc3
      refine zE rfl (zr (zn (zh (zc (jT rfl (oR 1 rfl (oP rfl (zae (n := l.length) rfl Tryz.runUnderlying22 (by simp only [lm, lc, ln])) (oP rfl (zaK rfl rfl rfl) (oR 1 rfl (oZ rfl (zs rfl ?_)))))))))))
      exact zj Tryz.results10 (.cons (zB (zf rfl) (Cv.eq (congrArg (fun b => D.v (.bool b)) (by first | rw [lightR_bad hk (by omega) (by simpa using hc4)] | (rw [lightR_end hf (by omega)]; exact decide_eq_decide.2 (by omega)))))) .nil) rfl HSub.none ⟨rfl, rfl⟩
end Lp
