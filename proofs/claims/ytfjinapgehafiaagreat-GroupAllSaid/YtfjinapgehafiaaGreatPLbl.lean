/-
  A region that draws its order, whose operations may make rows of the call's own: which place they have is told by a ghost for each of these.
-/
import Derived.Test.YtfjinapgehafiaaGreatV5
set_option linter.unusedVariables false
namespace Lp
open Go Go.RowKit

/-- The ghosts of a region: of each operation the row that it made. -/
abbrev Gh := Nat → Value
def ug (γ : Gh) (k : Nat) (v : Value) : Gh := fun i => bif Nat.beq i k then v else γ i
theorem ug_self (γ : Gh) (k : Nat) (v : Value) : ug γ k v k = v := by unfold ug; rw [Nat.beq_refl]; rfl
theorem ug_ne (γ : Gh) {k i : Nat} (v : Value) (h : i ≠ k) : ug γ k v i = γ i := by unfold ug; rw [zaY h]; rfl
inductive Ex where
  | q (d : D)
  /-- reads what is owned at its place in the chain -/
  | r (d : D)
  /-- an operation without a result -/
  | s (H : Gh → List Hp)
  | e (d : D) (H : Gh → List Hp)
  | o (H : Gh → List Hp)
  | f (m : Value → D) (H : Gh → List Hp)
def Ex.d (γ : Gh) (i : Nat) : Ex → D
  | .q d => d
  | .r d => d
  | .s _ => .v undef
  | .e d _ => d
  | .o _ => .ov (γ i)
  | .f m _ => m (γ i)
def Ex.isS : Ex → Bool
  | .s _ => true
  | _ => false
def Ex.h (γ : Gh) : Ex → Option (List Hp)
  | .q _ => none
  | .r _ => none
  | .s H => some (H γ)
  | .e _ H => some (H γ)
  | .o H => some (H γ)
  | .f _ H => some (H γ)
def gens (γ : Gh) : Nat → List (Tmp × Ex) → List En
  | _, [] => []
  | i, (t, x) :: r => (t, x.d γ i, x.h γ) :: gens γ (i + 1) r
theorem gens_nth (γ : Gh) : ∀ (es : List (Tmp × Ex)) (s i : Nat) (t : Tmp) (x : Ex), nth es i = some (t, x) → nth (gens γ s es) i = some (t, x.d γ (s + i), x.h γ)
  | [], _, i, _, _, h => by simp [nth] at h
  | (t, x) :: r, s, 0, t', x', h => by simp [nth] at h; obtain ⟨rfl, rfl⟩ := h; simp [gens, nth]
  | (t, x) :: r, s, i + 1, t', x', h => by
    have := gens_nth γ r (s + 1) i t' x' (by simpa [nth] using h)
    rw [show s + 1 + i = s + (i + 1) by omega] at this
    simpa [gens, nth] using this
theorem gens_nth' (γ : Gh) : ∀ (es : List (Tmp × Ex)) (s i : Nat) (t : Tmp) (d : D) (e : Option (List Hp)), nth (gens γ s es) i = some (t, d, e) → ∃ x, nth es i = some (t, x) ∧ d = x.d γ (s + i) ∧ e = x.h γ
  | [], _, i, _, _, _, h => by simp [gens, nth] at h
  | (t, x) :: r, s, 0, t', d', e', h => by simp [gens, nth] at h; obtain ⟨rfl, rfl, rfl⟩ := h; exact ⟨x, by simp [nth], rfl, rfl⟩
  | (t, x) :: r, s, i + 1, t', d', e', h => by
    obtain ⟨y, h1, h2, h3⟩ := gens_nth' γ r (s + 1) i t' d' e' (by simpa [gens, nth] using h)
    exact ⟨y, by simpa [nth] using h1, by rw [show s + (i + 1) = s + 1 + i by omega]; exact h2, h3⟩
theorem gens_len (γ : Gh) : ∀ (es : List (Tmp × Ex)) (s : Nat), (gens γ s es).length = es.length
  | [], _ => rfl
  | _ :: r, s => by simp [gens, gens_len γ r]
theorem zbN (γ γ' : Gh) : ∀ (es : List (Tmp × Ex)) (s k : Nat), isEf (gens γ s es) k = isEf (gens γ' s es) k
  | [], _, _ => rfl
  | (t, x) :: r, s, 0 => by cases x <;> simp [gens, isEf, nth, Ex.h]
  | (t, x) :: r, s, k + 1 => by have := zbN γ γ' r (s + 1) k; simpa [gens, isEf, nth] using this
theorem gens_lastEf (γ γ' : Gh) (es : List (Tmp × Ex)) (s : Nat) : ∀ k, zb1 (gens γ s es) k = zb1 (gens γ' s es) k
  | 0 => rfl
  | k + 1 => by simp [zb1, zbN γ γ' es s k, gens_lastEf γ γ' es s k]
def runO (P : Program) (op : Op) (ty : TypeId) (K : Kd) (Hs Hk : List Hp) (γ : Gh) (k : Nat) : Ex → Prop
  | .q d => Qu P op ty K Hs d
  | .r d => Qu P op ty K Hk d
  | .s H' => Ef P op ty K Hk (fun d' H'' => H'' = H' γ) ∧ HSub (H' γ) Hs
  | .e d H' => Ef P op ty K Hk (fun d' H'' => d' = d ∧ H'' = H' γ) ∧ HSub (H' γ) Hs
  | .o H' => Ef P op ty K Hk (fun d' H'' => ∃ v, d' = .ov v ∧ H'' = H' (ug γ k v)) ∧ ∀ v, HSub (H' (ug γ k v)) Hs
  | .f m H' => Ef P op ty K Hk (fun d' H'' => ∃ v, d' = m v ∧ H'' = H' (ug γ k v)) ∧ ∀ v, HSub (H' (ug γ k v)) Hs
def zcL (ens : List En) : Nat → Nat → Option Nat
  | 0, _ => none
  | f + 1, i => bif isEf ens i then some i else zcL ens f (i + 1)
theorem nextEf_some {ens : List En} : ∀ (f s i : Nat), s ≤ i → i < s + f → isEf ens i = true → ∃ j, zcL ens f s = some j ∧ s ≤ j ∧ j ≤ i ∧ isEf ens j = true
  | 0, s, i, h1, h2, _ => by omega
  | f + 1, s, i, h1, h2, h3 => by
    unfold zcL
    cases hs : isEf ens s with
    | true => exact ⟨s, rfl, Nat.le_refl _, h1, hs⟩
    | false =>
      have : s ≠ i := by rintro rfl; rw [hs] at h3; cases h3
      obtain ⟨j, j1, j2, j3, j4⟩ := nextEf_some f (s + 1) i (by omega) (by omega) h3
      exact ⟨j, j1, by omega, j3, j4⟩
theorem gens_nextEf (γ γ' : Gh) (es : List (Tmp × Ex)) (s : Nat) : ∀ f k, zcL (gens γ s es) f k = zcL (gens γ' s es) f k
  | 0, _ => rfl
  | f + 1, k => by simp [zcL, zbN γ γ' es s k, gens_nextEf γ γ' es s f (k + 1)]
def isRd (es : List (Tmp × Ex)) (k : Nat) : Bool := match nth es k with
  | some (_, .r _) => true
  | _ => false
/-- What reads in the chain waits for the last one that turns what is owned, and the next one waits for it. -/
def readB (ops : List Oper) (es : List (Tmp × Ex)) (ens : List En) : Bool := (List.range es.length).all fun k => !isRd es k || ((match zb1 ens k with
    | some l => has0 (ancS ops k (zae ops k)) l
    | none => true) && (match zcL ens es.length (k + 1) with
    | some j => has0 (ancS ops j (zae ops j)) k
    | none => true))
def freshB' (ops : List Oper) (n N : Nat) (l : Kn) : Bool :=
  Nat.ble n ops.length && (List.range n).all fun i => match zaA ops i with
    | some d => Nat.blt d N && !(keys l).contains d && (List.range i).all fun j => zaA ops j != some d
    | none => true
def drawB' (ops : List Oper) (n N : Nat) (l : Kn) : Bool := zcZ ops && zc6 ops n && freshB' ops n N l
structure StepO (P : Program) (N : Nat) (ops : List Oper) (K : Kd) (Hs H0 : List Hp) (γ : Gh) (es : List (Tmp × Ex)) (k : Nat) : Prop where
  out : ∃ t x dst op ty g, nth es k = some (t, x) ∧ opAt ops k = some (dst, op, ty, g) ∧ ((dst = some t ∧ x.isS = false) ∨ (dst = none ∧ Nat.ble N t = true ∧ x.isS = true)) ∧
    match g with
    | none => runO P op ty (kpre (gens γ 0 es) K (zae ops k)) Hs (hof H0 (gens γ 0 es) k) γ k x
    | some (j, want) => ∃ s u, zaA ops j = some s ∧ Nat.blt s N = true ∧ z8 (kpre (gens γ 0 es) K (zae ops k)) s = some (.v u) ∧ (nb u = some want → runO P op ty (kpre (gens γ 0 es) K (zae ops k)) Hs (hof H0 (gens γ 0 es) k) γ k x) ∧ (nb u ≠ some want → x = .q (.v undef))
section
variable {P : Program} {N : Nat} {ops : List Oper} {K : Kd} {Hs H0 : List Hp} {γ : Gh} {es : List (Tmp × Ex)} {k : Nat}
theorem so_q {t : Tmp} {d : D} {op : Op} {ty : TypeId} (he : nth es k = some (t, .q d)) (ho : opAt ops k = some (some t, op, ty, none)) {pre : List Nat} (hp : zae ops k = pre) (h : Qu P op ty (kpre (gens γ 0 es) K pre) Hs d) : StepO P N ops K Hs H0 γ es k :=
  ⟨t, .q d, _, op, ty, none, he, ho, .inl ⟨rfl, rfl⟩, by subst hp; exact h⟩
theorem so_p {t : Tmp} {d : D} {op : Op} {ty : TypeId} (he : nth es k = some (t, .q d)) (ho : opAt ops k = some (some t, op, ty, none)) {pre : List Nat} (hp : zae ops k = pre) (h : Pu P op ty (kpre (gens γ 0 es) K pre) Hs d) : StepO P N ops K Hs H0 γ es k := so_q he ho hp h.qu
theorem so_e {t : Tmp} {d : D} {op : Op} {ty : TypeId} {H' : Gh → List Hp} {Hk : List Hp} (he : nth es k = some (t, .e d H')) (ho : opAt ops k = some (some t, op, ty, none)) {pre : List Nat} (hp : zae ops k = pre) (hH : hof H0 (gens γ 0 es) k = Hk) (h : Ef P op ty (kpre (gens γ 0 es) K pre) Hk (fun d' H'' => d' = d ∧ H'' = H' γ)) (hs : HSub (H' γ) Hs) : StepO P N ops K Hs H0 γ es k :=
  ⟨t, .e d H', _, op, ty, none, he, ho, .inl ⟨rfl, rfl⟩, by subst hp; subst hH; exact ⟨h, hs⟩⟩
theorem so_o {t : Tmp} {op : Op} {ty : TypeId} {H' : Gh → List Hp} {Hk : List Hp} (he : nth es k = some (t, .o H')) (ho : opAt ops k = some (some t, op, ty, none)) {pre : List Nat} (hp : zae ops k = pre) (hH : hof H0 (gens γ 0 es) k = Hk) (h : Ef P op ty (kpre (gens γ 0 es) K pre) Hk (fun d' H'' => ∃ v, d' = .ov v ∧ H'' = H' (ug γ k v))) (hs : ∀ v, HSub (H' (ug γ k v)) Hs) : StepO P N ops K Hs H0 γ es k :=
  ⟨t, .o H', _, op, ty, none, he, ho, .inl ⟨rfl, rfl⟩, by subst hp; subst hH; exact ⟨h, hs⟩⟩
theorem so_r {t : Tmp} {d : D} {op : Op} {ty : TypeId} {Hk : List Hp} (he : nth es k = some (t, .r d)) (ho : opAt ops k = some (some t, op, ty, none)) {pre : List Nat} (hp : zae ops k = pre) (hH : hof H0 (gens γ 0 es) k = Hk) (h : Pu P op ty (kpre (gens γ 0 es) K pre) Hk d) : StepO P N ops K Hs H0 γ es k :=
  ⟨t, .r d, _, op, ty, none, he, ho, .inl ⟨rfl, rfl⟩, by subst hp; subst hH; exact h.qu⟩
theorem zc7 {t : Tmp} {op : Op} {ty : TypeId} {H' : Gh → List Hp} {Hk : List Hp} (he : nth es k = some (t, .s H')) (ho : opAt ops k = some (none, op, ty, none)) (hN : Nat.ble N t = true) {pre : List Nat} (hp : zae ops k = pre) (hH : hof H0 (gens γ 0 es) k = Hk) (h : Ef P op ty (kpre (gens γ 0 es) K pre) Hk (fun _ H'' => H'' = H' γ)) (hs : HSub (H' γ) Hs) : StepO P N ops K Hs H0 γ es k :=
  ⟨t, .s H', _, op, ty, none, he, ho, .inr ⟨rfl, hN, rfl⟩, by subst hp; subst hH; exact ⟨h, hs⟩⟩
def zcW (P : Program) (N : Nat) (ops : List Oper) (K : Kd) (Hs H0 : List Hp) (γ : Gh) (es : List (Tmp × Ex)) : Nat → Nat → Prop
  | _, 0 => True
  | k, todo + 1 => StepO P N ops K Hs H0 γ es k ∧ zcW P N ops K Hs H0 γ es (k + 1) todo
theorem zcW.get : ∀ (todo k : Nat), zcW P N ops K Hs H0 γ es k todo → ∀ i, k ≤ i → i < k + todo → StepO P N ops K Hs H0 γ es i
  | 0, k, _, i, h1, h2 => by omega
  | todo + 1, k, ⟨h, hr⟩, i, h1, h2 => by
    rcases Nat.lt_or_ge k i with h3 | h3
    · exact zcW.get todo (k + 1) hr i h3 (by omega)
    · have : i = k := by omega
      subst this; exact h

theorem za0 {C : Ctx} {c : Code} {H : List Hp} {Q : zas} (n : Nat) (es : List (Tmp × Ex)) (Hs : List Hp) {Hn : Gh → List Hp} (hm : P.follows .mixedOrders = true) (hc : zcM c = some true) (hlen : Nat.beq es.length n = true) (hB : drawB' (zbY c) n N (K.map fun x => (x.1, Value.nilFunc)) = true) (hch : chainB (zbY c) (gens (fun _ => undef) 0 es) = true) (hrd : readB (zbY c) es (gens (fun _ => undef) 0 es) = true) (hs0 : HSub H Hs) (hHn : ∀ γ, hof H (gens γ 0 es) n = Hn γ)
    (hsteps : ∀ γ, zcW P N (zbY c) K Hs H γ es 0 n) (next : ∀ γ, OpsD P N C (zbY c) n (enK (gens γ 0 es) K) (Hn γ) (fun ρ w F => Q .normal ρ w F)) : JD P N C c K H Q := by
  cases c <;> simp [zcM] at hc
  rename_i id opsA draw
  subst hc
  obtain rfl : Hn = fun γ => hof H (gens γ 0 es) n := funext fun γ => (hHn γ).symm
  simp only [zbY] at hB hsteps hch hrd next
  generalize hops : opsA.toList = ops at hB hsteps hch hrd next
  have hA : opsA = ops.toArray := by rw [← hops]
  subst hA
  have hlen := Nat.eq_of_beq_eq_true hlen
  unfold drawB' at hB
  simp only [Bool.and_eq_true] at hB
  obtain ⟨⟨hback, htail⟩, hfresh⟩ := hB
  unfold freshB' at hfresh
  simp only [Bool.and_eq_true] at hfresh
  obtain ⟨hnl, hfr⟩ := hfresh
  have hnl := Nat.le_of_ble_eq_true hnl
  rw [List.all_eq_true] at hfr
  have hpre : ∀ k, k < ops.length → ∀ j ∈ zae ops k, j < k := by
    intro k hk j hj
    unfold zcZ at hback
    rw [List.all_eq_true] at hback
    have := hback k (List.mem_range.2 hk)
    rw [List.all_eq_true] at this
    exact zaZ.1 (this j hj)
  have hstep : ∀ γ i, i < n → StepO P N ops K Hs H γ es i := fun γ i hi => zcW.get n 0 (hsteps γ) i (Nat.zero_le _) (by omega)
  -- slots of their own
  have hd : ∀ i t, i < n → zaA ops i = some t → Nat.blt t N = true ∧ z8 K t = none ∧ ∀ j, j < i → zaA ops j ≠ some t := by
    intro i t hi hdst
    have hf := hfr i (List.mem_range.2 hi)
    rw [hdst] at hf
    simp only [Bool.and_eq_true, Bool.not_eq_true'] at hf
    refine ⟨hf.1.1, lookD_keys hf.1.2, fun j hj => ?_⟩
    have := hf.2
    rw [List.all_eq_true] at this
    have := this j (List.mem_range.2 hj)
    simpa using this
  have hdn2 : ∀ i, i < n → ∀ t x, nth es i = some (t, x) → (zaA ops i = some t ∧ x.isS = false) ∨ (zaA ops i = none ∧ Nat.ble N t = true ∧ x.isS = true) := by
    intro i hi t x hn
    obtain ⟨t', x', dst, op, ty, g, h1, h2, h3, _⟩ := (hstep (fun _ => undef) i hi).out
    rw [hn] at h1; cases h1
    have hdst : zaA ops i = dst := by
      obtain ⟨o, q1, q2, _⟩ := zbk h2
      have : nth ops i = some o := by rw [zaM]; simpa using q1
      simp [zaA, this, q2]
    rw [hdst]; exact h3
  have hne : ∀ i j t, i < n → j < n → i ≠ j → zaA ops i = some t → zaA ops j = some t → False := by
    intro i j t hi hj hij h1 h2
    rcases Nat.lt_or_gt_of_ne hij with hlt | hlt
    · exact (hd j t hj h2).2.2 i hlt h1
    · exact (hd i t hi h1).2.2 j hlt h2
  have hfar : ∀ (a : Act), Ok N a → ∀ t, Nat.ble N t = true → z4 a t = undef := by
    intro a ok t ht
    have ht := Nat.le_of_ble_eq_true ht
    simp only [z4, Array.getD_eq_getD_getElem?]
    rw [Array.getElem?_eq_none (by rw [ok.1]; exact ht)]; rfl
  have hchain : ∀ γ k l, k < n → isEf (gens γ 0 es) k = true → zb1 (gens γ 0 es) k = some l → l ∈ zae ops k := by
    intro γ k l hk he hl
    rw [zbN γ (fun _ => undef)] at he
    rw [gens_lastEf γ (fun _ => undef)] at hl
    unfold chainB at hch
    rw [List.all_eq_true] at hch
    have := hch k (List.mem_range.2 (by rw [gens_len]; omega))
    rw [he, hl] at this
    exact has_mem (by simpa using this)
  refine ⟨fun a w F ok hk g => ?_⟩
  apply wp_region_any hm
  have final : ∀ (γ : Gh) (a : Act) (w' : World) (F' : Nat → Prop) (p : Nat), Ok N a → KOk w' F' (z4 a) K → p ≤ n → Good C (hof H (gens γ 0 es) p) w' F' → (∀ i, p ≤ i → i < n → isEf (gens γ 0 es) i = false) → (∀ i t x, i < n → nth es i = some (t, x) → D.rep w' F' (x.d γ i) (z4 a t)) →
      wpOps P ops.toArray (fun e a' w' => Ok N a' ∧ ∃ F', Q e (z4 a') w' F') (List.range' n (ops.length - n)) a w' := by
    intro γ a w' F' p ok hk hp g hno hrep
    rw [← zbS (H0 := H) p n hp hno] at g
    have hK := enK_ok (gens γ 0 es) K hk (fun j t d e hj => by
      obtain ⟨x, x1, x2, x3⟩ := gens_nth' γ es 0 j t d e hj
      rw [Nat.zero_add] at x2
      subst x2
      exact hrep j t x (by rw [zaM] at x1; rw [← hlen]; exact (List.getElem?_eq_some_iff.1 x1).1) x1)
    refine zaJ ?_ _ _ _ ((next γ).out a w' F' ok hK g)
    rintro e a' w'' ⟨rfl, h1, h2⟩
    exact ⟨h1, h2⟩
  -- the invariant
  have key : ∀ (fuel : Nat) (listed : Array Bool) (γ : Gh) (a : Act) (w' : World) (F' : Nat → Prop) (p : Nat), listed.size = ops.length → cnt ops.length listed ≤ fuel → Ok N a → KOk w' F' (z4 a) K → p ≤ n → Good C (hof H (gens γ 0 es) p) w' F' → HSub (hof H (gens γ 0 es) p) Hs →
      (∀ i, i < p → isEf (gens γ 0 es) i = true → listed.getD i true = true) → (∀ i, p ≤ i → i < n → isEf (gens γ 0 es) i = true → listed.getD i true = false) →
      (∀ i t x, i < n → listed.getD i true = true → nth es i = some (t, x) → D.rep w' F' (x.d γ i) (z4 a t)) → (∀ i, i < n → listed.getD i true = true → ∀ j ∈ zae ops i, listed.getD j true = true) → (∀ i, n ≤ i → i < ops.length → listed.getD i true = false) →
      wpAny P .any ops.toArray (fun e a' w' => Ok N a' ∧ ∃ F', Q e (z4 a') w' F') fuel listed a w' := by
    intro fuel
    induction fuel with
    | zero =>
      intro listed γ a w' F' p hs hcnt ok hk hp g hsp hdone hnot hh hdn ht
      have hall : ∀ i, i < ops.length → listed.getD i true = true := by
        intro i hi
        cases hc : listed.getD i true with
        | true => rfl
        | false => have := cnt_set hi hs hc; omega
      have hn : ops.length = n := by
        rcases Nat.lt_or_ge n ops.length with h' | h'
        · have h1 := ht n (Nat.le_refl _) h'
          rw [hall n h'] at h1; cases h1
        · omega
      refine wpAny_tail (n := n) hback htail 0 n listed a w' (by omega) (Nat.le_refl _) hnl hs (fun i hi => by rw [hall i hi]; simp; omega) ?_ 0 (by omega)
      refine final γ a w' F' p ok hk hp g (fun i h1 h2 => ?_) (fun i t x hi hn => hh i t x hi (hall i (by omega)) hn)
      cases he : isEf (gens γ 0 es) i with
      | false => rfl
      | true => have := hnot i h1 h2 he; rw [hall i (by omega)] at this; cases this
    | succ fuel ih =>
      intro listed γ a w' F' p hs hcnt ok hk hp g hsp hdone hnot hh hdn ht
      by_cases hall : ∀ i, i < n → listed.getD i true = true
      · refine wpAny_tail (n := n) hback htail (ops.length - n) n listed a w' rfl (Nat.le_refl _) hnl hs (fun i hi => ?_) ?_ (fuel + 1) ?_
        · rcases Nat.lt_or_ge i n with h' | h'
          · rw [hall i h']; simp [h']
          · rw [ht i h' hi]; simp; omega
        · refine final γ a w' F' p ok hk hp g (fun i h1 h2 => ?_) (fun i t x hi hn => hh i t x hi (hall i hi) hn)
          cases he : isEf (gens γ 0 es) i with
          | false => rfl
          | true => have := hnot i h1 h2 he; rw [hall i h2] at this; cases this
        · refine Nat.le_trans ?_ hcnt
          unfold cnt
          have hsplit : List.range ops.length = List.range n ++ List.range' n (ops.length - n) := by
            rw [List.range_eq_range', List.range_eq_range']
            have := @List.range'_append 0 n (ops.length - n) 1
            simp only [Nat.one_mul, Nat.zero_add] at this
            rw [this]; congr 1; omega
          rw [hsplit, List.countP_append]
          have : (List.range' n (ops.length - n)).countP (fun i => !listed.getD i true) = ops.length - n := by
            rw [List.countP_eq_length.2]
            · simp
            · intro i hi
              have := List.mem_range'_1.1 hi
              rw [ht i (by omega) (by omega)]; rfl
          omega
      · obtain ⟨i0, hi0⟩ := Classical.not_forall.1 hall
        obtain ⟨hi0n, hi0u⟩ := Classical.not_imp.1 hi0
        have hi0u : listed.getD i0 true = false := by cases hx : listed.getD i0 true with | false => rfl | true => exact absurd hx hi0u
        refine ⟨fun he => absurd he (some_ready hs hback i0 (by omega) hi0u), fun i hi => ?_⟩
        obtain ⟨hu, hil, hps⟩ := zb6.1 hi
        have hin : i < n := by
          rcases Nat.lt_or_ge i n with h' | h'
          · exact h'
          · exfalso
            have hpm : i0 ∈ ancS ops i (zae ops i) := by
              have ht' := htail
              unfold zc6 at ht'
              rw [List.all_eq_true] at ht'
              have := ht' i (List.mem_range.2 hil)
              rw [Bool.or_eq_true] at this
              rcases this with h'' | h''
              · have := zaZ.1 h''; omega
              · rw [List.all_eq_true] at h''
                exact zcb (h'' i0 (List.mem_range.2 (by omega)))
            have := zcC (p := fun j => j < ops.length ∧ listed.getD j true = true) (fun k hk j hj => by
              have hkn : k < n := by
                rcases Nat.lt_or_ge k n with hh | hh
                · exact hh
                · have := ht k hh hk.1; rw [hk.2] at this; cases this
              exact ⟨by have := hpre k hk.1 j hj; omega, hdn k hkn hk.2 j hj⟩) i _ (fun j hj => by
              have hjl : j < ops.length := by have := hpre i hil j hj; omega
              exact ⟨hjl, by rw [zcG hs hjl]; exact hps j hj⟩) i0 hpm
            rw [hi0u] at this
            cases this.2
        obtain ⟨t, x, dst, op, ty, gd, h1, h2, hdx, h3⟩ := (hstep γ i hin).out
        have hdst : zaA ops i = dst := by
          obtain ⟨o, q1, q2, _⟩ := zbk h2
          have : nth ops i = some o := by rw [zaM]; simpa using q1
          simp [zaA, this, q2]
        have h1g := gens_nth γ es 0 i t x h1
        rw [Nat.zero_add] at h1g
        have hpl : ∀ j ∈ zae ops i, listed.getD j true = true := fun j hj => by
          have hjl : j < ops.length := by have := hpre i hil j hj; omega
          rw [zcG hs hjl]; exact hps j hj
        have hkp : KOk w' F' (z4 a) (kpre (gens γ 0 es) K (zae ops i)) := kpre_ok hk _ (fun j hj t' d' e' hn' => by
          obtain ⟨y, y1, y2, y3⟩ := gens_nth' γ es 0 j t' d' e' hn'
          rw [Nat.zero_add] at y2
          subst y2
          exact hh j t' y (by have := hpre i hil j hj; omega) (hpl j hj) y1)
        obtain ⟨o, o1, o2, o3, o4, o5⟩ := zbk h2
        have hdok : dok N dst = true := by
          cases hds : dst with
          | none => rfl
          | some t' => exact (hd i t' hin (by rw [hdst, hds])).1
        -- behind the operation
        have after : ∀ (γ' : Gh) v w'' F'' q, (∀ j t' x', j ≠ i → nth es j = some (t', x') → x'.d γ' j = x'.d γ j) → q ≤ n → Good C (hof H (gens γ' 0 es) q) w'' F'' → HSub (hof H (gens γ' 0 es) q) Hs → Keep w' F' w'' F'' → (dst = some t → D.rep w'' F'' (x.d γ' i) v) → (∀ k, k < q → isEf (gens γ' 0 es) k = true → (listed.setIfInBounds i true).getD k true = true) → (∀ k, q ≤ k → k < n → isEf (gens γ' 0 es) k = true → (listed.setIfInBounds i true).getD k true = false) →
            wpAny P .any ops.toArray (fun e a' w' => Ok N a' ∧ ∃ F', Q e (z4 a') w' F') fuel (listed.setIfInBounds i true) (a.put o.dst v) w'' := by
          intro γ' v w'' F'' q hoth hq g' hsq kp hv hdone' hnot'
          have henv : z4 (a.put o.dst v) = upd (z4 a) dst v := by rw [o2]; exact zbO ok hdok v
          refine ih _ γ' _ _ F'' q (by simp [hs]) ?_ (ok.put _ _) ?_ hq g' hsq hdone' hnot' ?_ ?_ ?_
          · have := cnt_set hil hs hu; omega
          · rw [henv]
            cases hds : dst with
            | none => exact hk.keep kp
            | some t' => exact (hk.keep kp).other (hd i t' hin (by rw [hdst, hds])).2.1
          · intro j t' x' hj hl hn'
            rw [henv]
            rcases hdn2 j hj t' x' hn' with ⟨e1, e2⟩ | ⟨e1, e2, e3⟩
            · by_cases hij : i = j
              · subst hij
                rw [h1] at hn'; cases hn'
                rw [hdst] at e1; subst e1
                simpa [upd] using hv rfl
              · rw [getD_set_ne true hij] at hl
                have hkeep : upd (z4 a) dst v t' = z4 a t' := by
                  cases hds : dst with
                  | none => rfl
                  | some t2 =>
                    have : t' ≠ t2 := by rintro rfl; exact hne i j t' hin hj hij (by rw [hdst, hds]) e1
                    simp only [upd, this, if_false]
                rw [hkeep, hoth j t' x' (fun e => hij e.symm) hn']
                exact D.keep kp _ _ (hh j t' x' hj hl hn')
            · rw [← henv]
              have : x'.d γ' j = .v undef := by cases x' <;> simp [Ex.isS] at e3; rfl
              rw [this]
              exact hfar _ (ok.put _ _) t' e2
          · intro j hj hl k hk'
            by_cases hij : i = j
            · subst hij
              have := hpl k hk'
              have hki : i ≠ k := by have := hpre i hil k hk'; omega
              rw [getD_set_ne true hki]; exact this
            · rw [getD_set_ne true hij] at hl
              have := hdn j hj hl k hk'
              by_cases hik : i = k
              · subst hik; rw [hu] at this; cases this
              · rw [getD_set_ne true hik]; exact this
          · intro j hj hjl
            rw [getD_set_ne true (by omega)]
            exact ht j hj hjl
        have hset : (listed.setIfInBounds i true).getD i true = true := by
          have : i < listed.size := by omega
          simp [this]
        -- a quiet one: as many have turned what is owned as ahead
        have stay : isEf (gens γ 0 es) i = false → (∀ k, k < p → isEf (gens γ 0 es) k = true → (listed.setIfInBounds i true).getD k true = true) ∧ (∀ k, p ≤ k → k < n → isEf (gens γ 0 es) k = true → (listed.setIfInBounds i true).getD k true = false) := by
          intro hq
          refine ⟨fun k h1 h2 => ?_, fun k h1 h2 h3 => ?_⟩
          · by_cases hik : i = k
            · subst hik; exact hset
            · rw [getD_set_ne true hik]; exact hdone k h1 h2
          · by_cases hik : i = k
            · subst hik; rw [hq] at h3; cases h3
            · rw [getD_set_ne true hik]; exact hnot k h1 h2 h3
        have gs := hsp.out _ _ _ g
        have nothing : ∀ (γ' : Gh), isEf (gens γ 0 es) i = true → (∀ k, p ≤ k → k < i → isEf (gens γ 0 es) k = false) → p ≤ i → (∀ k, k < i + 1 → isEf (gens γ' 0 es) k = true → (listed.setIfInBounds i true).getD k true = true) ∧ (∀ k, i + 1 ≤ k → k < n → isEf (gens γ' 0 es) k = true → (listed.setIfInBounds i true).getD k true = false) := by
          intro γ' hq hno hpi
          refine ⟨fun k hk1 hk2 => ?_, fun k hk1 hk2 hk3 => ?_⟩
          · rw [zbN γ' γ] at hk2
            by_cases hik : i = k
            · subst hik; exact hset
            · rw [getD_set_ne true hik]
              rcases Nat.lt_or_ge k p with h' | h'
              · exact hdone k h' hk2
              · have := hno k h' (by omega); rw [hk2] at this; cases this
          · rw [zbN γ' γ] at hk3
            rw [getD_set_ne true (by omega)]; exact hnot k (by omega) hk2 hk3
        have front : isEf (gens γ 0 es) i = true → p ≤ i ∧ (∀ k, p ≤ k → k < i → isEf (gens γ 0 es) k = false) ∧ Good C (hof H (gens γ 0 es) i) w' F' := by
          intro hq
          have hpi : p ≤ i := by
            rcases Nat.lt_or_ge i p with h' | h'
            · have := hdone i h' hq; rw [hu] at this; cases this
            · exact h'
          have hno : ∀ k, p ≤ k → k < i → isEf (gens γ 0 es) k = false := by
            intro k hk1 hk2
            cases hke : isEf (gens γ 0 es) k with
            | false => rfl
            | true =>
              obtain ⟨l, l1, l2, l3, l4⟩ := lastEf_some i k hk2 hke
              have := hpl l (hchain γ i l hin hq l1)
              rw [hnot l (by omega) (by omega) l4] at this; cases this
          exact ⟨hpi, hno, by rw [zbS (H0 := H) p i hpi hno]; exact g⟩
        have run : runO P op ty (kpre (gens γ 0 es) K (zae ops i)) Hs (hof H (gens γ 0 es) i) γ i x → EOp P op ty (z4 a) w' (fun v w'' => wpAny P .any ops.toArray (fun e a' w' => Ok N a' ∧ ∃ F', Q e (z4 a') w' F') fuel (listed.setIfInBounds i true) (a.put o.dst v) w'') := by
          intro hrun
          cases x with
          | q d =>
            have hq : isEf (gens γ 0 es) i = false := by simp [isEf, h1g, Ex.h]
            refine (Qu.out hrun _ w' F' hkp g.flt gs.h.ok).mono ?_
            rintro v w'' ⟨E, hrep⟩
            obtain ⟨g', kp⟩ := Good.fn g E
            exact after γ v w'' _ p (fun _ _ _ _ _ => rfl) hp g' hsp kp (fun _ => hrep) (stay hq).1 (stay hq).2
          | r d =>
            have hq : isEf (gens γ 0 es) i = false := by simp [isEf, h1g, Ex.h]
            have gr : Good C (hof H (gens γ 0 es) i) w' F' := by
              have hb : isRd es i = true := by simp [isRd, h1]
              have hr := hrd
              unfold readB at hr
              rw [List.all_eq_true] at hr
              have hr := hr i (List.mem_range.2 (by omega))
              rw [hb] at hr
              simp only [Bool.not_true, Bool.false_or, Bool.and_eq_true] at hr
              rw [gens_lastEf _ γ, gens_nextEf _ γ] at hr
              have anc : ∀ k, k < n → (∀ j ∈ zae ops k, listed.getD j true = true) → ∀ j ∈ ancS ops k (zae ops k), listed.getD j true = true := by
                intro k hkn hk1
                have := zcC (ops := ops) (p := fun j => j < ops.length ∧ listed.getD j true = true) (fun k hk j hj => by
                  have hkn : k < n := by
                    rcases Nat.lt_or_ge k n with hh | hh
                    · exact hh
                    · have := ht k hh hk.1; rw [hk.2] at this; cases this
                  exact ⟨by have := hpre k hk.1 j hj; omega, hdn k hkn hk.2 j hj⟩) k _ (fun j hj => ⟨by have := hpre k (by omega) j hj; omega, hk1 j hj⟩)
                exact fun j hj => (this j hj).2
              rcases Nat.lt_or_ge i p with hip | hip
              · rw [zbS (H0 := H) i p (by omega) (fun k k1 k2 => ?_)] at g
                · exact g
                · cases hke : isEf (gens γ 0 es) k with
                  | false => rfl
                  | true =>
                    have hki : k ≠ i := by rintro rfl; rw [hq] at hke; cases hke
                    obtain ⟨j, j1, j2, j3, j4⟩ := nextEf_some es.length (i + 1) k (by omega) (by omega) hke
                    rw [j1] at hr
                    have hjl := hdone j (by omega) j4
                    have := anc j (by omega) (hdn j (by omega) hjl) i (zcb hr.2)
                    rw [hu] at this; cases this
              · rw [← zbS (H0 := H) p i hip (fun k k1 k2 => ?_)] at g
                · exact g
                · cases hke : isEf (gens γ 0 es) k with
                  | false => rfl
                  | true =>
                    obtain ⟨l, l1, l2, l3, l4⟩ := lastEf_some i k k2 hke
                    rw [l1] at hr
                    have := anc i hin hpl l (zcb hr.1)
                    rw [hnot l (by omega) (by omega) l4] at this; cases this
            refine (Qu.out hrun _ w' F' hkp g.flt gr.h.ok).mono ?_
            rintro v w'' ⟨E, hrep⟩
            obtain ⟨g', kp⟩ := Good.fn g E
            exact after γ v w'' _ p (fun _ _ _ _ _ => rfl) hp g' hsp kp (fun _ => hrep) (stay hq).1 (stay hq).2
          | s H' =>
            have hq : isEf (gens γ 0 es) i = true := by simp [isEf, h1g, Ex.h]
            obtain ⟨hef, hsH⟩ := hrun
            obtain ⟨hpi, hno, gi⟩ := front hq
            refine (hef.out C _ w' F' hkp gi).mono ?_
            rintro v w'' ⟨F'', d', H'', rfl, hrep, g', kp⟩
            have hh1 := zbR (gens γ 0 es) H i t _ _ h1g
            refine after γ v w'' F'' (i + 1) (fun _ _ _ _ _ => rfl) (by omega) (by rw [hh1]; exact g') (by rw [hh1]; exact hsH) kp (fun ht' => ?_) (nothing γ hq hno hpi).1 (nothing γ hq hno hpi).2
            rcases hdx with ⟨_, e⟩ | ⟨e, _, _⟩
            · cases e
            · rw [e] at ht'; cases ht'
          | e d H' =>
            have hq : isEf (gens γ 0 es) i = true := by simp [isEf, h1g, Ex.h]
            obtain ⟨hef, hsH⟩ := hrun
            obtain ⟨hpi, hno, gi⟩ := front hq
            refine (hef.out C _ w' F' hkp gi).mono ?_
            rintro v w'' ⟨F'', d', H'', ⟨rfl, rfl⟩, hrep, g', kp⟩
            have hh1 := zbR (gens γ 0 es) H i t _ _ h1g
            exact after γ v w'' F'' (i + 1) (fun _ _ _ _ _ => rfl) (by omega) (by rw [hh1]; exact g') (by rw [hh1]; exact hsH) kp (fun _ => hrep) (nothing γ hq hno hpi).1 (nothing γ hq hno hpi).2
          | o H' =>
            have hq : isEf (gens γ 0 es) i = true := by simp [isEf, h1g, Ex.h]
            obtain ⟨hef, hsH⟩ := hrun
            obtain ⟨hpi, hno, gi⟩ := front hq
            refine (hef.out C _ w' F' hkp gi).mono ?_
            rintro v w'' ⟨F'', d', H'', ⟨vv, rfl, rfl⟩, hrep, g', kp⟩
            have h1n := gens_nth (ug γ i vv) es 0 i t _ h1
            have hh1 := zbR (gens (ug γ i vv) 0 es) H i t _ _ h1n
            refine after (ug γ i vv) v w'' F'' (i + 1) (fun j t' x' hj _ => ?_) (by omega) (by rw [hh1]; exact g') (by rw [hh1]; exact hsH vv) kp ?_ (nothing _ hq hno hpi).1 (nothing _ hq hno hpi).2
            · cases x' with
              | q _ => rfl
              | r _ => rfl
              | s _ => rfl
              | e _ _ => rfl
              | o _ => simp only [Ex.d, ug_ne γ vv hj]
              | f _ _ => simp only [Ex.d, ug_ne γ vv hj]
            · intro _; simp only [Ex.d, ug_self]; exact hrep
          | f m H' =>
            have hq : isEf (gens γ 0 es) i = true := by simp [isEf, h1g, Ex.h]
            obtain ⟨hef, hsH⟩ := hrun
            obtain ⟨hpi, hno, gi⟩ := front hq
            refine (hef.out C _ w' F' hkp gi).mono ?_
            rintro v w'' ⟨F'', d', H'', ⟨vv, rfl, rfl⟩, hrep, g', kp⟩
            have h1n := gens_nth (ug γ i vv) es 0 i t _ h1
            have hh1 := zbR (gens (ug γ i vv) 0 es) H i t _ _ h1n
            refine after (ug γ i vv) v w'' F'' (i + 1) (fun j t' x' hj _ => ?_) (by omega) (by rw [hh1]; exact g') (by rw [hh1]; exact hsH vv) kp ?_ (nothing _ hq hno hpi).1 (nothing _ hq hno hpi).2
            · cases x' with
              | q _ => rfl
              | r _ => rfl
              | s _ => rfl
              | e _ _ => rfl
              | o _ => simp only [Ex.d, ug_ne γ vv hj]
              | f _ _ => simp only [Ex.d, ug_ne γ vv hj]
            · intro _; simp only [Ex.d, ug_self]; exact hrep
        unfold wpOp
        rw [o1]
        simp only
        subst o5
        cases hgo : o.guard with
        | none =>
          rw [hgo] at h3
          rw [if_pos (by unfold Region.wanted; rw [hgo])]
          left
          apply zbL
          rw [o3, o4]
          exact run h3
        | some jw =>
          obtain ⟨j, want⟩ := jw
          rw [hgo] at h3
          obtain ⟨s, u, t1, t2, t3, t4, t5⟩ := h3
          have hyv : yielded ops.toArray a.tmps j = nb u := by
            have he : z4 a s = u := hkp s _ t3
            have hts : s < a.tmps.size := by rw [ok.1]; exact zaZ.1 t2
            have hg' : a.tmps[s]? = some u := by
              simp only [z4, Array.getD_eq_getD_getElem?] at he
              rw [Array.getElem?_eq_getElem hts] at he ⊢
              simpa using he
            unfold yielded
            unfold zaA at t1
            cases hn : nth ops j with
            | none => rw [hn] at t1; cases t1
            | some oj =>
              rw [hn] at t1
              have : ops.toArray[j]? = some oj := by rw [zaM] at hn; simpa using hn
              rw [this]
              simp only [Option.bind_some, t1, hg']
              cases u <;> rfl
          by_cases hb : nb u = some want
          · rw [if_pos (by unfold Region.wanted; rw [hgo]; simp [hyv, hb])]
            left
            apply zbL
            rw [o3, o4]
            exact run (t4 hb)
          · rw [if_neg (by unfold Region.wanted; rw [hgo]; simp [hyv, hb])]
            obtain rfl := t5 hb
            have hq : isEf (gens γ 0 es) i = false := by simp [isEf, h1g, Ex.h]
            exact after γ undef w' F' p (fun _ _ _ _ _ => rfl) hp g hsp Keep.rfl' (fun _ => rfl) (stay hq).1 (stay hq).2
  have gd := (Good.fn g (Ext.drew w)).1
  have hkd := hk.keep (Good.fn g (Ext.drew w)).2
  refine key ops.toArray.size (Array.replicate ops.toArray.size false) (fun _ => undef) a _ _ 0 (by simp) ?_ ok hkd (Nat.zero_le _) (by rw [hof_zero]; exact gd) (by rw [hof_zero]; exact hs0) (fun i hi _ => by omega) (fun i _ hi _ => ?_) ?_ ?_ ?_
  · unfold cnt
    refine Nat.le_trans (List.countP_le_length) (by simp)
  · have : i < ops.length := by omega
    simp [this]
  · intro i t x hi hl
    have : i < ops.length := by omega
    simp [this] at hl
  · intro i hi hl
    have : i < ops.length := by omega
    simp [this] at hl
  · intro i _ hi
    simp [hi]
end

/-- A literal without elements. -/
theorem e_buildSlice0 {P : Program} {ρ : Env} {w : World} {ty : TypeId} {K : Value → World → Prop} {t e z : Nat} (ht : ∀ w, (underlying t).run P w = .ok (.slice e) w) (hs : ∀ w, (Go.sizeOf e).run P w = .ok z w)
    (h : ∀ g w', New w w' g e [] → K (.slice (some ⟨g, 0, none⟩) 0 0) w') : EOp P (.buildSlice t 0 #[]) ty ρ w K := by
  refine EOp.of_run (v := .slice (some ⟨w.heap.size, 0, none⟩) 0 0) (w' := w.alloc (.cells #[] e)) (zbr ?_) (h _ _ ?_)
  · simp [Instr.buildSlice, ht, hs, Go.Instr.fill, newRow]
    rw [Array.eq_empty_of_size_eq_zero (xs := Array.map (fun _ => (default : Value)) (Array.range 0)) (by simp)]
  · have := New.mk' w e #[]
    simpa using this
theorem ef_buildSlice0 {P : Program} {ty : TypeId} {K : Kd} {H : List Hp} {t e z : Nat} (ht : ∀ w, (underlying t).run P w = .ok (.slice e) w) (hs : ∀ w, (Go.sizeOf e).run P w = .ok z w) :
    Ef P (.buildSlice t 0 #[]) ty K H (fun d H' => ∃ g, d = .ov (.slice (some ⟨g, 0, none⟩) 0 0) ∧ H' = .sl (.slice (some ⟨g, 0, none⟩) 0 0) z e [] :: H) :=
  ⟨fun C ρ w F hk gd => by
    refine e_buildSlice0 ht hs (fun g w' n => ?_)
    refine ⟨F, _, _, ⟨g, rfl, rfl⟩, ⟨rfl, rfl⟩, gd.born n ⟨[], rfl, ?_⟩ (fun b e => by cases e; rfl), Keep.ext n.ext⟩
    exact Box.own (base := 0) (cs := vcs) (z := z) (xs := []) n.box (Nat.zero_le _) rfl (fun _ h => by cases h) (by unfold maxLen; simp)⟩
end Lp
/-
  Stable sorting, as plain data, for any way of comparing: what comes out is one list alone; insertion sort as Go's library does it.
-/
set_option linter.unusedVariables false
namespace Lp
open Go
section
variable {α : Type} {c : α → α → Int}

structure Cmp (c : α → α → Int) : Prop where
  neg : ∀ a b, c b a = - c a b
  tr : ∀ a b d, Tr (c a b) (c b d) (c a d)
theorem Cmp.self (h : Cmp c) (a : α) : c a a = 0 := by have := h.neg a a; omega
def Srt (c : α → α → Int) (l : List α) : Prop := l.Pairwise (fun a b => c a b ≤ 0)
def eqv (c : α → α → Int) (k x : α) : Bool := decide (c k x = 0)
structure Stab (c : α → α → Int) (l r : List α) : Prop where
  srt : Srt c r
  same : ∀ k, r.filter (eqv c k) = l.filter (eqv c k)

theorem zbU (h : Cmp c) (a : α) : eqv c a a = true := by unfold eqv; simp [h.self a]
theorem Srt.unique (h : Cmp c) : ∀ a b : List α, Srt c a → Srt c b → (∀ k, a.filter (eqv c k) = b.filter (eqv c k)) → a = b
  | [], [], _, _, _ => rfl
  | [], y :: b, _, _, hs => by
    have := hs y; rw [List.filter_cons_of_pos (zbU h y)] at this; cases this
  | x :: a, [], _, _, hs => by
    have := hs x; rw [List.filter_cons_of_pos (zbU h x)] at this; cases this
  | x :: a, y :: b, ha, hb, hs => by
    have hx : x ∈ y :: b := by
      have : x ∈ (y :: b).filter (eqv c x) := by rw [← hs x, List.filter_cons_of_pos (zbU h x)]; exact List.mem_cons_self
      exact (List.mem_filter.1 this).1
    have hy : y ∈ x :: a := by
      have : y ∈ (x :: a).filter (eqv c y) := by rw [hs y, List.filter_cons_of_pos (zbU h y)]; exact List.mem_cons_self
      exact (List.mem_filter.1 this).1
    have h1 : c y x ≤ 0 := by
      rcases List.mem_cons.1 hx with e | e
      · rw [e, h.self]; exact Int.le_refl _
      · exact (List.pairwise_cons.1 hb).1 x e
    have h2 : c x y ≤ 0 := by
      rcases List.mem_cons.1 hy with e | e
      · rw [e, h.self]; exact Int.le_refl _
      · exact (List.pairwise_cons.1 ha).1 y e
    have h3 : c x y = 0 := by have := h.neg x y; omega
    have e1 : eqv c x y = true := by unfold eqv; simp [h3]
    have := hs x
    rw [List.filter_cons_of_pos (zbU h x), List.filter_cons_of_pos e1] at this
    injection this with hxy _
    subst hxy
    congr 1
    refine Srt.unique h a b (List.pairwise_cons.1 ha).2 (List.pairwise_cons.1 hb).2 (fun k => ?_)
    have := hs k
    simp only [List.filter_cons] at this
    split at this
    · injection this
    · exact this
theorem Stab.eq (h : Cmp c) {l a b : List α} (ha : Stab c l a) (hb : Stab c l b) : a = b := Srt.unique h a b ha.srt hb.srt (fun k => (ha.same k).trans (hb.same k).symm)
theorem Stab.trans {l a b : List α} (ha : Stab c l a) (hb : Stab c a b) : Stab c l b := ⟨hb.srt, fun k => (hb.same k).trans (ha.same k)⟩
theorem Stab.mem (h : Cmp c) {l a : List α} (ha : Stab c l a) (x : α) : x ∈ a ↔ x ∈ l := by
  have := ha.same x
  constructor
  · intro hx
    have : x ∈ l.filter (eqv c x) := by rw [← this]; exact List.mem_filter.2 ⟨hx, zbU h x⟩
    exact (List.mem_filter.1 this).1
  · intro hx
    have : x ∈ a.filter (eqv c x) := by rw [this]; exact List.mem_filter.2 ⟨hx, zbU h x⟩
    exact (List.mem_filter.1 this).1

/-! ### insertion -/
/-- into a list the other way round -/
def insB (c : α → α → Int) (x : α) : List α → List α
  | [] => [x]
  | y :: r => if c x y < 0 then y :: insB c x r else x :: y :: r
def ins (c : α → α → Int) (x : α) (l : List α) : List α := (insB c x l.reverse).reverse
theorem ins_nil (x : α) : ins c x [] = [x] := rfl
theorem ins_lt {x y : α} {l : List α} (h : c x y < 0) : ins c x (l ++ [y]) = ins c x l ++ [y] := by
  unfold ins; rw [List.reverse_append]; simp [insB, h]
theorem ins_ge {x y : α} {l : List α} (h : ¬ c x y < 0) : ins c x (l ++ [y]) = l ++ [y, x] := by
  unfold ins; rw [List.reverse_append]; simp [insB, h]
theorem insB_len (x : α) : ∀ l : List α, (insB c x l).length = l.length + 1
  | [] => rfl
  | y :: r => by unfold insB; split <;> simp [insB_len x r]
theorem ins_len (x : α) (l : List α) : (ins c x l).length = l.length + 1 := by unfold ins; simp [insB_len]
theorem ins_stab (h : Cmp c) (x : α) : ∀ (n : Nat) (l : List α), l.length = n → Srt c l → Srt c (ins c x l) ∧ (∀ k, (ins c x l).filter (eqv c k) = (l ++ [x]).filter (eqv c k)) ∧ ∀ z ∈ ins c x l, z = x ∨ z ∈ l := by
  intro n
  induction n with
  | zero =>
    intro l hl _
    have : l = [] := List.eq_nil_of_length_eq_zero hl
    subst this
    exact ⟨by simp [Srt, ins_nil], fun k => rfl, fun z hz => by simp [ins_nil] at hz; exact .inl hz⟩
  | succ n ih =>
    intro l hl hs
    obtain ⟨l, y, rfl⟩ : ∃ q y, l = q ++ [y] := by
      have hne : l ≠ [] := by intro e; rw [e] at hl; simp at hl
      exact ⟨l.dropLast, l.getLast hne, (List.dropLast_concat_getLast hne).symm⟩
    have hq := List.pairwise_append.1 hs
    by_cases hc : c x y < 0
    · obtain ⟨i1, i2, i3⟩ := ih l (by simpa using hl) hq.1
      rw [ins_lt hc]
      refine ⟨List.pairwise_append.2 ⟨i1, by simp, fun a ha b hb => ?_⟩, fun k => ?_, fun z hz => ?_⟩
      · simp at hb; subst hb
        rcases i3 a ha with rfl | ha'
        · omega
        · exact hq.2.2 a ha' b (by simp)
      · rw [List.filter_append, i2 k]
        simp only [List.filter_append, List.append_assoc]
        congr 1
        by_cases hx : eqv c k x = true
        · have hy : eqv c k y = false := by
            unfold eqv at hx ⊢
            simp only [decide_eq_true_eq, decide_eq_false_iff_not] at hx ⊢
            intro hy
            have e1 := (h.tr k x y).e1 hx
            have e2 : c k y = 0 := hy
            omega
          simp [hx, hy]
        · simp [hx]
      · rcases List.mem_append.1 hz with hz | hz
        · rcases i3 z hz with e | e
          · exact .inl e
          · exact .inr (List.mem_append_left _ e)
        · exact .inr (List.mem_append_right _ hz)
    · rw [ins_ge hc]
      refine ⟨?_, fun k => by simp, fun z hz => by simp at hz ⊢; rcases hz with h | h | h <;> simp [h]⟩
      have hyx : c y x ≤ 0 := by have := h.neg x y; omega
      rw [show l ++ [y, x] = (l ++ [y]) ++ [x] by simp]
      refine List.pairwise_append.2 ⟨hs, by simp, fun a ha b hb => ?_⟩
      simp at hb; subst hb
      rcases List.mem_append.1 ha with ha | ha
      · exact (h.tr a y b).le (hq.2.2 a ha y (by simp)) hyx
      · simp at ha; subst ha; exact hyx
/-- insertion sort -/
def zt (c : α → α → Int) (l : List α) : List α := l.foldl (fun r x => ins c x r) []
theorem isort_snoc (l : List α) (x : α) : zt c (l ++ [x]) = ins c x (zt c l) := by unfold zt; rw [List.foldl_append]; rfl
theorem zbl : ∀ (n : Nat) (l : List α), l.length = n → (zt c l).length = n
  | 0, l, h => by rw [List.eq_nil_of_length_eq_zero h]; rfl
  | n + 1, l, h => by
    have hne : l ≠ [] := by intro e; rw [e] at h; simp at h
    rw [← List.dropLast_concat_getLast hne, isort_snoc, ins_len, zbl n _ (by simp [h])]
theorem zaf (h : Cmp c) : ∀ (n : Nat) (l : List α), l.length = n → Stab c l (zt c l)
  | 0, l, hl => by rw [List.eq_nil_of_length_eq_zero hl]; exact ⟨by simp [Srt, zt], fun _ => rfl⟩
  | n + 1, l, hl => by
    have hne : l ≠ [] := by intro e; rw [e] at hl; simp at hl
    have ih := zaf h n l.dropLast (by simp [hl])
    have hi := ins_stab h (l.getLast hne) _ (zt c l.dropLast) rfl ih.srt
    conv => arg 2; rw [← List.dropLast_concat_getLast hne]
    conv => arg 3; rw [← List.dropLast_concat_getLast hne]
    rw [isort_snoc]
    refine ⟨hi.1, fun k => ?_⟩
    rw [hi.2.1 k, List.filter_append, List.filter_append, ih.same k]

/-! ### as the library does it -/
/-- The element at j goes down to its place, no further than a. -/
def bub (c : α → α → Int) (a : Nat) : Nat → List α → List α
  | 0, L => L
  | j + 1, L => if a < j + 1 then match L[j + 1]?, L[j]? with
    | some x, some y => if c x y < 0 then bub c a j ((L.set (j + 1) y).set j x) else L
    | _, _ => L
  else L
theorem bub_lt {a j : Nat} {L : List α} {x y : α} (h : a < j + 1) (hx : L[j + 1]? = some x) (hy : L[j]? = some y) (hc : c x y < 0) : bub c a (j + 1) L = bub c a j ((L.set (j + 1) y).set j x) := by
  conv => lhs; unfold bub
  rw [if_pos h, hx, hy]; simp only; rw [if_pos hc]
theorem bub_ge {a j : Nat} {L : List α} {x y : α} (hx : L[j + 1]? = some x) (hy : L[j]? = some y) (hc : ¬ c x y < 0) : bub c a (j + 1) L = L := by
  unfold bub; split
  · rw [hx, hy]; simp only; rw [if_neg hc]
  · rfl
theorem bub_lt' {a j : Nat} {L : List α} {x y : α} (h : a < j) (hx : L[j]? = some x) (hy : L[j - 1]? = some y) (hc : c x y < 0) : bub c a j L = bub c a (j - 1) ((L.set j y).set (j - 1) x) := by
  obtain ⟨m, rfl⟩ : ∃ m, j = m + 1 := ⟨j - 1, by omega⟩
  exact bub_lt h hx hy hc
theorem bub_ge' {a j : Nat} {L : List α} {x y : α} (hx : L[j]? = some x) (hy : L[j - 1]? = some y) (hc : ¬ c x y < 0) : bub c a j L = L := by
  cases j with
  | zero => rfl
  | succ j => exact bub_ge hx hy hc
theorem bub_end {a j : Nat} {L : List α} (h : j ≤ a) : bub c a j L = L := by
  cases j with
  | zero => rfl
  | succ j => unfold bub; rw [if_neg (by omega)]
theorem set_swap {A R : List α} {x y : α} : ((A ++ y :: x :: R).set (A.length + 1) y).set A.length x = A ++ x :: y :: R := by
  rw [List.set_append_right _ _ (by omega), List.set_append_right _ _ (by omega)]
  simp
theorem bub_ins {A R : List α} {x : α} : ∀ (n : Nat) (P : List α), P.length = n → bub c A.length (A.length + n) (A ++ P ++ x :: R) = A ++ ins c x P ++ R := by
  intro n
  induction n generalizing R with
  | zero => intro P hP; rw [List.eq_nil_of_length_eq_zero hP, bub_end (by omega), ins_nil]; simp
  | succ n ih =>
    intro P hP
    obtain ⟨P, y, rfl⟩ : ∃ q y, P = q ++ [y] := by
      have hne : P ≠ [] := by intro e; rw [e] at hP; simp at hP
      exact ⟨P.dropLast, P.getLast hne, (List.dropLast_concat_getLast hne).symm⟩
    have hPn : P.length = n := by simpa using hP
    have e : A ++ (P ++ [y]) ++ x :: R = (A ++ P) ++ y :: x :: R := by simp
    have hx : ((A ++ P) ++ y :: x :: R)[A.length + n + 1]? = some x := by rw [List.getElem?_append_right (by simp; omega)]; simp [hPn]
    have hy : ((A ++ P) ++ y :: x :: R)[A.length + n]? = some y := by rw [List.getElem?_append_right (by simp; omega)]; simp [hPn]
    rw [e, show A.length + (n + 1) = A.length + n + 1 by omega]
    by_cases hc : c x y < 0
    · rw [bub_lt (by omega) hx hy hc, ins_lt hc]
      have := set_swap (A := A ++ P) (R := R) (x := x) (y := y)
      rw [List.length_append, hPn] at this
      rw [this]
      have := ih (R := y :: R) P hPn
      rw [List.append_assoc A P] at this ⊢
      rw [this]; simp
    · rw [bub_ge hx hy hc, ins_ge hc]; simp
/-- insertion sort from i on -/
def isrt (c : α → α → Int) (a b : Nat) : Nat → Nat → List α → List α
  | 0, _, L => L
  | n + 1, i, L => if i < b then isrt c a b n (i + 1) (bub c a i L) else L
theorem zaT {a b n i : Nat} {L : List α} (h : i < b) : isrt c a b (n + 1) i L = isrt c a b n (i + 1) (bub c a i L) := by
  conv => lhs; unfold isrt
  rw [if_pos h]
theorem zaH {a b n i : Nat} {L : List α} (h : b ≤ i) : isrt c a b n i L = L := by
  cases n with
  | zero => rfl
  | succ n => unfold isrt; rw [if_neg (by omega)]
theorem isrt_isort {A R : List α} : ∀ (n : Nat) (S T : List α), T.length = n → isrt c A.length (A.length + S.length + n) n (A.length + S.length) (A ++ zt c S ++ T ++ R) = A ++ zt c (S ++ T) ++ R := by
  intro n
  induction n with
  | zero => intro S T hT; rw [List.eq_nil_of_length_eq_zero hT]; simp [isrt]
  | succ n ih =>
    intro S T hT
    cases T with
    | nil => simp at hT
    | cons x T =>
      have hTn : T.length = n := by simpa using hT
      rw [zaT (by omega)]
      have hb := bub_ins (c := c) (A := A) (R := T ++ R) (x := x) S.length (zt c S) (zbl _ _ rfl)
      rw [show A ++ zt c S ++ (x :: T) ++ R = A ++ zt c S ++ x :: (T ++ R) by simp, hb]
      have := ih (S ++ [x]) T hTn
      rw [isort_snoc, List.length_append, List.length_singleton] at this
      rw [show A.length + S.length + (n + 1) = A.length + (S.length + 1) + n by omega, show A.length + S.length + 1 = A.length + (S.length + 1) by omega]
      rw [show A ++ ins c x (zt c S) ++ (T ++ R) = A ++ ins c x (zt c S) ++ T ++ R by simp, this]
      simp
theorem isrt_all (l : List α) : isrt c 0 l.length l.length 1 l = zt c l := by
  cases l with
  | nil => rfl
  | cons x r =>
    have := isrt_isort (c := c) (A := []) (R := []) r.length [x] r rfl
    simp only [List.length_nil, Nat.zero_add, List.length_singleton, List.nil_append, List.append_nil] at this
    have e : zt c [x] = [x] := rfl
    rw [e] at this
    have h2 : isrt c 0 (x :: r).length (x :: r).length 1 (x :: r) = isrt c 0 (1 + r.length) r.length 1 ([x] ++ r) := by
      rw [List.length_cons, Nat.add_comm]
      cases hr : r.length with
      | zero => rw [zaH (by omega), zaH (by omega)]; rfl
      | succ n =>
        -- one round more is none
        have more : ∀ (k i : Nat) (L : List α), 1 + (n + 1) ≤ i + k → isrt c 0 (1 + (n + 1)) (k + 1) i L = isrt c 0 (1 + (n + 1)) k i L := by
          intro k
          induction k with
          | zero => intro i L hk; rw [zaH (by omega), zaH (by omega)]
          | succ k ih =>
            intro i L hk
            by_cases hi : i < 1 + (n + 1)
            · rw [zaT hi, zaT hi, ih (i + 1) _ (by omega)]
            · rw [zaH (by omega), zaH (by omega)]
        have := more (n + 1) 1 (x :: r) (by omega)
        have e1 : 1 + (n + 1) = n + 1 + 1 := by omega
        rw [e1] at this ⊢
        exact this
    rw [h2, this]
    rfl
theorem zbw : Cmp zC := ⟨fun a b => cmpLbl_neg a b, fun a b d => cmpLbl_tr a b d⟩
end
end Lp
/-
  Tidy labels, as plain data.
-/
set_option linter.unusedVariables false
namespace Lp
open Go

def okL (x : Lbl) : Bool := zbt x.n && (!decide (x.v = ByteArray.empty) && decide (x.v.size ≤ 60))
def zbA : Option ByteArray → List Lbl → Bool
  | _, [] => true
  | p, x :: r => okL x && (!decide (p = some x.n) && zbA (some x.n) r)
def zcJ (o : List Lbl) : Nat → Option ByteArray
  | 0 => none
  | k + 1 => (o[k]?).map (·.n)
def zbg (o : List Lbl) (k : Nat) : Bool := zbA (zcJ o k) (o.drop k)
def zco (o : List Lbl) : Bool := zbg o 0
def zW (l : List Lbl) : Bool := decide (l.length ≤ 8) && zco (zt zC l)
def zF (l : List Lbl) : List Lbl := bif zW l then zt zC l else []
def zaD (l : List Lbl) : Int := bif zW l then 0 else 1

theorem zcu {x : Lbl} (h : zbt x.n = false) : okL x = false := by simp [okL, h]
theorem zct {x : Lbl} (h : x.v = ByteArray.empty) : okL x = false := by simp [okL, h]
theorem zcs {x : Lbl} (h : (60 : Int) < ((x.v.size : Nat) : Int)) : okL x = false := by
  have : ¬ x.v.size ≤ 60 := by omega
  simp [okL, this]
theorem okL_t {x : Lbl} (h1 : zbt x.n = true) (h2 : ¬ x.v = ByteArray.empty) (h3 : ¬ (60 : Int) < ((x.v.size : Nat) : Int)) : okL x = true := by
  have : x.v.size ≤ 60 := by omega
  simp [okL, h1, h2, this]
theorem zb7 {o : List Lbl} {k : Nat} {y : Lbl} (h : (0 : Int) < ((k : Nat) : Int)) (hy : o[k - 1]? = some y) : zcJ o k = some y.n := by
  cases k with
  | zero => simp at h
  | succ k => simp at hy; simp [zcJ, hy]
theorem prevN_zero {o : List Lbl} {k : Nat} (h : ¬ (0 : Int) < ((k : Nat) : Int)) : zcJ o k = none := by
  have : k = 0 := by omega
  subst this; rfl
theorem drop_at {α : Type} {o : List α} {k : Nat} {x : α} (h : o[k]? = some x) : o.drop k = x :: o.drop (k + 1) := by
  obtain ⟨hk, e⟩ := List.getElem?_eq_some_iff.1 h
  rw [← e]; exact List.drop_eq_getElem_cons hk
theorem tidyAt_next {o : List Lbl} {k : Nat} {x : Lbl} (h : o[k]? = some x) : zbg o k = (okL x && (!decide (zcJ o k = some x.n) && zbg o (k + 1))) := by
  unfold zbg
  rw [drop_at h]
  simp only [zbA, zcJ, h, Option.map_some]
theorem tidyAt_end {o : List Lbl} {k : Nat} (h : o.length ≤ k) : zbg o k = true := by
  unfold zbg; rw [List.drop_eq_nil_iff.2 h]; rfl
section
variable {l : List Lbl} {k : Nat} {x : Lbl}
theorem tidy_ok (h : zW l = false) : [] = zF l ∧ 1 = zaD l := by simp [zF, zaD, h]
theorem tidy_long (h : (8 : Int) < ((l.length : Nat) : Int)) : [] = zF l ∧ 1 = zaD l := tidy_ok (by
  have : ¬ l.length ≤ 8 := by omega
  simp [zW, this])
theorem zaF (hk : zco (zt zC l) = zbg (zt zC l) k) (hx : (zt zC l)[k]? = some x) (h : okL x = false) : [] = zF l ∧ 1 = zaD l := tidy_ok (by simp [zW, hk, tidyAt_next hx, h])
theorem tidy_bad2 (hk : zco (zt zC l) = zbg (zt zC l) k) (hx : (zt zC l)[k]? = some x) {n : ByteArray} (h : zcJ (zt zC l) k = some n) (hn : n = x.n) : [] = zF l ∧ 1 = zaD l := tidy_ok (by simp [zW, hk, tidyAt_next hx, h, hn])
theorem tidy_good (hk : zco (zt zC l) = zbg (zt zC l) k) (hx : (zt zC l).length ≤ k) (h : l.length ≤ 8) : zt zC l = zF l ∧ 0 = zaD l := by
  have : zW l = true := by simp [zW, hk, tidyAt_end hx, h]
  simp [zF, zaD, this]
theorem tidy_step0 (hk : zco (zt zC l) = zbg (zt zC l) k) (hx : (zt zC l)[k]? = some x) (h : okL x = true) (hp : zcJ (zt zC l) k = none) : zco (zt zC l) = zbg (zt zC l) (k + 1) := by
  rw [hk, tidyAt_next hx, h, hp]; simp
theorem tidy_step (hk : zco (zt zC l) = zbg (zt zC l) k) (hx : (zt zC l)[k]? = some x) (h : okL x = true) {n : ByteArray} (hp : zcJ (zt zC l) k = some n) (hn : ¬ n = x.n) : zco (zt zC l) = zbg (zt zC l) (k + 1) := by
  rw [hk, tidyAt_next hx, h, hp]; simp [hn]
end

/-! ### picking -/
def hasN (ns : List ByteArray) (n : ByteArray) : Bool := ns.any (fun m => decide (m = n))
def zaN (l : List Lbl) (ns : List ByteArray) (w : Bool) : List Lbl := l.filter (fun x => hasN ns x.n == w)
def idxN (n : ByteArray) : Nat → List ByteArray → Int
  | _, [] => -1
  | k, m :: r => if n = m then (k : Int) else idxN n (k + 1) r
theorem idxN_has (n : ByteArray) : ∀ (ns : List ByteArray) (k : Nat), decide (0 ≤ idxN n k ns) = hasN ns n
  | [], k => rfl
  | m :: r, k => by
    unfold idxN hasN
    by_cases h : n = m
    · have h0 : (0 : Int) ≤ (k : Nat) := by omega
      simp [h, h0]
    · have h' : ¬ m = n := fun e => h e.symm
      have := idxN_has n r (k + 1)
      unfold hasN at this
      rw [if_neg h, this]; simp [h']
theorem idxN_at {n m : ByteArray} {ns : List ByteArray} {k : Nat} (hm : ns[k]? = some m) (h : idxN n 0 ns = idxN n k (ns.drop k)) (e : n = m) : ((k : Nat) : Int) = idxN n 0 ns := by
  rw [h, drop_at hm]; unfold idxN; rw [if_pos e]
theorem idxN_next {n m : ByteArray} {ns : List ByteArray} {k : Nat} (hm : ns[k]? = some m) (h : idxN n 0 ns = idxN n k (ns.drop k)) (e : ¬ n = m) : idxN n 0 ns = idxN n (k + 1) (ns.drop (k + 1)) := by
  rw [h, drop_at hm]; conv => lhs; unfold idxN
  rw [if_neg e]
theorem idxN_end {n : ByteArray} {ns : List ByteArray} {k : Nat} (hk : ns.length ≤ k) (h : idxN n 0 ns = idxN n k (ns.drop k)) : -1 = idxN n 0 ns := by
  rw [h, List.drop_eq_nil_iff.2 hk]; rfl
theorem pickL_snoc {l : List Lbl} {ns : List ByteArray} {w : Bool} {k : Nat} {x : Lbl} (hx : l[k]? = some x) (h : (hasN ns x.n == w) = true) : zaN (l.take (k + 1)) ns w = zaN (l.take k) ns w ++ [x] := by
  rw [zaa hx]; unfold zaN; rw [List.filter_append]; simp [h]
theorem pickL_skip {l : List Lbl} {ns : List ByteArray} {w : Bool} {k : Nat} {x : Lbl} (hx : l[k]? = some x) (h : (hasN ns x.n == w) = false) : zaN (l.take (k + 1)) ns w = zaN (l.take k) ns w := by
  rw [zaa hx]; unfold zaN; rw [List.filter_append]; simp [h]
theorem pickL_len (l : List Lbl) (ns : List ByteArray) (w : Bool) : (zaN l ns w).length ≤ l.length := List.length_filter_le _ _
end Lp
