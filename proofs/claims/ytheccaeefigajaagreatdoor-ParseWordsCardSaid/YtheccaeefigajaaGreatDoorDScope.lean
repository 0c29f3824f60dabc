import Derived.Scope
import Derived.Laws.Runes
import Derived.Test.YtheccaeefigajaaGreatDoorDI
set_option linter.unusedVariables false
namespace Lp
open Go Go.RowKit
inductive Ey where
 | q (d:D)
 | e (d:D)
 | f (m:Value→D)
 | s
def Ey.d (γ:Gh) (i:Nat):Ey→D
 | .q d=>d
 | .e d=>d
 | .f m=>m (γ i)
 | .s=>.v undef
def Ey.isS:Ey→Bool
 | .s=>true
 | _=>false
def geny (γ:Gh):Nat→List (Tmp×Ey)→List En
 | _,[]=>[]
 | i,(t,x)::r=>(t,x.d γ i,none)::geny γ (i+1) r
theorem geny_nth' (γ:Gh):∀ (es:List (Tmp×Ey)) (s i:Nat) (t:Tmp) (d:D) (e:Option (List Hp)),nth (geny γ s es) i=some (t,d,e)→∃ x,nth es i=some (t,x)∧d=x.d γ (s+i)
 | [],_,i,_,_,_,h=>by simp[geny,nth] at h
 | (t,x)::r,s,0,t',d',e',h=>by simp[geny,nth] at h;obtain ⟨rfl,rfl,rfl⟩:=h;exact⟨x,by simp[nth],rfl⟩
 | (t,x)::r,s,i+1,t',d',e',h=>by
  obtain ⟨y,h1,h2⟩:=geny_nth' γ r (s+1) i t' d' e' (by simpa [geny,nth] using h)
  exact⟨y,by simpa [nth] using h1,by rw[show s+(i+1)=s+1+i by omega];exact h2⟩
def ub (D:Nat→Bool) (k:Nat):Nat→Bool:=fun i=>bif Nat.beq i k then true else D i
abbrev HFn:=(Nat→Bool)→Gh→List Hp
def runX (P:Program) (ops:List Oper) (n:Nat) (op:Op) (ty:TypeId) (K:Kd) (Hs:List Hp) (HF:HFn) (γ:Gh) (k:Nat):Ey→Prop
 | .q d=>Qu P op ty K Hs d∧∀ D,HF (ub D k) γ=HF D γ
 | .e d=>∀ D:Nat→Bool,D k=false→(∀ i,i<n→D i=true→∀ j∈zW ops i,D j=true)→(∀ j∈zW ops k,D j=true)→Ef P op ty K (HF D γ) (fun d' H''=>d'=d∧H''=HF (ub D k) γ)
 | .f m=>∀ D:Nat→Bool,D k=false→(∀ i,i<n→D i=true→∀ j∈zW ops i,D j=true)→(∀ j∈zW ops k,D j=true)→Ef P op ty K (HF D γ) (fun d' H''=>∃ v,d'=m v∧H''=HF (ub D k) (ug γ k v))
 | .s=>∀ D:Nat→Bool,D k=false→(∀ i,i<n→D i=true→∀ j∈zW ops i,D j=true)→(∀ j∈zW ops k,D j=true)→Ef P op ty K (HF D γ) (fun _ H''=>H''=HF (ub D k) γ)
structure StepX (P:Program) (N n:Nat) (ops:List Oper) (K:Kd) (Hs:List Hp) (HF:HFn) (γ:Gh) (es:List (Tmp×Ey)) (k:Nat):Prop where
 out:∃ t x dst op ty,nth es k=some (t,x)∧opAt ops k=some (dst,op,ty,none)∧((dst=some t∧x.isS=false)∨(dst=none∧Nat.ble N t=true∧x.isS=true))∧runX P ops n op ty (kpre (geny γ 0 es) K (zW ops k)) Hs HF γ k x
section
variable {P:Program} {N n:Nat} {ops:List Oper} {K:Kd} {Hs:List Hp} {HF:HFn} {γ:Gh} {es:List (Tmp×Ey)} {k:Nat}
theorem sx_q {t:Tmp} {d:D} {op:Op} {ty:TypeId} (he:nth es k=some (t,.q d)) (ho:opAt ops k=some (some t,op,ty,none)) {pre:List Nat} (hp:zW ops k=pre) (h:Qu P op ty (kpre (geny γ 0 es) K pre) Hs d) (hf:∀ D,HF (ub D k) γ=HF D γ):StepX P N n ops K Hs HF γ es k:=
 ⟨t,.q d,_,op,ty,he,ho,.inl ⟨rfl,rfl⟩,by subst hp;exact⟨h,hf⟩⟩
theorem sx_p {t:Tmp} {d:D} {op:Op} {ty:TypeId} (he:nth es k=some (t,.q d)) (ho:opAt ops k=some (some t,op,ty,none)) {pre:List Nat} (hp:zW ops k=pre) (h:Pu P op ty (kpre (geny γ 0 es) K pre) Hs d) (hf:∀ D,HF (ub D k) γ=HF D γ):StepX P N n ops K Hs HF γ es k:=sx_q he ho hp h.qu hf
theorem sx_e {t:Tmp} {d:D} {op:Op} {ty:TypeId} (he:nth es k=some (t,.e d)) (ho:opAt ops k=some (some t,op,ty,none)) {pre:List Nat} (hp:zW ops k=pre) (h:∀ D:Nat→Bool,D k=false→(∀ i,i<n→D i=true→∀ j∈zW ops i,D j=true)→(∀ j∈pre,D j=true)→Ef P op ty (kpre (geny γ 0 es) K pre) (HF D γ) (fun d' H''=>d'=d∧H''=HF (ub D k) γ)):StepX P N n ops K Hs HF γ es k:=
 ⟨t,.e d,_,op,ty,he,ho,.inl ⟨rfl,rfl⟩,by subst hp;exact h⟩
theorem sx_f {t:Tmp} {op:Op} {ty:TypeId} {m:Value→D} (he:nth es k=some (t,.f m)) (ho:opAt ops k=some (some t,op,ty,none)) {pre:List Nat} (hp:zW ops k=pre) (h:∀ D:Nat→Bool,D k=false→(∀ i,i<n→D i=true→∀ j∈zW ops i,D j=true)→(∀ j∈pre,D j=true)→Ef P op ty (kpre (geny γ 0 es) K pre) (HF D γ) (fun d' H''=>∃ v,d'=m v∧H''=HF (ub D k) (ug γ k v))):StepX P N n ops K Hs HF γ es k:=
 ⟨t,.f m,_,op,ty,he,ho,.inl ⟨rfl,rfl⟩,by subst hp;exact h⟩
def zev (P:Program) (N n:Nat) (ops:List Oper) (K:Kd) (Hs:List Hp) (HF:HFn) (γ:Gh) (es:List (Tmp×Ey)):Nat→Nat→Prop
 | _,0=>True
 | k,todo+1=>StepX P N n ops K Hs HF γ es k∧zev P N n ops K Hs HF γ es (k+1) todo
theorem zev.get:∀ (todo k:Nat),zev P N n ops K Hs HF γ es k todo→∀ i,k≤i→i<k+todo→StepX P N n ops K Hs HF γ es i
 | 0,k,_,i,h1,h2=>by omega
 | todo+1,k,⟨h,hr⟩,i,h1,h2=>by
  rcases Nat.lt_or_ge k i with h3 | h3
  · exact zev.get todo (k+1) hr i h3 (by omega)
  · have:i=k:=by omega
    subst this;exact h
theorem set_ub {l:Array Bool} {i:Nat} (h:i<l.size):(fun j=>(l.setIfInBounds i true).getD j true)=ub (fun j=>l.getD j true) i:=by
 funext j
 unfold ub
 by_cases e:j=i
 · subst e;rw[Nat.beq_refl];simp[h]
 · rw[zce e,getD_set_ne true (fun q=>e q.symm)];rfl
theorem jd_drawx {C:Ctx} {c:Code} {H:List Hp} {Q:zbr} (n:Nat) (es:List (Tmp×Ey)) (Hs:List Hp) (HF:HFn) (Hn:Gh→List Hp) (hm:P.follows .mixedOrders=true) (hc:zeb c=some true) (hlen:Nat.beq es.length n=true) (hB:drawB' (zb1 c) n N (K.map fun x=>(x.1,Value.nilFunc))=true) (hs0:∀ D γ,HSub (HF D γ) Hs)
 (h0:∀ γ (D:Nat→Bool),(∀ i,i<n→D i=false)→HF D γ=H) (hHn:∀ γ (D:Nat→Bool),(∀ i,i<n→D i=true)→HF D γ=Hn γ)
 (hsteps:∀ γ,zev P N n (zb1 c) K Hs HF γ es 0 n) (next:∀ γ,OpsD P N C (zb1 c) n (enK (geny γ 0 es) K) (Hn γ) (fun ρ w F=>Q .normal ρ w F)):JD P N C c K H Q:=by
 cases c<;>simp[zeb] at hc
 rename_i id opsA draw
 subst hc
 simp only[zb1] at hB hsteps next
 generalize hops:opsA.toList=ops at hB hsteps next
 have hA:opsA=ops.toArray:=by rw[←hops]
 subst hA
 have hlen:=Nat.eq_of_beq_eq_true hlen
 unfold drawB' at hB
 simp only[Bool.and_eq_true] at hB
 obtain ⟨⟨hback,htail⟩,hfresh⟩:=hB
 unfold freshB' at hfresh
 simp only[Bool.and_eq_true] at hfresh
 obtain ⟨hnl,hfr⟩:=hfresh
 have hnl:=Nat.le_of_ble_eq_true hnl
 rw[List.all_eq_true] at hfr
 have hpre:∀ k,k<ops.length→∀ j∈zW ops k,j<k:=by
  intro k hk j hj
  unfold zeW at hback
  rw[List.all_eq_true] at hback
  have:=hback k (List.mem_range.2 hk)
  rw[List.all_eq_true] at this
  exact zaC.1 (this j hj)
 have hstep:∀ γ i,i<n→StepX P N n ops K Hs HF γ es i:=fun γ i hi=>zev.get n 0 (hsteps γ) i (Nat.zero_le _) (by omega)
 have hd:∀ i t,i<n→zax ops i=some t→Nat.blt t N=true∧zG K t=none∧∀ j,j<i→zax ops j≠some t:=by
  intro i t hi hdst
  have hf:=hfr i (List.mem_range.2 hi)
  rw[hdst] at hf
  simp only[Bool.and_eq_true,Bool.not_eq_true'] at hf
  refine⟨hf.1.1,lookD_keys hf.1.2,fun j hj=>?_⟩
  have:=hf.2
  rw[List.all_eq_true] at this
  have:=this j (List.mem_range.2 hj)
  simpa using this
 have hdn2:∀ i,i<n→∀ t x,nth es i=some (t,x)→(zax ops i=some t∧x.isS=false)∨(zax ops i=none∧Nat.ble N t=true∧x.isS=true):=by
  intro i hi t x hn
  obtain ⟨t',x',dst,op,ty,h1,h2,h3,_⟩:=(hstep (fun _=>undef) i hi).out
  rw[hn] at h1;cases h1
  have hdst:zax ops i=dst:=by
   obtain ⟨o,q1,q2,_⟩:=zb2 h2
   have:nth ops i=some o:=by rw[zbk];simpa using q1
   simp[zax,this,q2]
  rw[hdst];exact h3
 have hne:∀ i j t,i<n→j<n→i≠j→zax ops i=some t→zax ops j=some t→False:=by
  intro i j t hi hj hij h1 h2
  rcases Nat.lt_or_gt_of_ne hij with hlt | hlt
  · exact(hd j t hj h2).2.2 i hlt h1
  · exact(hd i t hi h1).2.2 j hlt h2
 have hfar:∀ (a:Act),Ok N a→∀ t,Nat.ble N t=true→zQ a t=undef:=by
  intro a ok t ht
  have ht:=Nat.le_of_ble_eq_true ht
  simp only[zQ,Array.getD_eq_getD_getElem?]
  rw[Array.getElem?_eq_none (by rw[ok.1];exact ht)];rfl
 refine⟨fun a w F ok hk g=>?_⟩
 apply wp_region_any hm
 have final:∀ (γ:Gh) (B:Nat→Bool) (a:Act) (w':World) (F':Nat→Prop),Ok N a→KOk w' F' (zQ a) K→Good C (HF B γ) w' F'→(∀ i,i<n→B i=true)→(∀ i t x,i<n→nth es i=some (t,x)→D.rep w' F' (x.d γ i) (zQ a t))→
  wpOps P ops.toArray (fun e a' w'=>Ok N a'∧∃ F',Q e (zQ a') w' F') (List.range' n (ops.length-n)) a w':=by
  intro γ B a w' F' ok hk g hD hrep
  rw[hHn γ B hD] at g
  have hK:=enK_ok (geny γ 0 es) K hk (fun j t d e hj=>by
   obtain ⟨x,x1,x2⟩:=geny_nth' γ es 0 j t d e hj
   rw[Nat.zero_add] at x2
   subst x2
   exact hrep j t x (by rw[zbk] at x1;rw[←hlen];exact(List.getElem?_eq_some_iff.1 x1).1) x1)
  refine zaJ ?_ _ _ _ ((next γ).out a w' F' ok hK g)
  rintro e a' w'' ⟨rfl,h1,h2⟩
  exact⟨h1,h2⟩
 have key:∀ (fuel:Nat) (listed:Array Bool) (γ:Gh) (a:Act) (w':World) (F':Nat→Prop),listed.size=ops.length→cnt ops.length listed≤fuel→Ok N a→KOk w' F' (zQ a) K→Good C (HF (fun i=>listed.getD i true) γ) w' F'→
  (∀ i t x,i<n→listed.getD i true=true→nth es i=some (t,x)→D.rep w' F' (x.d γ i) (zQ a t))→(∀ i,i<n→listed.getD i true=true→∀ j∈zW ops i,listed.getD j true=true)→(∀ i,n≤i→i<ops.length→listed.getD i true=false)→
  wpAny P .any ops.toArray (fun e a' w'=>Ok N a'∧∃ F',Q e (zQ a') w' F') fuel listed a w':=by
  intro fuel
  induction fuel with
  | zero=>
   intro listed γ a w' F' hs hcnt ok hk g hh hdn ht
   have hall:∀ i,i<ops.length→listed.getD i true=true:=by
    intro i hi
    cases hc:listed.getD i true with
    | true=>rfl
    | false=>have:=cnt_set hi hs hc;omega
   have hn:ops.length=n:=by
    rcases Nat.lt_or_ge n ops.length with h' | h'
    · have h1:=ht n (Nat.le_refl _) h'
      rw[hall n h'] at h1;cases h1
    · omega
   refine wpAny_tail (n:=n) hback htail 0 n listed a w' (by omega) (Nat.le_refl _) hnl hs (fun i hi=>by rw[hall i hi];simp;omega) ?_ 0 (by omega)
   exact final γ _ a w' F' ok hk g (fun i hi=>hall i (by omega)) (fun i t x hi hn=>hh i t x hi (hall i (by omega)) hn)
  | succ fuel ih=>
   intro listed γ a w' F' hs hcnt ok hk g hh hdn ht
   by_cases hall:∀ i,i<n→listed.getD i true=true
   · refine wpAny_tail (n:=n) hback htail (ops.length-n) n listed a w' O (Nat.le_refl _) hnl hs (fun i hi=>?_) ?_ (fuel+1) ?_
     · rcases Nat.lt_or_ge i n with h' | h'
       · rw[hall i h'];simp[h']
       · rw[ht i h' hi];simp;omega
     · exact final γ _ a w' F' ok hk g hall (fun i t x hi hn=>hh i t x hi (hall i hi) hn)
     · refine Nat.le_trans ?_ hcnt
       unfold cnt
       have hsplit:List.range ops.length=List.range n++List.range' n (ops.length-n):=by
        rw[List.range_eq_range',List.range_eq_range']
        have:=@List.range'_append 0 n (ops.length-n) 1
        simp only[Nat.one_mul,Nat.zero_add] at this
        rw[this];congr 1;omega
       rw[hsplit,List.countP_append]
       have:(List.range' n (ops.length-n)).countP (fun i=>!listed.getD i true)=ops.length-n:=by
        rw[List.countP_eq_length.2]
        · simp
        · intro i hi
          have:=List.mem_range'_1.1 hi
          rw[ht i (by omega) (by omega)];rfl
       omega
   · obtain ⟨i0,hi0⟩:=Classical.not_forall.1 hall
     obtain ⟨hi0n,hi0u⟩:=Classical.not_imp.1 hi0
     have hi0u:listed.getD i0 true=false:=by cases hx:listed.getD i0 true with | false=>rfl | true=>exact absurd hx hi0u
     refine⟨fun he=>absurd he (some_ready hs hback i0 (by omega) hi0u),fun i hi=>?_⟩
     obtain ⟨hu,hil,hps⟩:=zdr.1 hi
     have hin:i<n:=by
      rcases Nat.lt_or_ge i n with h' | h'
      · exact h'
      · exfalso
        have hpm:i0∈ancS ops i (zW ops i):=by
         have ht':=htail
         unfold zff at ht'
         rw[List.all_eq_true] at ht'
         have:=ht' i (List.mem_range.2 hil)
         rw[Bool.or_eq_true] at this
         rcases this with h'' | h''
         · have:=zaC.1 h'';omega
         · rw[List.all_eq_true] at h''
           exact has0_mem (h'' i0 (List.mem_range.2 (by omega)))
        have:=ancS_all (p:=fun j=>j<ops.length∧listed.getD j true=true) (fun k hk j hj=>by
         have hkn:k<n:=by
          rcases Nat.lt_or_ge k n with hh | hh
          · exact hh
          · have:=ht k hh hk.1;rw[hk.2] at this;cases this
         exact⟨by have:=hpre k hk.1 j hj;omega,hdn k hkn hk.2 j hj⟩) i _ (fun j hj=>by
         have hjl:j<ops.length:=by have:=hpre i hil j hj;omega
         exact⟨hjl,by rw[zel hs hjl];exact hps j hj⟩) i0 hpm
        rw[hi0u] at this
        cases this.2
     obtain ⟨t,x,dst,op,ty,h1,h2,hdx,h3⟩:=(hstep γ i hin).out
     have hdst:zax ops i=dst:=by
      obtain ⟨o,q1,q2,_⟩:=zb2 h2
      have:nth ops i=some o:=by rw[zbk];simpa using q1
      simp[zax,this,q2]
     have hpl:∀ j∈zW ops i,listed.getD j true=true:=fun j hj=>by
      have hjl:j<ops.length:=by have:=hpre i hil j hj;omega
      rw[zel hs hjl];exact hps j hj
     have hkp:KOk w' F' (zQ a) (kpre (geny γ 0 es) K (zW ops i)):=kpre_ok hk _ (fun j hj t' d' e' hn'=>by
      obtain ⟨y,y1,y2⟩:=geny_nth' γ es 0 j t' d' e' hn'
      rw[Nat.zero_add] at y2
      subst y2
      exact hh j t' y (by have:=hpre i hil j hj;omega) (hpl j hj) y1)
     obtain ⟨o,o1,o2,o3,o4,o5⟩:=zb2 h2
     have hdok:dok N dst=true:=by
      cases hds:dst with
      | none=>rfl
      | some t'=>exact(hd i t' hin (by rw[hdst,hds])).1
     have hub:=set_ub (l:=listed) (i:=i) (by omega)
     have after:∀ (γ':Gh) v w'' F'',(∀ j t' x',j≠i→nth es j=some (t',x')→x'.d γ' j=x'.d γ j)→Good C (HF (ub (fun j=>listed.getD j true) i) γ') w'' F''→Keep w' F' w'' F''→(dst=some t→D.rep w'' F'' (x.d γ' i) v)→
      wpAny P .any ops.toArray (fun e a' w'=>Ok N a'∧∃ F',Q e (zQ a') w' F') fuel (listed.setIfInBounds i true) (a.put o.dst v) w'':=by
      intro γ' v w'' F'' hoth g' kp hv
      have henv:zQ (a.put o.dst v)=upd (zQ a) dst v:=by rw[o2];exact zcR ok hdok v
      rw[←hub] at g'
      refine ih _ γ' _ _ F'' (by simp[hs]) ?_ (ok.put _ _) ?_ g' ?_ ?_ ?_
      · have:=cnt_set hil hs hu;omega
      · rw[henv]
        cases hds:dst with
        | none=>exact hk.keep kp
        | some t'=>exact(hk.keep kp).other (hd i t' hin (by rw[hdst,hds])).2.1
      · intro j t' x' hj hl hn'
        rw[henv]
        rcases hdn2 j hj t' x' hn' with ⟨e1,e2⟩ | ⟨e1,e2,e3⟩
        · by_cases hij:i=j
          · subst hij
            rw[h1] at hn';cases hn'
            rw[hdst] at e1;subst e1
            simpa [upd] using hv rfl
          · rw[getD_set_ne true hij] at hl
            have hkeep:upd (zQ a) dst v t'=zQ a t':=by
             cases hds:dst with
             | none=>rfl
             | some t2=>
              have:t'≠t2:=by rintro rfl;exact hne i j t' hin hj hij (by rw[hdst,hds]) e1
              simp only[upd,this,if_false]
            rw[hkeep,hoth j t' x' (fun e=>hij e.symm) hn']
            exact D.keep kp _ _ (hh j t' x' hj hl hn')
        · rw[←henv]
          have:x'.d γ' j=.v undef:=by cases x'<;>simp[Ey.isS] at e3;rfl
          rw[this]
          exact hfar _ (ok.put _ _) t' e2
      · intro j hj hl k hk'
        by_cases hij:i=j
        · subst hij
          have:=hpl k hk'
          have hki:i≠k:=by have:=hpre i hil k hk';omega
          rw[getD_set_ne true hki];exact this
        · rw[getD_set_ne true hij] at hl
          have:=hdn j hj hl k hk'
          by_cases hik:i=k
          · subst hik;rw[hu] at this;cases this
          · rw[getD_set_ne true hik];exact this
      · intro j hj hjl
        rw[getD_set_ne true (by omega)]
        exact ht j hj hjl
     have hDu:(fun j=>listed.getD j true) i=false:=hu
     have gs:=(hs0 (fun j=>listed.getD j true) γ).out _ _ _ g
     have run:runX P ops n op ty (kpre (geny γ 0 es) K (zW ops i)) Hs HF γ i x→EOp P op ty (zQ a) w' (fun v w''=>wpAny P .any ops.toArray (fun e a' w'=>Ok N a'∧∃ F',Q e (zQ a') w' F') fuel (listed.setIfInBounds i true) (a.put o.dst v) w''):=by
      intro hrun
      cases x with
      | q d=>
       obtain ⟨hrun,hf⟩:=hrun
       refine(Qu.out hrun _ w' F' hkp g.flt gs.h.ok).mono ?_
       rintro v w'' ⟨E,hrep⟩
       rw[←hf] at g
       obtain ⟨g',kp⟩:=Good.fn g E
       exact after γ v w'' _ (fun _ _ _ _ _=>rfl) g' kp (fun _=>hrep)
      | s=>
       refine((hrun _ hDu hdn hpl).out C _ w' F' hkp g).mono ?_
       rintro v w'' ⟨F'',d',H'',rfl,hrep,g',kp⟩
       refine after γ v w'' F'' (fun _ _ _ _ _=>rfl) g' kp (fun ht'=>?_)
       rcases hdx with ⟨_,e⟩ | ⟨e,_,_⟩
       · cases e
       · rw[e] at ht';cases ht'
      | e d=>
       refine((hrun _ hDu hdn hpl).out C _ w' F' hkp g).mono ?_
       rintro v w'' ⟨F'',d',H'',⟨rfl,rfl⟩,hrep,g',kp⟩
       exact after γ v w'' F'' (fun _ _ _ _ _=>rfl) g' kp (fun _=>hrep)
      | f m=>
       refine((hrun _ hDu hdn hpl).out C _ w' F' hkp g).mono ?_
       rintro v w'' ⟨F'',d',H'',⟨vv,rfl,rfl⟩,hrep,g',kp⟩
       refine after (ug γ i vv) v w'' F'' (fun j t' x' hj _=>?_) g' kp ?_
       · cases x' with
         | q _=>rfl
         | e _=>rfl
         | s=>rfl
         | f _=>simp only[Ey.d,ug_ne γ vv hj]
       · intro _;simp only[Ey.d,ug_self];exact hrep
     unfold wpOp
     rw[o1]
     simp only
     rw[if_pos (by unfold Region.wanted;rw[o5])]
     left
     apply zdj
     rw[o3,o4]
     exact run h3
 have gd:=(Good.fn g (Ext.drew w)).1
 have hkd:=hk.keep (Good.fn g (Ext.drew w)).2
 have hz:∀ i,i<n→(Array.replicate ops.toArray.size false).getD i true=false:=fun i hi=>by
  have:i<ops.length:=by omega
  simp[this]
 refine key ops.toArray.size (Array.replicate ops.toArray.size false) (fun _=>undef) a _ _ (by simp) ?_ ok hkd (by rw[h0 _ _ hz];exact gd) (fun i t x hi hl=>?_) (fun i hi hl=>?_) (fun i _ hi=>?_)
 · unfold cnt
   refine Nat.le_trans (List.countP_le_length) (by simp)
 · rw[hz i hi] at hl;cases hl
 · rw[hz i hi] at hl;cases hl
 · simp[hi]
variable {a s:Nat} {A B:Gh→Hp} {H:List Hp}
theorem Ef.post {op:Op} {ty:TypeId} {R R':D→List Hp→Prop} (h:Ef P op ty K H R) (hR:∀ d H',R d H'→∃ H'',HSub H' H''∧R' d H''):Ef P op ty K H R':=
 ⟨fun C ρ w F hk g=>(h.out C ρ w F hk g).mono (by
  rintro v w' ⟨F',d',H',r,hrep,g',kp⟩
  obtain ⟨H'',s,r'⟩:=hR d' H' r
  exact⟨F',d',H'',r',hrep,s.out _ _ _ g',kp⟩)⟩
def HF5 (a c:Nat) (B:Gh→Hp) (T T' R:List Hp):HFn:=fun D γ=>(bif D a then [B γ] else [])++((bif D c then T' else T)++R)
variable {c:Nat} {T T' R:List Hp}
theorem hf5_0 (ha:Nat.blt a n=true) (hc:Nat.blt c n=true) (γ:Gh) (D:Nat→Bool) (h:∀ i,i<n→D i=false):HF5 a c B T T' R D γ=T++R:=by
 unfold HF5;rw[h _ (zaC.1 hc),h _ (zaC.1 ha)];rfl
theorem hf5_n (ha:Nat.blt a n=true) (hc:Nat.blt c n=true) (γ:Gh) (D:Nat→Bool) (h:∀ i,i<n→D i=true):HF5 a c B T T' R D γ=B γ::(T'++R):=by
 unfold HF5;rw[h _ (zaC.1 hc),h _ (zaC.1 ha)];rfl
theorem zfs (h1:Nat.beq a k=false) (h2:Nat.beq c k=false) (D:Nat→Bool):HF5 a c B T T' R (ub D k) γ=HF5 a c B T T' R D γ:=by
 unfold HF5 ub;rw[h1,h2];rfl
theorem hf5_s (D:Nat→Bool) (γ:Gh):HSub (HF5 a c B T T' R D γ) R:=HSub.less ((List.sublist_append_right _ _).trans (List.sublist_append_right _ _))
theorem sx_c5 {t:Tmp} {d:D} {op:Op} {ty:TypeId} (he:nth es c=some (t,.e d)) (ho:opAt ops c=some (some t,op,ty,none)) {pre:List Nat} (hp:zW ops c=pre) (h1:Nat.beq a c=false)
 (h:∀ R,Ef P op ty (kpre (geny γ 0 es) K pre) (T++R) (fun d' H''=>d'=d∧H''=T'++R)):StepX P N n ops K Hs (HF5 a c B T T' R) γ es c:=
 sx_e he ho hp (fun D hk hD hpr=>by
  unfold HF5 ub;rw[h1,Nat.beq_refl,hk]
  cases D a with
  | false=>exact h R
  | true=>
   refine Ef.post (Ef.preH (HSub.perm (List.perm_middle (l₁:=T) (a:=B γ) (l₂:=R)).symm) (h (B γ::R))) ?_
   rintro _ _ ⟨rfl,rfl⟩
   exact⟨_,HSub.perm (List.perm_middle (l₁:=T') (a:=B γ) (l₂:=R)),O,O⟩)
theorem sx_a5 {t:Tmp} {op:Op} {ty:TypeId} {m:Value→D} (he:nth es a=some (t,.f m)) (ho:opAt ops a=some (some t,op,ty,none)) {pre:List Nat} (hp:zW ops a=pre) (h1:Nat.beq c a=false)
 (h:∀ H,Ef P op ty (kpre (geny γ 0 es) K pre) H (fun d' H''=>∃ v,d'=m v∧H''=B (ug γ a v)::H)):StepX P N n ops K Hs (HF5 a c B T T' R) γ es a:=
 sx_f he ho hp (fun D hk hD hpr=>by
  unfold HF5 ub;rw[hk,h1,Nat.beq_refl]
  exact h _)
def HFr (c:Nat) (A:Gh→Hp) (B:Hp) (F:HFn):HFn:=fun D γ=>(bif D c then A γ else B)::F D γ
def HFb (R:List Hp):HFn:=fun _ _=>R
variable {B':Hp} {F:HFn} {X:List Hp} {X':Gh→List Hp}
theorem hr0 (hc:Nat.blt c n=true) (hF:∀ γ (D:Nat→Bool),(∀ i,i<n→D i=false)→F D γ=X) (γ:Gh) (D:Nat→Bool) (h:∀ i,i<n→D i=false):HFr c A B' F D γ=B'::X:=by
 unfold HFr;rw[h _ (zaC.1 hc),hF γ D h];rfl
theorem hrn (hc:Nat.blt c n=true) (hF:∀ γ (D:Nat→Bool),(∀ i,i<n→D i=true)→F D γ=X' γ) (γ:Gh) (D:Nat→Bool) (h:∀ i,i<n→D i=true):HFr c A B' F D γ=A γ::X' γ:=by
 unfold HFr;rw[h _ (zaC.1 hc),hF γ D h];rfl
theorem hrq (h1:Nat.beq c k=false) (hF:∀ D,F (ub D k) γ=F D γ) (D:Nat→Bool):HFr c A B' F (ub D k) γ=HFr c A B' F D γ:=by
 unfold HFr;rw[hF D];unfold ub;rw[h1];rfl
theorem hrs (hF:∀ D γ,HSub (F D γ) R) (D:Nat→Bool) (γ:Gh):HSub (HFr c A B' F D γ) R:=HSub.trans (HSub.less (List.sublist_cons_self _ _)) (hF D γ)
theorem sx_r0 {t:Tmp} {op:Op} {ty:TypeId} {m:Value→D} (he:nth es c=some (t,.f m)) (ho:opAt ops c=some (some t,op,ty,none)) {pre:List Nat} (hp:zW ops c=pre) (hF:∀ D v,F (ub D c) (ug γ c v)=F D γ)
 (h:∀ X,Ef P op ty (kpre (geny γ 0 es) K pre) (B'::X) (fun d' H''=>∃ v,d'=m v∧H''=A (ug γ c v)::X)):StepX P N n ops K Hs (HFr c A B' F) γ es c:=
 sx_f he ho hp (fun D hk hD hpr=>by
  unfold HFr;rw[hk]
  refine Ef.post (h (F D γ)) ?_
  rintro d' H'' ⟨v,e1,rfl⟩
  exact⟨_,HSub.rfl',v,e1,by rw[hF];unfold ub;rw[Nat.beq_refl];rfl⟩)
theorem sx_r1 {c2:Nat} {A2:Gh→Hp} {B2:Hp} {t:Tmp} {op:Op} {ty:TypeId} {m:Value→D} (he:nth es c2=some (t,.f m)) (ho:opAt ops c2=some (some t,op,ty,none)) {pre:List Nat} (hp:zW ops c2=pre) (h1:Nat.beq c c2=false) (hA:∀ v,A (ug γ c2 v)=A γ) (hF:∀ D v,F (ub D c2) (ug γ c2 v)=F D γ)
 (h:∀ X,Ef P op ty (kpre (geny γ 0 es) K pre) (B2::X) (fun d' H''=>∃ v,d'=m v∧H''=A2 (ug γ c2 v)::X)):StepX P N n ops K Hs (HFr c A B' (HFr c2 A2 B2 F)) γ es c2:=
 sx_f he ho hp (fun D hk hD hpr=>by
  unfold HFr;rw[hk]
  refine Ef.post (Ef.preH (HSub.perm (List.Perm.swap _ _ _)) (h ((bif D c then A γ else B')::F D γ))) ?_
  rintro d' H'' ⟨v,e1,rfl⟩
  exact⟨_,HSub.perm (List.Perm.swap _ _ _),v,e1,by rw[hF,hA];unfold ub;rw[h1,Nat.beq_refl];rfl⟩)
end
end Lp
set_option linter.unusedVariables false
namespace Lp
open Go Go.RowKit
section
variable {P:Program} {N:Nat} {C:Ctx} {c:Code} {K:Kd} {H:List Hp} {Q:zbr}
end
section
variable {P:Program} {ty:TypeId} {K:Kd} {H:List Hp}
theorem p_makeFunc {f:FuncId} {xs ys:Array Operand} {ds es:List D} (hx:opsD K xs.toList=some ds) (hy:opsD K ys.toList=some es):Pu P (.makeFunc (.func f) xs ys) ty K H (.fn f ds es):=
 ⟨fun ρ w F hk _ _=>by
  have h1:=zcc hk hx
  have h2:=zcc hk hy
  refine EOp.of_run (v:=.func (.func f) (xs.map (ev ρ)) (ys.map (ev ρ))) (w':=w) ?_ ⟨O,xs.toList.map (ev ρ),ys.toList.map (ev ρ),?_,h1,h2⟩
  · simp[execOp,Instr.makeFunc,Sem.run_pure,zY]
  · congr 1<;>(apply Array.ext';simp)⟩
end
end Lp
set_option linter.unusedVariables false
namespace Lp
open Go Go.RowKit
theorem Qu.ef {P:Program} {op:Op} {ty:TypeId} {K:Kd} {H:List Hp} {d:D} (h:Qu P op ty K H d):Ef P op ty K H (fun d' H'=>d'=d∧H'=H):=⟨fun C ρ w F hk g=>(h.out ρ w F hk g.flt g.h.ok).mono fun u w' ⟨E,hr⟩=>by
 obtain ⟨g',k⟩:=g.fn E
 exact⟨_,d,H,⟨O,O⟩,hr,g',k⟩⟩
section
variable {P:Program} {ty:TypeId} {K:Kd} {H:List Hp}
end
section
variable {P:Program} {ty:TypeId} {K:Kd} {H:List Hp} {α:Type} {f:α→D}
end
end Lp
set_option linter.unusedVariables false
namespace Lp
open Go Go.RowKit
variable {P:Program} {ty:TypeId} {K:Kd} {H:List Hp}
structure K2 (α:Type) where
 v0:Value
 v:Value
 m:Nat
 l:List α
end Lp
set_option linter.unusedVariables false
namespace Lp
open Go Go.RowKit
def scopeOf:Code→Bool | .scope _=>true | _=>false
def qscope (Q:zbr):zbr
 | .goto _,_,_,_=>False
 | e,ρ,w,F=>Q e ρ w F
section
variable {P:Program} {N:Nat} {C:Ctx} {K:Kd} {H:List Hp} {Q:zbr} {c:Code} {p:List Bool}
theorem jd_scope (pa:List Bool) (hk:scopeOf (cd c p)=true) (ha:p++[false]=pa) (h:JD P N C (cd c pa) K H (qscope Q)):JD P N C (cd c p) K H Q:=by
 subst ha
 rw[zet] at h
 cases hc:cd c p<;>rw[hc] at hk h<;>simp[scopeOf] at hk
 simp only[cd,zeS] at h
 refine⟨fun a w F ok hk g=>wp_scope_straight (wp_mono (h.out a w F ok hk g) ?_)⟩
 rintro e a' w' ⟨ok',F',hq⟩
 cases e with
 | normal=>exact⟨ok',F',hq⟩
 | exit id=>exact⟨ok',F',hq⟩
 | goto l=>exact hq.elim
 | ret=>exact⟨ok',F',hq⟩
 | panic ch=>exact⟨ok',F',hq⟩
 | outgrown=>exact⟨ok',F',hq⟩
end
end Lp
