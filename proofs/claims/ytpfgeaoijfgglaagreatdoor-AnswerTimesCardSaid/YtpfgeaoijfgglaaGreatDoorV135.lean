import Derived.Test.YtpfgeaoijfgglaaGreatDoorV21
set_option linter.unusedVariables false
namespace Lp
open Go Go.RowKit Go.Proofs Tryz
def kz (ops:List Oper) (z t0:Nat) (d0:D) (K:Kd) (k:Nat):Kd:=match has (zM ops z) k with
 | true=>(t0,d0)::K
 | false=>K
section
variable {P:Program} {N n:Nat} {ops:List Oper} {K:Kd} {Hs:List Hp} {HF:HFn} {γ:Gh} {es:List (Tmp×Ey)} {k:Nat}
def zeD (P:Program) (N n:Nat) (ops:List Oper) (z t0:Nat) (d0:D) (K:Kd) (Hs:List Hp) (HF:HFn) (γ:Gh) (es:List (Tmp×Ey)):Nat->Nat->Prop
 | _,0=>True
 | k,todo+1=>StepX P N n ops (kz ops z t0 d0 K k) Hs HF γ es k/\zeD P N n ops z t0 d0 K Hs HF γ es (k+1) todo
theorem zeD.get {z t0:Nat} {d0:D}:∀ (todo k:Nat),zeD P N n ops z t0 d0 K Hs HF γ es k todo->∀ i,k<=i->i<k+todo->StepX P N n ops (kz ops z t0 d0 K i) Hs HF γ es i
 | 0,k,_,i,h1,h2=>by omega
 | todo+1,k,⟨h,hr⟩,i,h1,h2=>by
  rcases dE k i with h3 | h3
  · exact zeD.get todo (k+1) hr i h3 (by omega)
  have:i=k:=by omega
  subst this;exact h
theorem jd_drawz {C:Ctx} {c:Code} {H:List Hp} {Q:za3} (n z t0:Nat) (d0:D) (es:List (Tmp×Ey)) (Hs:List Hp) (HF:HFn) (Hn:Gh->List Hp) (hm:P.follows .mixedOrders=true) (hc:zcc c=some true) (hlen:Nat.beq es.length n=true) (hB:zdS (zav c) n N (K.map λx=>(x.1,Value.nilFunc))=true) (hs0:∀ D γ,HSub (HF D γ) Hs)
 (h0:∀ γ (D:Nat->Bool),(∀ i,i<n->D i=false)->HF D γ=H) (hHn:∀ γ (D:Nat->Bool),(∀ i,i<n->D i=true)->HF D γ=Hn γ)
 (hz:Nat.blt z n=true) (hzd:zR (zav c) z=some t0) (hsteps:∀ γ,zeD P N n (zav c) z t0 d0 K Hs HF γ es 0 n) (next:∀ γ,OpsD P N C (zav c) n (enK (geny γ 0 es) K) (Hn γ) (λρ w F=>Q .normal ρ w F)):JD P N C c ((t0,d0)::K) H Q:=by
 cases c<;>simp[zcc] at hc
 rename_i id opsA draw;subst hc;simp only[zav] at hB hsteps next hzd
 generalize hops:opsA.toList=ops at hB hsteps next hzd
 have hA:opsA=ops.toArray:=by rw[<-hops]
 subst hA;have hlen:=dU hlen;unfold zdS at hB;simp only[c7] at hB;obtain ⟨⟨hback,htail⟩,hfresh⟩:=hB;unfold freshB' at hfresh;simp only[c7] at hfresh;obtain ⟨hnl,hfr⟩:=hfresh;have hnl:=dM hnl;rw[dJ] at hfr;have hpre:∀ k,k<ops.length->∀ j∈zM ops k,j<k:=by
  intro k hk j hj;unfold zew at hback;rw[dJ] at hback;have:=hback k (dX.2 hk);rw[dJ] at this;exact zax.1 (this j hj)
 have hzn:=zax.1 hz;have hstep:∀ γ i,i<n->StepX P N n ops (kz ops z t0 d0 K i) Hs HF γ es i:=λγ i hi=>zeD.get n 0 (hsteps γ) i (c6 _) (by omega)
 have hd:∀ i t,i<n->zR ops i=some t->Nat.blt t N=true/\zE K t=none/\∀ j,j<i->zR ops j≠some t:=by
  intro i t hi hdst;have hf:=hfr i (dX.2 hi);rw[hdst] at hf;simp only[c7,uJ] at hf;refine⟨hf.1.1,lookD_keys hf.1.2,λj hj=>?_⟩;have:=hf.2;rw[dJ] at this;have:=this j (dX.2 hj);simpa using this
 have hdn2:∀ i,i<n->∀ t x,nth es i=some (t,x)->(zR ops i=some t/\x.isS=false)\/(zR ops i=none/\Nat.ble N t=true/\x.isS=true):=by
  intro i hi t x hn;obtain ⟨t',x',dst,op,ty,h1,h2,h3,_⟩:=(hstep (λ_=>undef) i hi).out;rw[hn] at h1;cases h1;have hdst:zR ops i=dst:=by
   obtain ⟨o,q1,q2,_⟩:=zaD h2;have:nth ops i=some o:=(by rw[zaw];simpa using q1);simp[zR,this,q2]
  rw[hdst];exact h3
 have hne:∀ i j t,i<n->j<n->i≠j->zR ops i=some t->zR ops j=some t->False:=by
  intro i j t hi hj hij h1 h2;rcases vI hij with hlt | hlt
  · exact(hd j t hj h2).2.2 i hlt h1
  exact(hd i t hi h1).2.2 j hlt h2
 have hfar:∀ (a:Act),Ok N a->∀ t,Nat.ble N t=true->zC a t=undef:=by
  intro a ok t ht;have ht:=dM ht;simp only[zC,jB];rw[u5 (by rw[ok.1];exact ht)];rfl
 have ht0:zE K t0=none:=(hd z t0 hzn hzd).2.1;refine⟨λa w F ok hk1 g=>?_⟩;have hk:KOk w F (zC a) K:=λs d hs=>hk1 s d (by
  have:s≠t0:=by rintro rfl;rw[ht0] at hs;cases hs
  simp only[zE,za9 this,cond_false];exact hs)
 have hd0:D.rep w F d0 (zC a t0):=hk1 t0 d0 (by simp only[zE,jR,cond_true]);apply wp_region_any hm;have final:∀ (γ:Gh) (B:Nat->Bool) (a:Act) (w':World) (F':Nat->Prop),Ok N a->KOk w' F' (zC a) K->Good C (HF B γ) w' F'->(∀ i,i<n->B i=true)->(∀ i t x,i<n->nth es i=some (t,x)->D.rep w' F' (x.d γ i) (zC a t))->
  wpOps P ops.toArray (λe a' w'=>Ok N a'/\∃ F',Q e (zC a') w' F') (List.range' n (ops.length-n)) a w':=by
  intro γ B a w' F' ok hk g hD hrep;rw[hHn γ B hD] at g;have hK:=zfi (geny γ 0 es) K hk (λj t d e hj=>by
   obtain ⟨x,x1,x2⟩:=zdK γ es 0 j t d e hj;rw[dY] at x2;subst x2;exact hrep j t x (by rw[zaw] at x1;rw[<-hlen];exact(dA.1 x1).1) x1)
  refine zay ?_ _ _ _ ((next γ).out a w' F' ok hK g);rintro e a' w'' ⟨rfl,h1,h2⟩;exact⟨h1,h2⟩
 have key:∀ (fuel:Nat) (listed:Array Bool) (γ:Gh) (a:Act) (w':World) (F':Nat->Prop),listed.size=ops.length->cnt ops.length listed<=fuel->Ok N a->KOk w' F' (zC a) K->Good C (HF (λi=>listed.getD i true) γ) w' F'->
  (∀ i t x,i<n->listed.getD i true=true->nth es i=some (t,x)->D.rep w' F' (x.d γ i) (zC a t))->(∀ i,i<n->listed.getD i true=true->∀ j∈zM ops i,listed.getD j true=true)->(∀ i,n<=i->i<ops.length->listed.getD i true=false)->(listed.getD z true=false->D.rep w' F' d0 (zC a t0))->
  wpAny P .any ops.toArray (λe a' w'=>Ok N a'/\∃ F',Q e (zC a') w' F') fuel listed a w':=by
  intro fuel
  induction fuel with
  | zero=>
   intro listed γ a w' F' hs hcnt ok hk g hh hdn ht hz0;have hall:∀ i,i<ops.length->listed.getD i true=true:=by
    intro i hi;cases hc:listed.getD i true with
    | true=>rfl
    | false=>have:=zdt hi hs hc;omega
   have hn:ops.length=n:=by
    rcases dE n ops.length with h' | h'
    · have h1:=ht n (dC _) h';rw[hall n h'] at h1;cases h1
    omega
   refine zbl (n:=n) hback htail 0 n listed a w' (by omega) (dC _) hnl hs (λi hi=>by rw[hall i hi];simp;omega) ?_ 0 (by omega);exact final γ _ a w' F' ok hk g (λi hi=>hall i (by omega)) (λi t x hi hn=>hh i t x hi (hall i (by omega)) hn)
  | succ fuel ih=>
   intro listed γ a w' F' hs hcnt ok hk g hh hdn ht hz0;by_cases hall:∀ i,i<n->listed.getD i true=true
   · refine zbl (n:=n) hback htail (ops.length-n) n listed a w' O (dC _) hnl hs (λi hi=>?_) ?_ (fuel+1) ?_
     · rcases dE i n with h' | h'
       · rw[hall i h'];simp[h']
       rw[ht i h' hi];simp;omega
     · exact final γ _ a w' F' ok hk g hall (λi t x hi hn=>hh i t x hi (hall i hi) hn)
     refine jA ?_ hcnt;unfold cnt;have hsplit:List.range ops.length=List.range n++List.range' n (ops.length-n):=by
      rw[jU,jU];have:=@List.range'_append 0 n (ops.length-n) 1;simp only[vF,dY] at this;rw[this];congr 1;omega
     rw[hsplit,uN];have:(List.range' n (ops.length-n)).countP (λi=>!listed.getD i true)=ops.length-n:=by
      rw[u7.2]
      · simp
      intro i hi;have:=vO.1 hi;rw[ht i (by omega) (by omega)];rfl
     omega
   obtain ⟨i0,hi0⟩:=Classical.not_forall.1 hall;obtain ⟨hi0n,hi0u⟩:=Classical.not_imp.1 hi0;have hi0u:listed.getD i0 true=false:=(by cases hx:listed.getD i0 true with | false=>rfl | true=>exact absurd hx hi0u);refine⟨λhe=>absurd he (zc8 hs hback i0 (by omega) hi0u),λi hi=>?_⟩;obtain ⟨hu,hil,hps⟩:=zcn.1 hi;have hin:i<n:=by
    rcases dE i n with h' | h'
    · exact h'
    exfalso;have hpm:i0∈ancS ops i (zM ops i):=by
     have ht':=htail;unfold ze2 at ht';rw[dJ] at ht';have:=ht' i (dX.2 hil);rw[jZ] at this;rcases this with h'' | h''
     · have:=zax.1 h'';omega
     rw[dJ] at h'';exact zcH (h'' i0 (dX.2 (by omega)))
    have:=zdo (p:=λj=>j<ops.length/\listed.getD j true=true) (λk hk j hj=>by
     have hkn:k<n:=by
      rcases dE k n with hh | hh
      · exact hh
      have:=ht k hh hk.1;rw[hk.2] at this;cases this
     exact⟨by have:=hpre k hk.1 j hj;omega,hdn k hkn hk.2 j hj⟩) i _ (λj hj=>by
     have hjl:j<ops.length:=(by have:=hpre i hil j hj;omega);exact⟨hjl,by rw[zcw hs hjl];exact hps j hj⟩) i0 hpm
    rw[hi0u] at this;cases this.2
   obtain ⟨t,x,dst,op,ty,h1,h2,hdx,h3⟩:=(hstep γ i hin).out;have hdst:zR ops i=dst:=by
    obtain ⟨o,q1,q2,_⟩:=zaD h2;have:nth ops i=some o:=(by rw[zaw];simpa using q1);simp[zR,this,q2]
   have hpl:∀ j∈zM ops i,listed.getD j true=true:=λj hj=>by
    have hjl:j<ops.length:=(by have:=hpre i hil j hj;omega);rw[zcw hs hjl];exact hps j hj
   have hkz:KOk w' F' (zC a) (kz ops z t0 d0 K i):=by
    unfold kz;split
    · rename_i hpz;have hzl:listed.getD z true=false:=by
       cases e:listed.getD z true with
       | false=>rfl
       | true=>have:=hdn z hzn e i (has_mem hpz);rw[hu] at this;cases this
      intro s d hs;by_cases e:s=t0
      · subst e;simp only[zE,jR,cond_true,dD] at hs;subst hs;exact hz0 hzl
      simp only[zE,za9 e,cond_false] at hs;exact hk s d hs
    exact hk
   have hkp:KOk w' F' (zC a) (kpre (geny γ 0 es) (kz ops z t0 d0 K i) (zM ops i)):=zeL hkz _ (λj hj t' d' e' hn'=>by
    obtain ⟨y,y1,y2⟩:=zdK γ es 0 j t' d' e' hn';rw[dY] at y2;subst y2;exact hh j t' y (by have:=hpre i hil j hj;omega) (hpl j hj) y1)
   obtain ⟨o,o1,o2,o3,o4,o5⟩:=zaD h2;have hdok:dok N dst=true:=by
    cases hds:dst with
    | none=>rfl
    | some t'=>exact(hd i t' hin (by rw[hdst,hds])).1
   have hub:=set_ub (l:=listed) (i:=i) (by omega);have after:∀ (γ':Gh) v w'' F'',(∀ j t' x',j≠i->nth es j=some (t',x')->x'.d γ' j=x'.d γ j)->Good C (HF (ub (λj=>listed.getD j true) i) γ') w'' F''->Keep w' F' w'' F''->(dst=some t->D.rep w'' F'' (x.d γ' i) v)->
    wpAny P .any ops.toArray (λe a' w'=>Ok N a'/\∃ F',Q e (zC a') w' F') fuel (listed.setIfInBounds i true) (a.put o.dst v) w'':=by
    intro γ' v w'' F'' hoth g' kp hv;have henv:zC (a.put o.dst v)=upd (zC a) dst v:=(by rw[o2];exact zbW ok hdok v);rw[<-hub] at g';refine ih _ γ' _ _ F'' (by simp[hs]) ?_ (ok.put _ _) ?_ g' ?_ ?_ ?_ ?_
    · have:=zdt hil hs hu;omega
    · rw[henv];cases hds:dst with
      | none=>exact hk.keep kp
      | some t'=>exact(hk.keep kp).other (hd i t' hin (by rw[hdst,hds])).2.1
    · intro j t' x' hj hl hn';rw[henv];rcases hdn2 j hj t' x' hn' with ⟨e1,e2⟩ | ⟨e1,e2,e3⟩
      · by_cases hij:i=j
        · subst hij;rw[h1] at hn';cases hn';rw[hdst] at e1;subst e1;simpa [upd] using hv rfl
        rw[getD_set_ne true hij] at hl;have hkeep:upd (zC a) dst v t'=zC a t':=by
         cases hds:dst with
         | none=>rfl
         | some t2=>
          have:t'≠t2:=(by rintro rfl;exact hne i j t' hin hj hij (by rw[hdst,hds]) e1);simp only[upd,this,if_false]
        rw[hkeep,hoth j t' x' (λe=>hij e.symm) hn'];exact D.keep kp _ _ (hh j t' x' hj hl hn')
      rw[<-henv];have:x'.d γ' j=.v undef:=(by cases x'<;>simp[Ey.isS] at e3;rfl);rw[this];exact hfar _ (ok.put _ _) t' e2
    · intro j hj hl k hk';by_cases hij:i=j
      · subst hij;have:=hpl k hk';have hki:i≠k:=(by have:=hpre i hil k hk';omega);rw[getD_set_ne true hki];exact this
      rw[getD_set_ne true hij] at hl;have:=hdn j hj hl k hk';by_cases hik:i=k
      · subst hik;rw[hu] at this;cases this
      rw[getD_set_ne true hik];exact this
    · intro j hj hjl;rw[getD_set_ne true (by omega)];exact ht j hj hjl
    intro hl;by_cases hiz:i=z
    · subst hiz;rw[show (listed.setIfInBounds i true).getD i true=true from by simp[show i<listed.size by omega]] at hl;cases hl
    rw[getD_set_ne true hiz] at hl;rw[henv];have hkeep:upd (zC a) dst v t0=zC a t0:=by
     cases hds:dst with
     | none=>rfl
     | some t2=>
      have:t0≠t2:=(by rintro rfl;exact hne i z t0 hin hzn hiz (by rw[hdst,hds]) hzd);simp only[upd,this,if_false]
    rw[hkeep];exact D.keep kp _ _ (hz0 hl)
   have hDu:(λj=>listed.getD j true) i=false:=hu;have gs:=(hs0 (λj=>listed.getD j true) γ).out _ _ _ g;have run:runX P ops n op ty (kpre (geny γ 0 es) (kz ops z t0 d0 K i) (zM ops i)) Hs HF γ i x->EOp P op ty (zC a) w' (λv w''=>wpAny P .any ops.toArray (λe a' w'=>Ok N a'/\∃ F',Q e (zC a') w' F') fuel (listed.setIfInBounds i true) (a.put o.dst v) w''):=by
    intro hrun;cases x with
    | q d=>
     obtain ⟨hrun,hf⟩:=hrun;refine(Qu.out hrun _ w' F' hkp g.flt gs.h.ok).mono ?_;rintro v w'' ⟨E,hrep⟩;rw[<-hf] at g;obtain ⟨g',kp⟩:=Good.fn g E;exact after γ v w'' _ (λ_ _ _ _ _=>rfl) g' kp (λ_=>hrep)
    | s=>
     refine((hrun _ hDu hdn hpl).out C _ w' F' hkp g).mono ?_;rintro v w'' ⟨F'',d',H'',rfl,hrep,g',kp⟩;refine after γ v w'' F'' (λ_ _ _ _ _=>rfl) g' kp (λht'=>?_);rcases hdx with ⟨_,e⟩ | ⟨e,_,_⟩
     · cases e
     rw[e] at ht';cases ht'
    | e d=>
     refine((hrun _ hDu hdn hpl).out C _ w' F' hkp g).mono ?_;rintro v w'' ⟨F'',d',H'',⟨rfl,rfl⟩,hrep,g',kp⟩;exact after γ v w'' F'' (λ_ _ _ _ _=>rfl) g' kp (λ_=>hrep)
    | f m=>
     refine((hrun _ hDu hdn hpl).out C _ w' F' hkp g).mono ?_;rintro v w'' ⟨F'',d',H'',⟨vv,rfl,rfl⟩,hrep,g',kp⟩;refine after (ug γ i vv) v w'' F'' (λj t' x' hj _=>?_) g' kp ?_
     · cases x' with
       | q _=>rfl
       | e _=>rfl
       | s=>rfl
       | f _=>simp only[Ey.d,zft γ vv hj]
     intro _;simp only[Ey.d,ug_self];exact hrep
   unfold wpOp;rw[o1];simp only;rw[if_pos (by unfold Region.wanted;rw[o5])];left;apply zbR;rw[o3,o4];exact run h3
 have gd:=(Good.fn g (Ext.drew w)).1;have hkd:=hk.keep (Good.fn g (Ext.drew w)).2;have hzz:∀ i,i<n->(Array.replicate ops.toArray.size false).getD i true=false:=λi hi=>by
  have:i<ops.length:=by omega
  simp[this]
 refine key ops.toArray.size (Array.replicate ops.toArray.size false) (λ_=>undef) a _ _ (by simp) ?_ ok hkd (by rw[h0 _ _ hzz];exact gd) (λi t x hi hl=>?_) (λi hi hl=>?_) (λi _ hi=>?_) (λ_=>D.keep (Good.fn g (Ext.drew w)).2 _ _ hd0)
 · unfold cnt;refine jA (u9) (by simp)
 · rw[hzz i hi] at hl;cases hl
 · rw[hzz i hi] at hl;cases hl
 simp[hi]
end
section
variable {P:Program} {fn:Func} {C:Ctx} {κ:Kc} {K:Kd} {H:List Hp} {p:List Bool}
theorem tDz (n z t0:Nat) (d0:D) (es:List (Tmp×Ey)) (Hs:List Hp) (HF:HFn) (Hn:Gh->List Hp) (hm:P.follows .mixedOrders=true) (hc:zcc (cd (zai fn) p)=some true) (hlen:Nat.beq es.length n=true) (hB:zdS (zav (cd (zai fn) p)) n fn.ntmps (K.map λx=>(x.1,Value.nilFunc))=true) (hs0:∀ D γ,HSub (HF D γ) Hs)
 (h0:∀ γ (D:Nat->Bool),(∀ i,i<n->D i=false)->HF D γ=H) (hHn:∀ γ (D:Nat->Bool),(∀ i,i<n->D i=true)->HF D γ=Hn γ) (hz:Nat.blt z n=true) (hzd:zR (zav (cd (zai fn) p)) z=some t0)
 (hsteps:∀ γ,zeD P fn.ntmps n (zav (cd (zai fn) p)) z t0 d0 K Hs HF γ es 0 n) (next:∀ γ,T P fn C (.o p n) κ (enK (geny γ 0 es) K) (Hn γ)):T P fn C (.c p) κ ((t0,d0)::K) H:=⟨jd_drawz n z t0 d0 es Hs HF Hn hm hc hlen hB hs0 h0 hHn hz hzd hsteps λγ=>(next γ).out⟩
end
end Lp
set_option linter.unusedSimpArgs false
set_option maxHeartbeats 4000000
set_option maxRecDepth 100000
namespace Lp
open Go Go.RowKit Go.Proofs Tryz
theorem bd_55:BdP prog #[⟨"l",27,0,false, "", "leporello/store",0⟩] [(0,1)]:=λ_=>by kernel_rfl
theorem fa_43_1:FaP prog 43 1 1:=λ_ _ _=>by kernel_rfl
theorem fa_43_2:FaP prog 43 2 2:=λ_ _ _=>by kernel_rfl
theorem fa_43_3:FaP prog 43 3 3:=λ_ _ _=>by kernel_rfl
theorem und_28:Tryz.prog.underlying 28=some (.slice 81):=by kernel_rfl
theorem at0_c (key:List Lbl) :
 CD prog 45 [] [.sh 2 (([]:List SerD).map SerD.d),.sh 2 (key.map Lbl.d)] (isR (.tup [dN 0,dB false])):=by
 refine tZ func45 O O (λC=>?_);refine T.bd 0 O (λbd0=>?_);have nl0:=zz bd0;refine T.bd 1 O (λbd1=>?_);have nl1:=zz bd1;have hl0:([]:List SerD).length=0:=rfl;refine g' 13 O (tl1 (λ(a_:Nat)=>[(0,.sh 2 (([]:List SerD).map SerD.d)),(1,.sh 2 (key.map Lbl.d)),(4,dI 0),(5,dB false),(6,dN a_)]) (λa_=>[]) (λa_=>(a_=0)) (λa_=>0) 0 O (sa O) wV O ?_);rintro k hk;refine g' 2 O ?_;by_cases hg1:((k:Nat):Int)<((([]:List SerD).length:Nat):Int)
 · refine g' 3 O (tP O (zF (n:=([]:List SerD).length) O runUnderlying28 (by simp only[lm,lc,ln])) (tP O (zan O O (decide_eq_true hg1)) (g' 3 O ?_)));obtain ⟨x1,hx1⟩:=zj ([]:List SerD) k (by omega);refine tG O (zh (k:=k) O O runUnderlying28 sizeOf81 (by first | rfl | omega) (ze hx1)) (g' 3 O (tW O acs (refCompare_c x1.ls key) (g' 4 O ?_)));refine tD O (λhc2=>?_) (λhc2=>?_)
   · exfalso;omega
   refine g' 10 O (tP O (zF (n:=([]:List SerD).length) O runUnderlying28 (by simp only[lm,lc,ln])) (tP O (zan O O (decide_eq_true hg1)) (g' 3 O (tG O (zh (k:=k) O O runUnderlying28 sizeOf81 (by first | rfl | omega) (ze hx1)) (g' 3 O (tW O acs (refCompare_c x1.ls key) (g' 7 O ?_)))))));exact tRs O results45 (.cons (zf (zc O) (wT (congrArg dN (by omega)))) (.cons (zf (zc O) (cB ((by omega)))) .nil)) O HSub.none ⟨O,O⟩
 refine g' 3 O (tP O (zF (n:=([]:List SerD).length) O runUnderlying28 (by simp only[lm,lc,ln])) (tP O (zan O O (decide_eq_false hg1)) (g' 23 O (tP O (zF (n:=([]:List SerD).length) O runUnderlying28 (by simp only[lm,lc,ln])) (tP O (zan O O (decide_eq_false hg1)) (g' 15 O ?_))))));exact tRs O results45 (.cons (zf (zc O) (wT (congrArg dN (by omega)))) (.cons (zc O) .nil)) O HSub.none ⟨O,O⟩
theorem refVal_c (v:Int) :
 CD prog 44 [] [dI v] (isR (dB (zW v))):=by
 refine tZ func44 O O (λC=>?_);refine g' 10 O ?_;refine tAnd 2 2 (c:=decide (v<=(1000000000000:Int))) O O O O O O (λhb1 nx2=>?_) ?_
 · have hf3:=of_decide_eq_true hb1;refine g' 2 O ?_;exact nx2 _ O O (kx 2 O O)
 refine g' 4 O ?_;exact tRs O results44 (.cons (zf (zc O) (cB ((by unfold zW;first | rfl | simp[*] | (simp_all;done))))) .nil) O HSub.none ⟨O,O⟩
theorem refGetL_c (l:List Lbl) (name:ByteArray) :
 CD prog 43 [] [.sh 2 (l.map Lbl.d),.s name] (isR (D.s (getL l name))):=by
 refine tZ func43 O O (λC=>?_);refine T.bd 0 O (λbd0=>?_);have nl0:=zz bd0;refine T.bd 1 O (λbd1=>?_);have sz1:name.size<=9223372036854775807:=bd1;refine g' 12 O (tl1 (λ(a_:Nat)=>[(0,.sh 2 (l.map Lbl.d)),(1,.s name),(5,dN a_)]) (λa_=>[]) (λa_=>(getL l name=getL (l.drop a_) name)) (λa_=>l.length-a_) 0 O (sa O) wV O ?_);rintro k hf;refine g' 5 O (tP O (zF (n:=l.length) O runUnderlying41 (by simp only[lm,lc,ln])) (g' 3 O ?_));refine tD O (λhc1=>?_) (λhc1=>?_)
 · refine g' 8 O ?_;obtain ⟨x1,hx1⟩:=zj l k (by omega);refine tP O (zh (k:=k) O O runUnderlying41 sizeOf40 (by first | rfl | omega) (ze hx1)) (g' 6 O ?_);refine tD O (λhc2=>?_) (λhc2=>?_)
   · refine g' 4 O (tP O (zh (k:=k) O O runUnderlying41 sizeOf40 (by first | rfl | omega) (ze hx1)) (g' 11 O ?_));exact tRs O results43 (.cons (zf (zc O) (wT (congrArg D.s (by exact getL_at hx1 hf hc2)))) .nil) O HSub.none ⟨O,O⟩
   refine g' 5 O (tP O (zy (c:=((k+1:Nat):Int)) O O (zk (by omega) (by omega))) (g' 2 O ?_));exact tp1 (k+1) (sa O) wV (getL_next hx1 hf hc2) (by omega)
 refine g' 11 O ?_;exact tRs O results43 (.cons (zf (zc O) ((cS).trans (wT (congrArg D.s (by exact getL_end (by omega) hf))))) .nil) O HSub.none ⟨O,O⟩
theorem put1_c (key:List Lbl) (t x:Int) (hr:zdQ key=true) (ht0:0<=t) (ht1:t<=1000000000) (hx:zW x=true) (hk:key.length<=1000000) (hz:∀ y∈key,y.n.size<=1000000):
 CD prog 24 [] [.sh 2 (([]:List SerD).map SerD.d),.sh 2 (key.map Lbl.d),dI t,dI x] (isR (.tup [(D.ls 2 SerD.d) [(⟨key,[⟨t,x⟩]⟩:SerD)],dI 0])):=by
 refine tZ func24 O O (λC=>?_);refine T.bd 0 O (λbd0=>?_);have nl0:=zz bd0;refine T.bd 1 O (λbd1=>?_);have nl1:=zz bd1;have hl0:([]:List SerD).length=0:=rfl;have hrk:zda key=true:=by unfold zdQ at hr;rw[c7] at hr;exact hr.1
 have hgk:¬getL key metB=ByteArray.empty:=by unfold zdQ at hr;rw[c7,decide_eq_true_eq] at hr;exact hr.2
 refine g' 10 O (tW O acs (refRight_c key hz) (g' 2 O ?_));refine tOr 3 3 (c:=decide ((getL key (⟨#[109,101,116,114,105,99]⟩:ByteArray))=ByteArray.empty)) O O O O O O (λhb1 nx2=>?_) ?_
 · have hf3:=notF hb1;refine g' 1 O (tW O (ga (.cons (ArgC.cv cS) .nil)) (refGetL_c key (⟨#[109,101,116,114,105,99]⟩:ByteArray)) (g' 1 O ?_));exact nx2 _ O O (kx 3 O O)
 refine g' 1 O ?_;refine tOr 8 2 (c:=decide (t<(0:Int))) O O O O O O (λhb4 nx5=>?_) ?_
 · obtain ⟨hf6,hf7⟩:=orF hb4;have hf8:=notF hf6;have hf9:=of_decide_eq_false hf7;refine g' 2 O ?_;exact nx5 _ O O (kx 2 O O)
 refine g' 1 O ?_;refine tOr 12 2 (c:=decide ((1000000000:Int)<t)) O O O O O O (λhb10 nx11=>?_) ?_
 · obtain ⟨hf12,hf13⟩:=orF hb10;obtain ⟨hf14,hf15⟩:=orF hf12;have hf16:=notF hf14;have hf17:=of_decide_eq_false hf15;have hf18:=of_decide_eq_false hf13;refine g' 2 O ?_;exact nx11 _ O O (kx 2 O O)
 refine g' 1 O ?_;refine tOr 16 3 (c:=!(zW x)) O O O O O O (λhb19 nx20=>?_) ?_
 · obtain ⟨hf21,hf22⟩:=orF hb19;obtain ⟨hf23,hf24⟩:=orF hf21;obtain ⟨hf25,hf26⟩:=orF hf23;have hf27:=notF hf25;have hf28:=of_decide_eq_false hf26;have hf29:=of_decide_eq_false hf24;have hf30:=of_decide_eq_false hf22;refine g' 1 O (tW O acs (refVal_c x) (g' 1 O ?_));exact nx20 _ O O (kx 3 O O)
 refine g' 2 O ?_;refine tC O (λhc31=>?_) (λhc31=>?_)
 · simp only[bX,bJ] at hc31;exfalso;rcases hc31 with (((h | h) | h) | h) | h<;>first | omega | (rw[hrk] at h;cases h) | exact hgk h | (rw[hx] at h;cases h)
 simp only[bX,bJ] at hc31;refine g' 6 O (tW O acs (at0_c key) (g' 9 O (T.keep [0,1,2,3,8,9,10,11,14,15,16,17,21,22,25,26,29,30,34,36,37,38,39,40,41] O (tDr 18 [(42,dB false,none),(43,dB false,none),(44,.v undef,none),(45,.v undef,none),(46,.v undef,none),(47,.v undef,none),(48,.v undef,none),(49,.v undef,none),(50,.v undef,none),(51,.v undef,none),(52,.v undef,none),(53,.v undef,none),(54,.v undef,none),(55,.v undef,none),(56,.v undef,none),(57,.v undef,none),(58,.v undef,none),(59,.v undef,none)] [] (Hn:=[]) mixed O O O O wV O ⟨sa_p O O O (zd O),sa_p O O O (zd O),sa_s O O O O O O (by decide),sa_s O O O O O O (by decide),sa_s O O O O O O (by decide),sa_s O O O O O O (by decide),sa_s O O O O O O (by decide),sa_s O O O O O O (by decide),sa_s O O O O O O (by decide),sa_s O O O O O O (by decide),sa_s O O O O O O (by decide),sa_s O O O O O O (by decide),sa_s O O O O O O (by decide),sa_s O O O O O O (by decide),sa_s O O O O O O (by decide),sa_s O O O O O O (by decide),sa_s O O O O O O (by decide),sa_s O O O O O O (by decide),trivial⟩ (tK O (g' 9 O ?_))))));refine tS 81 (decide ((40:Int)<=((([]:List SerD).length:Nat):Int))) (λ_ hQ32=>?_) ?_
 · by_cases hg33:(40:Int)<=((([]:List SerD).length:Nat):Int)
   · refine g' 5 O (tG O (zF (n:=([]:List SerD).length) O runUnderlying28 (by simp only[lm,lc,ln])) (tG O (zZ O O (decide_eq_true hg33)) (g' 14 O ?_)));exact tQ hQ32 O O (by first | (simp[hg33];done) | (simp_all;done))
   refine g' 5 O (tG O (zF (n:=([]:List SerD).length) O runUnderlying28 (by simp only[lm,lc,ln])) (tG O (zZ O O (decide_eq_false hg33)) (g' 14 O ?_)));exact tQ hQ32 O O (by first | (simp[hg33];done) | (simp_all;done))
 refine g' 1 O ?_;refine tD O (λhc34=>?_) (λhc34=>?_)
 · exfalso;omega
 refine g' 5 O (tE O (zcJ (f:=SerD.d) (l':=([]:List SerD)) O O (SrcD.sh) und_28 zds O O (by unfold maxLen;(try simp only[la,lc,ln,lm,lt',ld,ls,lr]);omega) (by (try simp only[la,lc,ln,lm,lt',ld,ls,lr]);omega)) ?_);rintro _ _ ⟨v35,rfl,rfl⟩;refine g' 15 O (tE O (zcJ (f:=Lbl.d) (l':=key) O O (SrcD.sh) zdP zcV O O (by unfold maxLen;(try simp only[la,lc,ln,lm,lt',ld,ls,lr]);omega) (by (try simp only[la,lc,ln,lm,lt',ld,ls,lr]);omega)) ?_);rintro _ _ ⟨v36,rfl,rfl⟩;refine g' 2 O (tP O (zq [0,1] [.tmp 104,.tmp 105] (zv:=cH) O O (.cons (CellD.v O) (.cons (CellD.v O) .nil)) (runUnderlying86) zeroValue86 bd_86 ⟨O,O,trivial⟩ O) (tE O (zp [.tmp 106] O O (.cons CellD.agg .nil) O runUnderlying79 sizeOf86 zeroValue86 O O O O) ?_));rintro _ _ ⟨g37,rfl,rfl⟩;refine tP O (zq [0,1] [.tmp 103,.tmp 107] (zv:=cN) O O (.cons CellD.o (.cons CellD.o .nil)) (runUnderlying81) zeroValue81 bd_81 ⟨O,O,trivial⟩ O) ?_;refine tA O (λg38=>?_);refine gQ 4 [0] O O (mU (Mv.subH (wX (zcp (i:=2) O))) ?_);refine mU (Mv.freeze (K':=[(0,.sh 2 (([]:List SerD).map SerD.d)),(1,.sh 2 (key.map Lbl.d)),(2,dI t),(3,dI x),(8,dZ),(9,dI 0),(10,dN 0),(11,dB false),(12,.ov v35),(13,dP g38 0),(81,dB (decide ((40:Int)<=((([]:List SerD).length:Nat):Int)))),(83,.sh 2 (([]:List SerD).map SerD.d)),(84,.ov v35),(85,dB false),(102,.sh 2 (key.map Lbl.d)),(103,.sh 2 (key.map Lbl.d)),(104,dI t),(105,dI x),(106,.agg [dI t,dI x]),(107,.ov (vS g37 1 1)),(108,.agg [.sh 2 (key.map Lbl.d),.ov (vS g37 1 1)])]) [.sl v36 2 40 (key.map Lbl.d)] (H1:=[.bx g38 81 (.agg [.ov v36,.ov (vS g37 1 1)]),.sl (vS g37 1 1) 2 86 ([.agg [dI t,dI x]]),.sl v35 2 81 (([]:List SerD).map SerD.d)]) (H1':=[.bx g38 81 (.agg [.sh 2 (key.map Lbl.d),.ov (vS g37 1 1)]),.sl (vS g37 1 1) 2 86 ([.agg [dI t,dI x]]),.sl v35 2 81 (([]:List SerD).map SerD.d)]) ⟨⟨_,O,mB⟩,⟨_,O,mB⟩,⟨_,O,mB⟩,⟨_,O,mB⟩,⟨_,O,mB⟩,⟨_,O,mB⟩,⟨_,O,mB⟩,⟨_,O,mB⟩,⟨_,O,mB⟩,⟨_,O,mB⟩,⟨_,O,mB⟩,⟨_,O,mB⟩,⟨_,O,mB⟩,⟨_,O,mB⟩,⟨_,O,mB⟩,⟨_,O,mC (j:=0) O O⟩,⟨_,O,mB⟩,⟨_,O,mB⟩,⟨_,O,mB⟩,⟨_,O,mB⟩,⟨_,O,ArgC.agg (.cons (mC (j:=0) O O) (ga .nil))⟩,trivial⟩ (.bx (ArgC.agg (.cons (mC (j:=0) O O) (ga .nil))) (.same (.same .nil)))) ?_;refine mU (Mv.subH (wX (zcp (i:=1) O))) ?_;refine mU (Mv.freeze (K':=[(0,.sh 2 (([]:List SerD).map SerD.d)),(1,.sh 2 (key.map Lbl.d)),(2,dI t),(3,dI x),(8,dZ),(9,dI 0),(10,dN 0),(11,dB false),(12,.ov v35),(13,dP g38 0),(81,dB (decide ((40:Int)<=((([]:List SerD).length:Nat):Int)))),(83,.sh 2 (([]:List SerD).map SerD.d)),(84,.ov v35),(85,dB false),(102,.sh 2 (key.map Lbl.d)),(103,.sh 2 (key.map Lbl.d)),(104,dI t),(105,dI x),(106,.agg [dI t,dI x]),(107,.sh 2 [.agg [dI t,dI x]]),(108,.agg [.sh 2 (key.map Lbl.d),.sh 2 [.agg [dI t,dI x]]])]) [.sl (vS g37 1 1) 2 86 ([.agg [dI t,dI x]])] (H1:=[.bx g38 81 (.agg [.sh 2 (key.map Lbl.d),.ov (vS g37 1 1)]),.sl v35 2 81 (([]:List SerD).map SerD.d)]) (H1':=[.bx g38 81 (.agg [.sh 2 (key.map Lbl.d),.sh 2 [.agg [dI t,dI x]]]),.sl v35 2 81 (([]:List SerD).map SerD.d)]) ⟨⟨_,O,mB⟩,⟨_,O,mB⟩,⟨_,O,mB⟩,⟨_,O,mB⟩,⟨_,O,mB⟩,⟨_,O,mB⟩,⟨_,O,mB⟩,⟨_,O,mB⟩,⟨_,O,mB⟩,⟨_,O,mB⟩,⟨_,O,mB⟩,⟨_,O,mB⟩,⟨_,O,mB⟩,⟨_,O,mB⟩,⟨_,O,mB⟩,⟨_,O,mB⟩,⟨_,O,mB⟩,⟨_,O,mB⟩,⟨_,O,mB⟩,⟨_,O,mC (j:=0) O O⟩,⟨_,O,ArgC.agg (ga (.cons (mC (j:=0) O O) .nil))⟩,trivial⟩ (.bx (ArgC.agg (ga (.cons (mC (j:=0) O O) .nil))) (.same .nil))) ?_;refine T.keep [0,1,2,3,8,9,10,11,12,13,81,83,84,85,102,103,104,105,106,107,108] O ?_;refine tDo 10 [(109,.q (.sh 2 (([]:List SerD).map SerD.d))),(110,.q (dN 0)),(111,.q (.sh 2 (((([]:List SerD).take 0).drop 0).map SerD.d))),(112,.o (λγ=>[.sl (γ 3) 2 81 (((([]:List SerD).take 0).drop 0).map SerD.d),.bx g38 81 (.agg [.sh 2 (key.map Lbl.d),.sh 2 [.agg [dI t,dI x]]]),.sl v35 2 81 (([]:List SerD).map SerD.d)])),(113,.q (.agg [.sh 2 (key.map Lbl.d),.sh 2 [.agg [dI t,dI x]]])),(114,.q (.sh 2 ([(SerD.mk key [(PtD.mk t x)])].map SerD.d))),(115,.o (λγ=>[.sl (γ 6) 2 81 ((((([]:List SerD).take 0).drop 0)++[(SerD.mk key [(PtD.mk t x)])]).map SerD.d),.bx g38 81 (.agg [.sh 2 (key.map Lbl.d),.sh 2 [.agg [dI t,dI x]]]),.sl v35 2 81 (([]:List SerD).map SerD.d)])),(116,.q (.sh 2 (([]:List SerD).map SerD.d))),(117,.q (dN 0)),(118,.q (.sh 2 (((([]:List SerD).take (([]:List SerD).length)).drop 0).map SerD.d)))] [.bx g38 81 (.agg [.sh 2 (key.map Lbl.d),.sh 2 [.agg [dI t,dI x]]]),.sl v35 2 81 (([]:List SerD).map SerD.d)] (Hn:=λγ=>[.sl (γ 6) 2 81 ((((([]:List SerD).take 0).drop 0)++[(SerD.mk key [(PtD.mk t x)])]).map SerD.d),.bx g38 81 (.agg [.sh 2 (key.map Lbl.d),.sh 2 [.agg [dI t,dI x]]]),.sl v35 2 81 (([]:List SerD).map SerD.d)]) mixed O O (by kernel_rfl) (by kernel_rfl) (by kernel_rfl) wV (λ_=>rfl) (λγ=>⟨so_p rfl rfl rfl (zd rfl),so_p rfl rfl rfl (zd rfl),so_p rfl rfl rfl ((zcv (a:=0) (b:=0) rfl rfl rfl (by first | rfl | (show _=_;(try simp only[lm]);omega) | exact cW _) (by first | rfl | (show _=_;(try simp only[lm]);omega) | exact cW _) runUnderlying28 sizeOf81 (by omega) (by simp only[lm];omega)).cv (wT (by rw[<-jJ,<-jK]))),so_o rfl rfl rfl rfl ((zcJ (f:=SerD.d) (l':=((([]:List SerD).take 0).drop 0)) rfl rfl (SrcD.sh) und_28 zds rfl rfl (by unfold maxLen;(try simp only[la,lc,ln,lm,lt',ld,ls,lr]);omega) (by (try simp only[la,lc,ln,lm,lt',ld,ls,lr]);omega)).mono (by rintro _ _ ⟨v,rfl,rfl⟩;exact⟨v,rfl,rfl⟩)) (λ_=>mH 1 rfl),so_p rfl rfl rfl (zaT (d:=.agg [.sh 2 (key.map Lbl.d),.sh 2 [.agg [dI t,dI x]]]) rfl (i:=0) rfl isAgg81 sizeOf81 rfl rfl),so_q rfl rfl rfl (zm [.tmp 113] rfl rfl (.cons CellD.agg .nil) rfl runUnderlying28 sizeOf81 zeroValue81 rfl rfl rfl rfl),so_o rfl rfl rfl rfl ((zw (f:=SerD.d) (l:=((([]:List SerD).take 0).drop 0)) (l':=[(SerD.mk key [(PtD.mk t x)])]) (i:=0) rfl rfl rfl (SrcD.sh) und_28 zds rfl rfl (by unfold maxLen;(try simp only[la,lc,ln,lm,lt',ld,ls,lr]);omega) (by (try simp only[la,lc,ln,lm,lt',ld,ls,lr]);omega)).mono (by rintro _ _ ⟨v,rfl,rfl⟩;exact⟨v,rfl,rfl⟩)) (λ_=>mH 1 rfl),so_p rfl rfl rfl (zd rfl),so_p rfl rfl rfl (zd rfl),so_p rfl rfl rfl ((zcv (a:=0) (b:=([]:List SerD).length) rfl rfl rfl (by first | rfl | (show _=_;(try simp only[lm]);omega) | exact cW _) (by first | rfl | (show _=_;(try simp only[lm]);omega) | exact cW _) runUnderlying28 sizeOf81 (by omega) (by simp only[lm];omega)).cv (wT (by rw[<-jJ,<-jK]))),trivial⟩) (λγ=>?_);refine tK O (tE O (zw (f:=SerD.d) (l:=(((([]:List SerD).take 0).drop 0)++[(SerD.mk key [(PtD.mk t x)])])) (l':=((([]:List SerD).take (([]:List SerD).length)).drop 0)) (i:=0) O O O (SrcD.sh) und_28 zds O O (by unfold maxLen;(try simp only[la,lc,ln,lm,lt',ld,ls,lr]);omega) (by (try simp only[la,lc,ln,lm,lt',ld,ls,lr]);omega)) ?_);rintro _ _ ⟨v39,rfl,rfl⟩;refine g' 5 O ?_;refine mU (Mv.freeze (K':=[(0,.sh 2 (([]:List SerD).map SerD.d)),(1,.sh 2 (key.map Lbl.d)),(2,dI t),(3,dI x),(8,.sh 2 (((((([]:List SerD).take 0).drop 0)++[(SerD.mk key [(PtD.mk t x)])])++((([]:List SerD).take (([]:List SerD).length)).drop 0)).map SerD.d)),(9,dI 0),(10,dN 0),(11,dB false),(12,.ov v35),(13,dP g38 0),(81,dB (decide ((40:Int)<=((([]:List SerD).length:Nat):Int)))),(83,.sh 2 (([]:List SerD).map SerD.d)),(84,.ov v35),(85,dB false),(102,.sh 2 (key.map Lbl.d)),(103,.sh 2 (key.map Lbl.d)),(104,dI t),(105,dI x),(106,.agg [dI t,dI x]),(107,.sh 2 [.agg [dI t,dI x]]),(108,.agg [.sh 2 (key.map Lbl.d),.sh 2 [.agg [dI t,dI x]]]),(109,.sh 2 (([]:List SerD).map SerD.d)),(110,dN 0),(111,.sh 2 (((([]:List SerD).take 0).drop 0).map SerD.d)),(112,.ov (γ 3)),(113,.agg [.sh 2 (key.map Lbl.d),.sh 2 [.agg [dI t,dI x]]]),(114,.sh 2 ([(SerD.mk key [(PtD.mk t x)])].map SerD.d)),(115,.ov (γ 6)),(116,.sh 2 (([]:List SerD).map SerD.d)),(117,dN 0),(118,.sh 2 (((([]:List SerD).take (([]:List SerD).length)).drop 0).map SerD.d)),(119,.sh 2 (((((([]:List SerD).take 0).drop 0)++[(SerD.mk key [(PtD.mk t x)])])++((([]:List SerD).take (([]:List SerD).length)).drop 0)).map SerD.d))]) [.sl v39 2 81 (((((([]:List SerD).take 0).drop 0)++[(SerD.mk key [(PtD.mk t x)])])++((([]:List SerD).take (([]:List SerD).length)).drop 0)).map SerD.d)] (H1:=[.bx g38 81 (.agg [.sh 2 (key.map Lbl.d),.sh 2 [.agg [dI t,dI x]]]),.sl v35 2 81 (([]:List SerD).map SerD.d)]) (H1':=[.bx g38 81 (.agg [.sh 2 (key.map Lbl.d),.sh 2 [.agg [dI t,dI x]]]),.sl v35 2 81 (([]:List SerD).map SerD.d)]) ⟨⟨_,O,mB⟩,⟨_,O,mB⟩,⟨_,O,mB⟩,⟨_,O,mB⟩,⟨_,O,mC (j:=0) O O⟩,⟨_,O,mB⟩,⟨_,O,mB⟩,⟨_,O,mB⟩,⟨_,O,mB⟩,⟨_,O,mB⟩,⟨_,O,mB⟩,⟨_,O,mB⟩,⟨_,O,mB⟩,⟨_,O,mB⟩,⟨_,O,mB⟩,⟨_,O,mB⟩,⟨_,O,mB⟩,⟨_,O,mB⟩,⟨_,O,mB⟩,⟨_,O,mB⟩,⟨_,O,mB⟩,⟨_,O,mB⟩,⟨_,O,mB⟩,⟨_,O,mB⟩,⟨_,O,mB⟩,⟨_,O,mB⟩,⟨_,O,mB⟩,⟨_,O,mB⟩,⟨_,O,mB⟩,⟨_,O,mB⟩,⟨_,O,mB⟩,⟨_,O,mC (j:=0) O O⟩,trivial⟩ (.same (.same .nil))) ?_;exact tRs O results24 (.cons (zf (zc O) (wT (congrArg (D.ls 2 SerD.d) (show ((((([]:List SerD).take 0).drop 0)++[(SerD.mk key [(PtD.mk t x)])])++((([]:List SerD).take (([]:List SerD).length)).drop 0))=[(⟨key,[⟨t,x⟩]⟩:SerD)] from(by first | rfl | simp))))) (.cons (zc O) .nil)) O HSub.none ⟨O,O⟩
theorem put1s_c (S:List SerD) (hS:S=[]) (key:List Lbl) (t x:Int) (hr:zdQ key=true) (ht0:0<=t) (ht1:t<=1000000000) (hx:zW x=true) (hk:key.length<=1000000) (hz:∀ y∈key,y.n.size<=1000000):CD prog 24 [] [.sh 2 (S.map SerD.d),.sh 2 (key.map Lbl.d),dI t,dI x] (isR (.tup [(D.ls 2 SerD.d) [(⟨key,[⟨t,x⟩]⟩:SerD)],dI 0])):=hS ▸ put1_c key t x hr ht0 ht1 hx hk hz
theorem make1_c (key:List Lbl) (t x:Int) (hr:zdQ key=true) (ht0:0<=t) (ht1:t<=1000000000) (hx:zW x=true) (hk:key.length<=1000000) (hz:∀ y∈key,y.n.size<=1000000):
 CD prog 9 [] [.sh 4 ([(⟨false,key,t,x⟩:OpD)].map OpD.d)] (λr H'=>∃ g v',r=.tup [dP g 0,.sh 2 ([(⟨key,[⟨t,x⟩]⟩:SerD)].map SerD.d)]/\H'=[.bx g 55 (.agg [.ov v']),.sl v' 2 81 ([(⟨key,[⟨t,x⟩]⟩:SerD)].map SerD.d)]):=by
 refine tZ func9 O O (λC=>?_);refine T.bd 0 O (λbd0=>?_);have nl0:=zz bd0;refine g' 8 O (tP O (zq [] [] (zv:=cQ) O O (.nil) (runUnderlying55) zeroValue55 bd_55 ⟨O,trivial⟩ O) ?_);refine tA O (λg1=>?_);refine g' 15 O (mV (wY (h':=.bx g1 55 (.agg [.ov (.slice none 0 0)])) O (wZ (Cv.agg (.cons (Cv.ov O) .nil)))) (mV (HSub.nil 2 81) (mX 1 O (tl2 (λ(a_:Nat) (b_:Value)=>[(0,.sh 4 ([(⟨false,key,t,x⟩:OpD)].map OpD.d)),(2,.v (.pointer none)),(3,dZ),(4,dP g1 0),(6,dN a_),(5,.sh 2 (([(⟨key,[⟨t,x⟩]⟩:SerD)].take a_).map SerD.d))]) (λa_ b_=>[.bx g1 55 (.agg [.ov b_]),.sl b_ 2 81 (([(⟨key,[⟨t,x⟩]⟩:SerD)].take a_).map SerD.d)]) (λa_ b_=>(a_<=1)) (λa_ b_=>1-a_) 0 (.slice none 0 0) O ⟨sk O,sk O,sk O,sk O,sk O,sc O Cv.nil,trivial⟩ wV (c6 _) ?_))));rintro k ov hk1;have hl1:[(⟨false,key,t,x⟩:OpD)].length=1:=rfl;refine g' 5 O (tP O (zF (n:=[(⟨false,key,t,x⟩:OpD)].length) O runUnderlying22 (by simp only[lm,lc,ln])) (g' 3 O ?_));refine tD O (λhc2=>?_) (λhc2=>?_)
 · refine g' 8 O ?_;obtain ⟨x1,hx1⟩:=zj [(⟨false,key,t,x⟩:OpD)] k (by omega);have hk0:k=0:=(by omega);obtain ⟨hcc,hls,htt,hvv⟩:x1.c=false/\x1.ls=key/\x1.t=t/\x1.v=x:=(by rw[hk0] at hx1;injection hx1 with e;subst e;exact⟨rfl,rfl,rfl,rfl⟩);have hY:([(⟨key,[⟨t,x⟩]⟩:SerD)].take k)++[(⟨x1.ls,[⟨x1.t,x1.v⟩]⟩:SerD)]=[(⟨key,[⟨t,x⟩]⟩:SerD)].take (k+1):=(by rw[hk0,hls,htt,hvv];rfl);have hY5:[(⟨x1.ls,[⟨x1.t,x1.v⟩]⟩:SerD)]=[(⟨key,[⟨t,x⟩]⟩:SerD)].take (k+1):=(by rw[hk0,hls,htt,hvv];rfl);have hYl:([(⟨key,[⟨t,x⟩]⟩:SerD)].take k).length=0:=(by rw[hk0];rfl);refine tP O (zh (k:=k) O O runUnderlying22 sizeOf43 (by first | rfl | omega) (ze hx1)) (g' 1 O (tP O ((zU O isAgg4 O).cv (cB ((hcc)))) (g' 5 O (T.keep [0,2,3,4,5,6,9,10,11,12,15,16,17,18,19,20] O ?_))));refine tDr 16 [(21,dP g1 0,none),(22,.sh 4 ([(⟨false,key,t,x⟩:OpD)].map OpD.d),none),(23,dN k,none),(24,.el (OpD.d x1) 0,none),(25,.el (OpD.d x1) 1,none),(26,.sh 2 (x1.ls.map Lbl.d),none),(27,.sh 4 ([(⟨false,key,t,x⟩:OpD)].map OpD.d),none),(28,dN k,none),(29,.el (OpD.d x1) 0,none),(30,.el (OpD.d x1) 2,none),(31,dI x1.t,none),(32,.sh 4 ([(⟨false,key,t,x⟩:OpD)].map OpD.d),none),(33,dN k,none),(34,.el (OpD.d x1) 0,none),(35,.el (OpD.d x1) 3,none),(36,dI x1.v,none)] [.bx g1 55 (.agg [.ov ov]),.sl ov 2 81 (([(⟨key,[⟨t,x⟩]⟩:SerD)].take k).map SerD.d)] (Hn:=[.bx g1 55 (.agg [.ov ov]),.sl ov 2 81 (([(⟨key,[⟨t,x⟩]⟩:SerD)].take k).map SerD.d)]) mixed O O O O wV O ⟨sa_p O O O (zd O),sa_p O O O (zd O),sa_p O O O (zd O),sa_p O O O (zh (k:=k) O O runUnderlying22 sizeOf43 (by first | rfl | omega) (ze hx1)),sa_p O O O (zP O fa_43_1 O),sa_p O O O (zU O isAgg41 O),sa_p O O O (zd O),sa_p O O O (zd O),sa_p O O O (zh (k:=k) O O runUnderlying22 sizeOf43 (by first | rfl | omega) (ze hx1)),sa_p O O O (zP O fa_43_2 O),sa_p O O O (zU O isAgg3 O),sa_p O O O (zd O),sa_p O O O (zd O),sa_p O O O (zh (k:=k) O O runUnderlying22 sizeOf43 (by first | rfl | omega) (ze hx1)),sa_p O O O (zP O fa_43_3 O),sa_p O O O (zU O isAgg3 O),trivial⟩ ?_;refine tK O (tX [0,0] O O acs (put_c g1 ov ([(⟨key,[⟨t,x⟩]⟩:SerD)].take k) x1.ls x1.t x1.v (by rw[hls];exact hr) (by omega) (by omega) (by rw[hvv];exact hx) (λs h=>by rw[hk0] at h;cases h) (by omega) (by rw[hls];exact hk)) ?_);rintro _ _ ⟨nv3,rfl,rfl⟩;refine g' 2 O (T.keep [5,0,2,3,4,6,9,10,11,12,15,16,17,18,19,20,21,22,23,24,25,26,27,28,29,30,31,32,33,34,35,36,37] O ?_);refine tDz 21 20 5 (.sh 2 (([(⟨key,[⟨t,x⟩]⟩:SerD)].take k).map SerD.d)) [(39,.q (.sh 2 (([(⟨key,[⟨t,x⟩]⟩:SerD)].take k).map SerD.d))),(40,.q (.sh 4 ([(⟨false,key,t,x⟩:OpD)].map OpD.d))),(41,.q (dN k)),(42,.q (.el (OpD.d x1) 0)),(43,.q (.el (OpD.d x1) 1)),(44,.q (.sh 2 (x1.ls.map Lbl.d))),(45,.q (.sh 4 ([(⟨false,key,t,x⟩:OpD)].map OpD.d))),(46,.q (dN k)),(47,.q (.el (OpD.d x1) 0)),(48,.q (.el (OpD.d x1) 2)),(49,.q (dI x1.t)),(50,.q (.sh 4 ([(⟨false,key,t,x⟩:OpD)].map OpD.d))),(51,.q (dN k)),(52,.q (.el (OpD.d x1) 0)),(53,.q (.el (OpD.d x1) 3)),(54,.q (dI x1.v)),(55,.q (.tup [.sh 2 ([(⟨x1.ls,[⟨x1.t,x1.v⟩]⟩:SerD)].map SerD.d),dI 0])),(38,.q (.tup [.sh 2 ([(⟨x1.ls,[⟨x1.t,x1.v⟩]⟩:SerD)].map SerD.d),dI 0])),(56,.q (.sh 2 ([(⟨x1.ls,[⟨x1.t,x1.v⟩]⟩:SerD)].map SerD.d))),(57,.q (dI 0)),(5,.q (.sh 2 ([(⟨x1.ls,[⟨x1.t,x1.v⟩]⟩:SerD)].map SerD.d)))] [.bx g1 55 (.agg [.ov nv3]),.sl nv3 2 81 ((([(⟨key,[⟨t,x⟩]⟩:SerD)].take k)++[(⟨x1.ls,[⟨x1.t,x1.v⟩]⟩:SerD)]).map SerD.d)] (HFb [.bx g1 55 (.agg [.ov nv3]),.sl nv3 2 81 ((([(⟨key,[⟨t,x⟩]⟩:SerD)].take k)++[(⟨x1.ls,[⟨x1.t,x1.v⟩]⟩:SerD)]).map SerD.d)]) (λγ=>[.bx g1 55 (.agg [.ov nv3]),.sl nv3 2 81 ((([(⟨key,[⟨t,x⟩]⟩:SerD)].take k)++[(⟨x1.ls,[⟨x1.t,x1.v⟩]⟩:SerD)]).map SerD.d)]) mixed O O (by kernel_rfl) (λ_ _=>wV) (λ_ _ _=>rfl) (λ_ _ _=>rfl) O O (λγ=>⟨sx_p O O O (zd O) (λ_=>rfl),sx_p O O O (zd O) (λ_=>rfl),sx_p O O O (zd O) (λ_=>rfl),sx_p O O O (zh (k:=k) O O runUnderlying22 sizeOf43 (by first | rfl | omega) (ze hx1)) (λ_=>rfl),sx_p O O O (zP O fa_43_1 O) (λ_=>rfl),sx_p O O O (zU O isAgg41 O) (λ_=>rfl),sx_p O O O (zd O) (λ_=>rfl),sx_p O O O (zd O) (λ_=>rfl),sx_p O O O (zh (k:=k) O O runUnderlying22 sizeOf43 (by first | rfl | omega) (ze hx1)) (λ_=>rfl),sx_p O O O (zP O fa_43_2 O) (λ_=>rfl),sx_p O O O (zU O isAgg3 O) (λ_=>rfl),sx_p O O O (zd O) (λ_=>rfl),sx_p O O O (zd O) (λ_=>rfl),sx_p O O O (zh (k:=k) O O runUnderlying22 sizeOf43 (by first | rfl | omega) (ze hx1)) (λ_=>rfl),sx_p O O O (zP O fa_43_3 O) (λ_=>rfl),sx_p O O O (zU O isAgg3 O) (λ_=>rfl),sx_q O O O (zaf O (gc (gc (gc (gc .nil)))) Tryz.call24 (put1s_c ([(⟨key,[⟨t,x⟩]⟩:SerD)].take k) (by rw[hk0];rfl) x1.ls x1.t x1.v (by rw[hls];exact hr) (by omega) (by omega) (by rw[hvv];exact hx) (by rw[hls];exact hk) (by rw[hls];exact hz)) z8) (λ_=>rfl),sx_p O O O (zd O) (λ_=>rfl),sx_p O O O (zau O O) (λ_=>rfl),sx_p O O O (zau O O) (λ_=>rfl),sx_p O O O (zdd O) (λ_=>rfl),trivial⟩) (λγ=>?_);refine tK O (g' 5 O (tP O (zy (c:=((k+1:Nat):Int)) O O (zk (by omega) (by omega))) (g' 2 O (mW [.bx g1 55 (.agg [.ov nv3]),.sl nv3 2 81 (([(⟨key,[⟨t,x⟩]⟩:SerD)].take (k+1)).map SerD.d)] (congrArg (λq:List SerD=>([.bx g1 55 (.agg [.ov nv3]),.sl nv3 2 81 (q.map SerD.d)]:List Hp)) hY) ?_))));exact tp2 (k+1) nv3 ⟨sk O,sk O,sk O,sk O,sk O,sc O (wT (congrArg (λq:List SerD=>D.sh 2 (q.map SerD.d)) hY5)),trivial⟩ wV (by show k+1<=1;omega) (by omega)
 have hk0:k=1:=by omega
 subst hk0;refine g' 14 O ?_;exact tR O (mG 2 O) ⟨g1,ov,O,O⟩
theorem read12_1 (ev es:Value) (hev:EvOk ev) (hes:EvOk es):CD prog 25 [HPow,HErr ev,HSyn es] [.v (.string zfs)] (λr H'=>r=.tup [.agg [.s tAgg,.s bSum,dI 0,dI 1,.sh 1 ([zdu].map D.s),.sh 3 (([]:List MatD).map MatD.d),.sh 7 (Nd.ds [a12C]),dI 2,dI 1,dI (-1)],dI 0]/\H'=[HPow,HErr ev,HSyn es]):=by
 have h:=Read_c zfs ev es hev hes;rw[al12_r1.1,al12_r1.2] at h;refine CD.to ⟨λw F vs hvs hF hH=>h.out w F vs (by obtain ⟨u,us,e,hu,hus⟩:=hvs;exact⟨u,us,e,⟨hu,by decide⟩,hus⟩) hF hH⟩ ?_;rintro r H' ⟨op,text,n,mode,names,ms,kids,o,a,b,e,rfl,rfl⟩;injection e with e1 e2 e3 e4;subst e2;subst e3;subst e4;injection e1 with a1 a2 a3 a4 a5 a6 a7;subst a1;subst a2;subst a3;subst a4;subst a5;subst a6;subst a7;exact⟨O,O⟩
theorem read12_2 (ev es:Value) (hev:EvOk ev) (hes:EvOk es):CD prog 25 [HPow,HErr ev,HSyn es] [.v (.string zfr)] (λr H'=>r=.tup [.agg [.s tBin,.s ze3,dI 0,dI 0,.sh 1 (([]:List ByteArray).map D.s),.sh 3 (([]:List MatD).map MatD.d),.sh 7 (Nd.ds [numN 1,a12P]),dI 0,dI (-1),dI (-1)],dI 0]/\H'=[HPow,HErr ev,HSyn es]):=by
 have h:=Read_c zfr ev es hev hes;rw[al12_r2.1,al12_r2.2] at h;refine CD.to ⟨λw F vs hvs hF hH=>h.out w F vs (by obtain ⟨u,us,e,hu,hus⟩:=hvs;exact⟨u,us,e,⟨hu,by decide⟩,hus⟩) hF hH⟩ ?_;rintro r H' ⟨op,text,n,mode,names,ms,kids,o,a,b,e,rfl,rfl⟩;injection e with e1 e2 e3 e4;subst e2;subst e3;subst e4;injection e1 with a1 a2 a3 a4 a5 a6 a7;subst a1;subst a2;subst a3;subst a4;subst a5;subst a6;subst a7;exact⟨O,O⟩
theorem al_c:CD prog 79 [] [.agg [.el (.agg [.sh 2 (alS.map SerD.d)]) 0,dI 20],Nd.d a12C] (isR (.tup [.ifc 32 (.sh 2 (alV.map RowD.d)),dI 0])):=by
 have h:=of_sel alS 20 bCpu 0 0 [] [] (by decide) alS_len;rw[al_rt.1,al_rt.2] at h;exact h
theorem al_a:CD prog 79 [] [.agg [.el (.agg [.sh 2 (alS.map SerD.d)]) 0,dI 20],Nd.d a12A] (isR (.tup [.ifc 32 (.sh 2 (alG.map RowD.d)),dI 0])):=by
 have h:=of_agg alS 20 0 1 [zdu] [a12C] a12C alV (by decide) O al_c (by decide);rw[al_gd.1,al_gd.2] at h;exact h
theorem al_n1:CD prog 79 [] [.agg [.el (.agg [.sh 2 (alS.map SerD.d)]) 0,dI 0],Nd.d (numN 1)] (isR (.tup [.ifc 133 (.agg [dI 1]),dI 0])):=by
 have h:=of_num alS 0 ByteArray.empty 1 0 [] [] [];exact h
theorem al_n2:CD prog 79 [] [.agg [.el (.agg [.sh 2 (alS.map SerD.d)]) 0,dI 0],Nd.d (numN 2)] (isR (.tup [.ifc 133 (.agg [dI 2]),dI 0])):=by
 have h:=of_num alS 0 ByteArray.empty 2 0 [] [] [];exact h
theorem al_n3:CD prog 79 [] [.agg [.el (.agg [.sh 2 (alS.map SerD.d)]) 0,dI 0],Nd.d (numN 3)] (isR (.tup [.ifc 133 (.agg [dI 3]),dI 0])):=by
 have h:=of_num alS 0 ByteArray.empty 3 0 [] [] [];exact h
theorem al_p:CD prog 79 [] [.agg [.el (.agg [.sh 2 (alS.map SerD.d)]) 0,dI 0],Nd.d a12P] (isR (.tup [.ifc 133 (.agg [dI 6]),dI 0])):=by
 have h:=of_bin alS 0 tTimes 0 0 [] [numN 2,numN 3] (numN 2) (numN 3) 2 3 (by decide) O O al_n2 al_n3;rw[show doE tTimes 2 3=(6,0) from by decide] at h;exact h
theorem al_b:CD prog 79 [] [.agg [.el (.agg [.sh 2 (alS.map SerD.d)]) 0,dI 0],Nd.d a12B] (isR (.tup [.ifc 133 (.agg [dI 7]),dI 0])):=by
 have h:=of_bin alS 0 ze3 0 0 [] [numN 1,a12P] (numN 1) a12P 1 6 (by decide) O O al_n1 al_p;rw[show doE ze3 1 6=(7,0) from by decide] at h;exact h
theorem al_q1:CD prog 26 [] [.el (.agg [.sh 2 (alS.map SerD.d)]) 0,.agg [.s tAgg,.s bSum,dI 0,dI 1,.sh 1 ([zdu].map D.s),.sh 3 (([]:List MatD).map MatD.d),.sh 7 (Nd.ds [a12C]),dI 2,dI 1,dI (-1)],dI 20] (isR (.tup [(D.ls 2 RowD.d) alR,dI 0])):=al_qs ▸ query2_c alS 20 tAgg bSum 0 1 [zdu] [] [a12C] alG (by decide) (by kernel_rfl) (evalV_c alS 20 tAgg bSum 0 1 [zdu] [] [a12C] alG (by decide) (by decide) (by decide) (by kernel_rfl) al_a) (by decide) (by decide)
theorem al_q2:CD prog 26 [] [.el (.agg [.sh 2 (alS.map SerD.d)]) 0,.agg [.s tBin,.s ze3,dI 0,dI 0,.sh 1 (([]:List ByteArray).map D.s),.sh 3 (([]:List MatD).map MatD.d),.sh 7 (Nd.ds [numN 1,a12P]),dI 0,dI (-1),dI (-1)],dI 0] (isR (.tup [(D.ls 2 RowD.d) [⟨[],7⟩],dI 0])):=query0_c alS 0 tBin ze3 0 0 [] [] [numN 1,a12P] [⟨[],7⟩] (by decide) (by kernel_rfl) (evalN_c alS 0 tBin ze3 0 0 [] [] [numN 1,a12P] 7 (by decide) (by decide) (by decide) (by kernel_rfl) al_b)
theorem ask1_c (ev es:Value) (hev:EvOk ev) (hes:EvOk es):
 CD prog 11 [HPow,HErr ev,HSyn es] [.el (.agg [.sh 2 (alS.map SerD.d)]) 0,.v (.string zfs),dI 20] (λr H'=>r=.tup [(D.ls 2 RowD.d) alR,dI 0]/\H'=[HPow,HErr ev,HSyn es]):=by
 refine tZ func11 O O (λC=>?_);refine T.bd 0 O (λbd0=>?_);refine g' 9 O (tX [0,0,0] O O acs (read12_1 ev es hev hes) ?_);rintro _ _ ⟨rfl,rfl⟩;refine g' 3 O ?_;refine tA O (λg1=>?_);refine gQ 11 [0] O O ?_;refine tD O (λhc2=>?_) (λhc2=>?_)
 · exfalso;omega
 refine gQ 7 [0] O O (tW O acs (al_q1) (g' 7 O (mX 3 O (mX 3 O (mX 3 O ?_)))));exact tR O (mG 3 O) ⟨O,O⟩
theorem ask2_c (ev es:Value) (hev:EvOk ev) (hes:EvOk es):
 CD prog 11 [HPow,HErr ev,HSyn es] [.el (.agg [.sh 2 (alS.map SerD.d)]) 0,.v (.string zfr),dI 0] (λr H'=>r=.tup [(D.ls 2 RowD.d) alM,dI 0]/\H'=[HPow,HErr ev,HSyn es]):=by
 refine tZ func11 O O (λC=>?_);refine T.bd 0 O (λbd0=>?_);refine g' 9 O (tX [0,0,0] O O acs (read12_2 ev es hev hes) ?_);rintro _ _ ⟨rfl,rfl⟩;refine g' 3 O ?_;refine tA O (λg1=>?_);refine gQ 11 [0] O O ?_;refine tD O (λhc2=>?_) (λhc2=>?_)
 · exfalso;omega
 refine gQ 7 [0] O O (tW O acs (al_q2) (g' 7 O (mX 3 O (mX 3 O (mX 3 O ?_)))));exact tR O (mG 3 O) ⟨O,O⟩
end Lp
