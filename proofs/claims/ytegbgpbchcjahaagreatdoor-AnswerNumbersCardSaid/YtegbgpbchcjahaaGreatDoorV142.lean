import Derived.Test.YtegbgpbchcjahaaGreatDoorV153
set_option linter.all false
namespace Lp
open Go Go.RowKit Go.Proofs Tryz
def kz (ops:List Oper) (z t0:Nat) (d0:D) (K:Kd) (k:Nat):Kd:=match has (zM ops z) k with
 | true=>(t0,d0)::K
 | false=>K
section
variable {P:Program} {N n:Nat} {ops:List Oper} {K:Kd} {Hs:List Hp} {HF:HFn} {γ:Gh} {es:List (Tmp×Ey)} {k:Nat}
def zfL (P:Program) (N n:Nat) (ops:List Oper) (z t0:Nat) (d0:D) (K:Kd) (Hs:List Hp) (HF:HFn) (γ:Gh) (es:List (Tmp×Ey)):Nat->Nat->Prop
 | _,0=>True
 | k,todo+1=>StepX P N n ops (kz ops z t0 d0 K k) Hs HF γ es k/\zfL P N n ops z t0 d0 K Hs HF γ es (k+1) todo
def zfL.get {z t0:Nat} {d0:D}:∀ (todo k:Nat),zfL P N n ops z t0 d0 K Hs HF γ es k todo->∀ i,k<=i->i<k+todo->StepX P N n ops (kz ops z t0 d0 K i) Hs HF γ es i
 | 0,k,_,i,h1,h2=>by omega
 | todo+1,k,⟨h,hr⟩,i,h1,h2=>by
  rcases cZ k i with h3 | h3
  · exact zfL.get todo (k+1) hr i h3 (by omega)
  have:i=k:=by omega
  subst this;exact h
def aNb {C:Ctx} {c:Code} {H:List Hp} {Q:zbB} (n z t0:Nat) (d0:D) (es:List (Tmp×Ey)) (Hs:List Hp) (HF:HFn) (Hn:Gh->List Hp) (hm:P.follows .mixedOrders=true) (hc:zcU c=some true) (hlen:Nat.beq es.length n=true) (hB:zeY (zaL c) n N (K.map λx=>(x.1,Value.nilFunc))=true) (hs0:∀ D γ,HSub (HF D γ) Hs)
 (h0:∀ γ (D:Nat->Bool),(∀ i,i<n->D i=false)->HF D γ=H) (hHn:∀ γ (D:Nat->Bool),(∀ i,i<n->D i=true)->HF D γ=Hn γ)
 (hz:Nat.blt z n=true) (hzd:zW (zaL c) z=some t0) (hsteps:∀ γ,zfL P N n (zaL c) z t0 d0 K Hs HF γ es 0 n) (next:∀ γ,OpsD P N C (zaL c) n (enK (geny γ 0 es) K) (Hn γ) (λρ w F=>Q .normal ρ w F)):JD P N C c ((t0,d0)::K) H Q:=by
 cases c<;>simp[zcU] at hc
 rename_i id opsA draw;subst hc;simp only[zaL] at hB hsteps next hzd
 generalize hops:opsA.toList=ops at hB hsteps next hzd
 have hA:opsA=ops.toArray:=by rw[<-hops]
 subst hA;have hlen:=dM hlen;unfold zeY at hB;simp only[cU] at hB;obtain ⟨⟨hback,htail⟩,hfresh⟩:=hB;unfold pE at hfresh;simp only[cU] at hfresh;obtain ⟨hnl,hfr⟩:=hfresh;have hnl:=dE hnl;rw[c8] at hfr;have hpre:∀ k,k<ops.length->∀ j∈zM ops k,j<k:=by
  intro k hk j hj;unfold zfF at hback;rw[c8] at hback;have:=hback k (dO.2 hk);rw[c8] at this;exact zaE.1 (this j hj)
 have hzn:=zaE.1 hz;have hstep:∀ γ i,i<n->StepX P N n ops (kz ops z t0 d0 K i) Hs HF γ es i:=λγ i hi=>zfL.get n 0 (hsteps γ) i (cT _) (by omega)
 have hd:∀ i t,i<n->zW ops i=some t->Nat.blt t N=true/\zI K t=none/\∀ j,j<i->zW ops j≠some t:=by
  intro i t hi hdst;have hf:=hfr i (dO.2 hi);rw[hdst] at hf;simp only[cU,uA] at hf;refine⟨hf.1.1,fH hf.1.2,λj hj=>?_⟩;have:=hf.2;rw[c8] at this;have:=this j (dO.2 hj);simpa using this
 have hdn2:∀ i,i<n->∀ t x,nth es i=some (t,x)->(zW ops i=some t/\x.isS=false)\/(zW ops i=none/\Nat.ble N t=true/\x.isS=true):=by
  intro i hi t x hn;obtain ⟨t',x',dst,op,ty,h1,h2,h3,_⟩:=(hstep (λ_=>undef) i hi).out;rw[hn] at h1;cases h1;have hdst:zW ops i=dst:=by
   obtain ⟨o,q1,q2,_⟩:=za0 h2;have:nth ops i=some o:=(by rw[zaH];simpa using q1);simp[zW,this,q2]
  rw[hdst];exact h3
 have hne:∀ i j t,i<n->j<n->i≠j->zW ops i=some t->zW ops j=some t->False:=by
  intro i j t hi hj hij h1 h2;rcases vZ hij with hlt | hlt
  · exact(hd j t hj h2).2.2 i hlt h1
  exact(hd i t hi h1).2.2 j hlt h2
 have hfar:∀ (a:Act),Ok N a->∀ t,Nat.ble N t=true->zF a t=undef:=by
  intro a ok t ht;have ht:=dE ht;simp only[zF,jG];rw[vJ (by rw[ok.1];exact ht)];rfl
 have ht0:zI K t0=none:=(hd z t0 hzn hzd).2.1;refine⟨λa w F ok hk1 g=>?_⟩;have hk:KOk w F (zF a) K:=λs d hs=>hk1 s d (by
  have:s≠t0:=by rintro rfl;rw[ht0] at hs;cases hs
  simp only[zI,zbx this,cond_false];exact hs)
 have hd0:D.rep w F d0 (zF a t0):=hk1 t0 d0 (by simp only[zI,jT,cond_true]);apply wp_region_any hm;have final:∀ (γ:Gh) (B:Nat->Bool) (a:Act) (w':World) (F':Nat->Prop),Ok N a->KOk w' F' (zF a) K->Good C (HF B γ) w' F'->(∀ i,i<n->B i=true)->(∀ i t x,i<n->nth es i=some (t,x)->D.rep w' F' (x.d γ i) (zF a t))->
  wpOps P ops.toArray (λe a' w'=>Ok N a'/\∃ F',Q e (zF a') w' F') (List.range' n (ops.length-n)) a w':=by
  intro γ B a w' F' ok hk g hD hrep;rw[hHn γ B hD] at g;have hK:=zgx (geny γ 0 es) K hk (λj t d e hj=>by
   obtain ⟨x,x1,x2⟩:=zeM γ es 0 j t d e hj;rw[dS] at x2;subst x2;exact hrep j t x (by rw[zaH] at x1;rw[<-hlen];exact(cQ.1 x1).1) x1)
  refine zaQ ?_ _ _ _ ((next γ).out a w' F' ok hK g);rintro e a' w'' ⟨rfl,h1,h2⟩;exact⟨h1,h2⟩
 have key:∀ (fuel:Nat) (listed:Array Bool) (γ:Gh) (a:Act) (w':World) (F':Nat->Prop),listed.size=ops.length->cnt ops.length listed<=fuel->Ok N a->KOk w' F' (zF a) K->Good C (HF (λi=>listed.getD i true) γ) w' F'->
  (∀ i t x,i<n->listed.getD i true=true->nth es i=some (t,x)->D.rep w' F' (x.d γ i) (zF a t))->(∀ i,i<n->listed.getD i true=true->∀ j∈zM ops i,listed.getD j true=true)->(∀ i,n<=i->i<ops.length->listed.getD i true=false)->(listed.getD z true=false->D.rep w' F' d0 (zF a t0))->
  wpAny P .any ops.toArray (λe a' w'=>Ok N a'/\∃ F',Q e (zF a') w' F') fuel listed a w':=by
  intro fuel
  induction fuel with
  | zero=>
   intro listed γ a w' F' hs hcnt ok hk g hh hdn ht hz0;have hall:∀ i,i<ops.length->listed.getD i true=true:=by
    intro i hi;cases hc:listed.getD i true with
    | true=>rfl
    | false=>have:=zeh hi hs hc;omega
   have hn:ops.length=n:=by
    rcases cZ n ops.length with h' | h'
    · have h1:=ht n (cW _) h';rw[hall n h'] at h1;cases h1
    omega
   refine zbT (n:=n) hback htail 0 n listed a w' (by omega) (cW _) hnl hs (λi hi=>by rw[hall i hi];simp;omega) ?_ 0 (by omega);exact final γ _ a w' F' ok hk g (λi hi=>hall i (by omega)) (λi t x hi hn=>hh i t x hi (hall i (by omega)) hn)
  | succ fuel ih=>
   intro listed γ a w' F' hs hcnt ok hk g hh hdn ht hz0;by_cases hall:∀ i,i<n->listed.getD i true=true
   · refine zbT (n:=n) hback htail (ops.length-n) n listed a w' O (cW _) hnl hs (λi hi=>?_) ?_ (fuel+1) ?_
     · rcases cZ i n with h' | h'
       · rw[hall i h'];simp[h']
       rw[ht i h' hi];simp;omega
     · exact final γ _ a w' F' ok hk g hall (λi t x hi hn=>hh i t x hi (hall i hi) hn)
     refine jM ?_ hcnt;unfold cnt;have hsplit:List.range ops.length=List.range n++List.range' n (ops.length-n):=by
      rw[j7,j7];have:=@List.range'_append 0 n (ops.length-n) 1;simp only[vT,dS] at this;rw[this];congr 1;omega
     rw[hsplit,u7];have:(List.range' n (ops.length-n)).countP (λi=>!listed.getD i true)=ops.length-n:=by
      rw[vL.2]
      · simp
      intro i hi;have:=wE.1 hi;rw[ht i (by omega) (by omega)];rfl
     omega
   obtain ⟨i0,hi0⟩:=Classical.not_forall.1 hall;obtain ⟨hi0n,hi0u⟩:=Classical.not_imp.1 hi0;have hi0u:listed.getD i0 true=false:=(by cases hx:listed.getD i0 true with | false=>rfl | true=>exact aH hx hi0u);refine⟨λhe=>aH he (zdR hs hback i0 (by omega) hi0u),λi hi=>?_⟩;obtain ⟨hu,hil,hps⟩:=zc8.1 hi;have hin:i<n:=by
    rcases cZ i n with h' | h'
    · exact h'
    exfalso;have hpm:i0∈ancS ops i (zM ops i):=by
     have ht':=htail;unfold zgj at ht';rw[c8] at ht';have:=ht' i (dO.2 hil);rw[jJ] at this;rcases this with h'' | h''
     · have:=zaE.1 h'';omega
     rw[c8] at h'';exact zdo (h'' i0 (dO.2 (by omega)))
    have:=zd7 (p:=λj=>j<ops.length/\listed.getD j true=true) (λk hk j hj=>by
     have hkn:k<n:=by
      rcases cZ k n with hh | hh
      · exact hh
      have:=ht k hh hk.1;rw[hk.2] at this;cases this
     exact⟨by have:=hpre k hk.1 j hj;omega,hdn k hkn hk.2 j hj⟩) i _ (λj hj=>by
     have hjl:j<ops.length:=(by have:=hpre i hil j hj;omega);exact⟨hjl,by rw[zdg hs hjl];exact hps j hj⟩) i0 hpm
    rw[hi0u] at this;cases this.2
   obtain ⟨t,x,dst,op,ty,h1,h2,hdx,h3⟩:=(hstep γ i hin).out;have hdst:zW ops i=dst:=by
    obtain ⟨o,q1,q2,_⟩:=za0 h2;have:nth ops i=some o:=(by rw[zaH];simpa using q1);simp[zW,this,q2]
   have hpl:∀ j∈zM ops i,listed.getD j true=true:=λj hj=>by
    have hjl:j<ops.length:=(by have:=hpre i hil j hj;omega);rw[zdg hs hjl];exact hps j hj
   have hkz:KOk w' F' (zF a) (kz ops z t0 d0 K i):=by
    unfold kz;split
    · rename_i hpz;have hzl:listed.getD z true=false:=by
       cases e:listed.getD z true with
       | false=>rfl
       | true=>have:=hdn z hzn e i (xY hpz);rw[hu] at this;cases this
      intro s d hs;by_cases e:s=t0
      · subst e;simp only[zI,jT,cond_true,cX] at hs;subst hs;exact hz0 hzl
      simp only[zI,zbx e,cond_false] at hs;exact hk s d hs
    exact hk
   have hkp:KOk w' F' (zF a) (kpre (geny γ 0 es) (kz ops z t0 d0 K i) (zM ops i)):=zfT hkz _ (λj hj t' d' e' hn'=>by
    obtain ⟨y,y1,y2⟩:=zeM γ es 0 j t' d' e' hn';rw[dS] at y2;subst y2;exact hh j t' y (by have:=hpre i hil j hj;omega) (hpl j hj) y1)
   obtain ⟨o,o1,o2,o3,o4,o5⟩:=za0 h2;have hdok:dok N dst=true:=by
    cases hds:dst with
    | none=>rfl
    | some t'=>exact(hd i t' hin (by rw[hdst,hds])).1
   have hub:=aQh (l:=listed) (i:=i) (by omega);have after:∀ (γ':Gh) v w'' F'',(∀ j t' x',j≠i->nth es j=some (t',x')->x'.d γ' j=x'.d γ j)->Good C (HF (ub (λj=>listed.getD j true) i) γ') w'' F''->Keep w' F' w'' F''->(dst=some t->D.rep w'' F'' (x.d γ' i) v)->
    wpAny P .any ops.toArray (λe a' w'=>Ok N a'/\∃ F',Q e (zF a') w' F') fuel (listed.setIfInBounds i true) (a.put o.dst v) w'':=by
    intro γ' v w'' F'' hoth g' kp hv;have henv:zF (a.put o.dst v)=upd (zF a) dst v:=(by rw[o2];exact zcB ok hdok v);rw[<-hub] at g';refine ih _ γ' _ _ F'' (by simp[hs]) ?_ (ok.put _ _) ?_ g' ?_ ?_ ?_ ?_
    · have:=zeh hil hs hu;omega
    · rw[henv];cases hds:dst with
      | none=>exact hk.keep kp
      | some t'=>exact(hk.keep kp).other (hd i t' hin (by rw[hdst,hds])).2.1
    · intro j t' x' hj hl hn';rw[henv];rcases hdn2 j hj t' x' hn' with ⟨e1,e2⟩ | ⟨e1,e2,e3⟩
      · by_cases hij:i=j
        · subst hij;rw[h1] at hn';cases hn';rw[hdst] at e1;subst e1;simpa [upd] using hv rfl
        rw[getD_set_ne true hij] at hl;have hkeep:upd (zF a) dst v t'=zF a t':=by
         cases hds:dst with
         | none=>rfl
         | some t2=>
          have:t'≠t2:=(by rintro rfl;exact hne i j t' hin hj hij (by rw[hdst,hds]) e1);simp only[upd,this,if_false]
        rw[hkeep,hoth j t' x' (λe=>hij e.symm) hn'];exact D.keep kp _ _ (hh j t' x' hj hl hn')
      rw[<-henv];have:x'.d γ' j=.v undef:=(by cases x'<;>simp[Ey.isS] at e3;rfl);rw[this];exact hfar _ (ok.put _ _) t' e2
    · intro j hj hl k hk';by_cases hij:i=j
      · subst hij;have:=hpl k hk';have hki:i≠k:=(by have:=hpre i hil k hk';omega);rw[getD_set_ne true hki];exact this
      rw[getD_set_ne true hij] at hl;have:=hdn j hj hl k hk';by_cases hik:i=k
      · subst hik;rw[hu] at this;cases this
      rw[getD_set_ne true hik];exact this
    · intro j hj hjl;rw[getD_set_ne true (by omega)];exact ht j hj hjl
    intro hl;by_cases hiz:i=z
    · subst hiz;rw[show (listed.setIfInBounds i true).getD i true=true from by simp[show i<listed.size by omega]] at hl;cases hl
    rw[getD_set_ne true hiz] at hl;rw[henv];have hkeep:upd (zF a) dst v t0=zF a t0:=by
     cases hds:dst with
     | none=>rfl
     | some t2=>
      have:t0≠t2:=(by rintro rfl;exact hne i z t0 hin hzn hiz (by rw[hdst,hds]) hzd);simp only[upd,this,if_false]
    rw[hkeep];exact D.keep kp _ _ (hz0 hl)
   have hDu:(λj=>listed.getD j true) i=false:=hu;have gs:=(hs0 (λj=>listed.getD j true) γ).out _ _ _ g;have run:runX P ops n op ty (kpre (geny γ 0 es) (kz ops z t0 d0 K i) (zM ops i)) Hs HF γ i x->EOp P op ty (zF a) w' (λv w''=>wpAny P .any ops.toArray (λe a' w'=>Ok N a'/\∃ F',Q e (zF a') w' F') fuel (listed.setIfInBounds i true) (a.put o.dst v) w''):=by
    intro hrun;cases x with
    | q d=>
     obtain ⟨hrun,hf⟩:=hrun;refine(Qu.out hrun _ w' F' hkp g.flt gs.h.ok).mono ?_;rintro v w'' ⟨E,hrep⟩;rw[<-hf] at g;obtain ⟨g',kp⟩:=Good.fn g E;exact after γ v w'' _ (λ_ _ _ _ _=>rfl) g' kp (λ_=>hrep)
    | s=>
     refine((hrun _ hDu hdn hpl).out C _ w' F' hkp g).mono ?_;rintro v w'' ⟨F'',d',H'',rfl,hrep,g',kp⟩;refine after γ v w'' F'' (λ_ _ _ _ _=>rfl) g' kp (λht'=>?_);rcases hdx with ⟨_,e⟩ | ⟨e,_,_⟩
     · cases e
     rw[e] at ht';cases ht'
    | e d=>
     refine((hrun _ hDu hdn hpl).out C _ w' F' hkp g).mono ?_;rintro v w'' ⟨F'',d',H'',⟨rfl,rfl⟩,hrep,g',kp⟩;exact after γ v w'' F'' (λ_ _ _ _ _=>rfl) g' kp (λ_=>hrep)
    | f m=>
     refine((hrun _ hDu hdn hpl).out C _ w' F' hkp g).mono ?_;rintro v w'' ⟨F'',d',H'',⟨vv,rfl,rfl⟩,hrep,g',kp⟩;refine after (ug γ i vv) v w'' F'' (λj t' x' hj _=>?_) g' kp ?_
     · cases x' with
       | q _=>rfl
       | e _=>rfl
       | s=>rfl
       | f _=>simp only[Ey.d,zgE γ vv hj]
     intro _;simp only[Ey.d,qI];exact hrep
   unfold wpOp;rw[o1];simp only;rw[aB (by unfold Region.wanted;rw[o5])];left;apply zcw;rw[o3,o4];exact run h3
 have gd:=(Good.fn g (Ext.drew w)).1;have hkd:=hk.keep (Good.fn g (Ext.drew w)).2;have hzz:∀ i,i<n->(Array.replicate ops.toArray.size false).getD i true=false:=λi hi=>by
  have:i<ops.length:=by omega
  simp[this]
 refine key ops.toArray.size (Array.replicate ops.toArray.size false) (λ_=>undef) a _ _ (by simp) ?_ ok hkd (by rw[h0 _ _ hzz];exact gd) (λi t x hi hl=>?_) (λi hi hl=>?_) (λi _ hi=>?_) (λ_=>D.keep (Good.fn g (Ext.drew w)).2 _ _ hd0)
 · unfold cnt;refine jM (vM) (by simp)
 · rw[hzz i hi] at hl;cases hl
 · rw[hzz i hi] at hl;cases hl
 simp[hi]
end
section
variable {P:Program} {fn:Func} {C:Ctx} {κ:Kc} {K:Kd} {H:List Hp} {p:List Bool}
def tDz (n z t0:Nat) (d0:D) (es:List (Tmp×Ey)) (Hs:List Hp) (HF:HFn) (Hn:Gh->List Hp) (hm:P.follows .mixedOrders=true) (hc:zcU (cd (zap fn) p)=some true) (hlen:Nat.beq es.length n=true) (hB:zeY (zaL (cd (zap fn) p)) n fn.ntmps (K.map λx=>(x.1,Value.nilFunc))=true) (hs0:∀ D γ,HSub (HF D γ) Hs)
 (h0:∀ γ (D:Nat->Bool),(∀ i,i<n->D i=false)->HF D γ=H) (hHn:∀ γ (D:Nat->Bool),(∀ i,i<n->D i=true)->HF D γ=Hn γ) (hz:Nat.blt z n=true) (hzd:zW (zaL (cd (zap fn) p)) z=some t0)
 (hsteps:∀ γ,zfL P fn.ntmps n (zaL (cd (zap fn) p)) z t0 d0 K Hs HF γ es 0 n) (next:∀ γ,T P fn C (.o p n) κ (enK (geny γ 0 es) K) (Hn γ)):T P fn C (.c p) κ ((t0,d0)::K) H:=⟨aNb n z t0 d0 es Hs HF Hn hm hc hlen hB hs0 h0 hHn hz hzd hsteps λγ=>(next γ).out⟩
end
end Lp
set_option maxHeartbeats 4000000
set_option maxRecDepth 100000
namespace Lp
open Go Go.RowKit Go.Proofs Tryz
def aLk (v:Int) :
 CD prog 29 [] [dI v] (isR (dB (zD v))):=by
 refine tZ func29 O O (λC=>?_);refine g' 10 O ?_;refine tAnd 2 2 (c:=decide (v<=(1000000000000:Int))) O O O O O O (λhb1 nx2=>?_) ?_
 · have hf3:=aF hb1;refine g' 2 O ?_;exact nx2 _ O O (kx 2 O O)
 refine g' 4 O ?_;exact tRs O results29 (.cons (zc (za O) (cB ((by unfold zD;first | rfl | simp[*] | (simp_all;done))))) .nil) O HSub.none ⟨O,O⟩
def aI9 (l:List Lbl) (name:Ba) :
 CD prog 28 [] [.sh 2 (l.map Lbl.d),.s name] (isR (D.s (getL l name))):=by
 refine tZ func28 O O (λC=>?_);refine T.bd 0 O (λbd0=>?_);have nl0:=zy bd0;refine T.bd 1 O (λbd1=>?_);have sz1:name.size<=9223372036854775807:=bd1;refine g' 12 O (tl1 (λ(a_:Nat)=>[(0,.sh 2 (l.map Lbl.d)),(1,.s name),(5,dN a_)]) (λa_=>[]) (λa_=>(getL l name=getL (l.drop a_) name)) (λa_=>l.length-a_) 0 O (sa O) w8 O ?_);rintro k hf;refine g' 5 O (tP O (zH (n:=l.length) O aM (by simp only[lm,lc,ln])) (g' 3 O ?_));refine tD O (λhc1=>?_) (λhc1=>?_)
 · refine g' 8 O ?_;obtain ⟨x1,hx1⟩:=zi l k (by omega);refine tP O (zf (k:=k) O O aM aU (by first | rfl | omega) (zd hx1)) (g' 6 O ?_);refine tD O (λhc2=>?_) (λhc2=>?_)
   · refine g' 4 O (tP O (zf (k:=k) O O aM aU (by first | rfl | omega) (zd hx1)) (g' 11 O ?_));exact tRs O results28 (.cons (zc (za O) (w6 (aG D.s (by exact aGq hx1 hf hc2)))) .nil) O HSub.none ⟨O,O⟩
   refine g' 5 O (tP O (zq (c:=((k+1:Nat):Int)) O O (zh (by omega) (by omega))) (g' 2 O ?_));exact tp1 (k+1) (sa O) w8 (sJ hx1 hf hc2) (by omega)
 refine g' 11 O ?_;exact tRs O results28 (.cons (zc (za O) ((cS).trans (w6 (aG D.s (by exact aA3 (by omega) hf))))) .nil) O HSub.none ⟨O,O⟩
end Lp
namespace Lp
open Go Go.RowKit
section
variable {P:Program} {N:Nat} {C:Ctx} {ty:TypeId} {K:Kd} {H:List Hp}
def qS {us:List Value} {xs:List D} {w:World} {F:Nat->Prop} (hr:RepE w F 2 xs us):(us.flatMap vcs).length=xs.length*2:=by
 rw[zcQ (z:=2) hr.size,hr.len]
def aGb {l:List Value} (h:l.length=2):∃ a b,l=[a,b]:=by
 match l,h with
 | [a,b],_=>exact⟨a,b,rfl⟩
def zd3 {us:List Value} (h:∀ x∈us,(vcs x).length=2) (n:Nat):(us.flatMap vcs).take (n*2)=(us.take n).flatMap vcs:=by
 induction us generalizing n with
 | nil=>simp
 | cons y r ih=>
  cases n with
  | zero=>simp
  | succ n=>
   obtain ⟨c,d,hc⟩:=aGb (h y cR);rw[show (n+1)*2=n*2+1+1 by omega];simp only[jK,vW,hc,jX,dY];rw[ih (λx hx=>h x (cV _ hx))]
def oL {us:List Value} (h:∀ x∈us,(vcs x).length=2) (n:Nat):(us.flatMap vcs).drop (n*2)=(us.drop n).flatMap vcs:=by
 induction us generalizing n with
 | nil=>simp
 | cons y r ih=>
  cases n with
  | zero=>simp
  | succ n=>
   obtain ⟨c,d,hc⟩:=aGb (h y cR);rw[show (n+1)*2=n*2+1+1 by omega];simp only[jK,List.drop_succ_cons,hc,jX,dY];rw[ih (λx hx=>h x (cV _ hx))]
def fT {w:World} {t t' ty e g o dLen dCap sLen sCap:Nat} {a:Addr} {cs cc:List Value} {T:TypeId} (hu:P.underlying t=some (.slice e)) (hs:∀ w,(Go.sizeOf e).run P w=.ok 2 w) (hB:Box w g T cc) (hn:cs.length=Nat.min sLen dLen*2) (hsrc:∀ j v,cs[j]?=some v->w.cell? (a.add j)=some v)
 (ho:o+cs.length<=cc.length) (h1:∀ v∈cs,v.oneCell'=true):∃ w',(Builtin.copy_ #[t,t'] ty #[.slice (some ⟨g,o,none⟩) dLen dCap,.slice (some a) sLen sCap]).run P w=.ok (goInt (Nat.min sLen dLen)) w'/\Box w' g T (spl cc o cs)/\Upd g (g+1) w w'/\w'.heap.size=w.heap.size:=by
 have hl:=run_loadCells_list (P:=P) w a cs hsrc;obtain ⟨w',h2,h3,h4,h5⟩:=eO P g T cs w cc o 0 hB (by simpa using ho) h1;refine⟨w',?_,by simpa using h3,h4,h5⟩;simp[Builtin.copy_,run_underlying hu,Builtin.lenOf,Builtin.firstCells,hs,<-hn,hl,h2]
def m8 {w:World} {g n c:Nat} {T:TypeId} {us:List Value} {r:List Value} (hB:Box w g T (us.flatMap vcs++r)) (hl:(us.flatMap vcs++r).length=c*2) (hz:∀ x∈us,(vcs x).length=2) (hn:us.length=n) (hc:n<=c) (hm:c<=maxLen):Own vcs 2 T w 0 (.slice (some ⟨g,0,none⟩) n c) us:=by
 have hf:=zcQ (z:=2) hz;refine⟨⟨by rw[hf],.inr ⟨g,c,(us.flatMap vcs++r).toArray,by rw[hn],cT _,hB,by omega,hm,by simpa using hl,?_⟩⟩,hz⟩;rw[<-hf];simp
def Good.row2 {H:List Hp} {w w':World} {F:Nat->Prop} {i g:Nat} {v v':Value} {T:TypeId} {xs xs':List D} (gd:Good C H w F) (hm:nth H i=some (.sl v 2 T xs)) (hg:v.ownBlock=some g) (hg':v'.ownBlock=some g) (U:Upd g (g+1) w w') (ok:Keep w F w' F->(Hp.sl v' 2 T xs').ok w' F):Good C (H.set i (.sl v' 2 T xs')) w' F/\Keep w F w' F:=
 gd.turn hm (λb hb hn=>U.block b hb (by
  have:g≠b:=λe=>hn (by show v.ownBlock=_;rw[hg,e])
  omega)) U.size U.os U.tape U.output U.drawn (λb e=>.inl (by show v.ownBlock=_;rw[hg];have e':v'.ownBlock=some b:=e;rw[hg'] at e';exact e')) ok
def lM {x y:Operand} {t t' e:TypeId} {i a n:Nat} {v:Value} {T:TypeId} {xs:List D} (hm:nth H i=some (.sl v 2 T xs)) (hn:xs.length=n) (hx:opD K x=some (.v (cut 2 (cut 2 v 0 (n+1)) (a+1) (n+1)))) (hy:opD K y=some (.v (cut 2 (cut 2 v 0 (n+1)) a (n+1))))
 (ht:P.underlying t=some (.slice e)) (hs:∀ w,(Go.sizeOf e).run P w=.ok 2 w) (ha:a<n) (hc:n+1<=capV v):Ef P (.call { callee:=.builtin .copy,args:=#[x,y],argTypes:=#[t,t'] }) ty K H (λd H'=>d=.v (.int .i64 ((n-a:Nat):Int))/\H'=H.set i (.sl (cut 2 v 0 (n+1)) 2 T (xs.take (a+1)++xs.drop a))):=
 ⟨λC ρ w F hk gd=>by
  obtain ⟨us,hr,ho⟩:=gd.h.ok _ (zU hm);have hul:=hr.len;obtain ⟨A,hv,_,hmx,hA⟩:=zbQ ho;obtain ⟨g,r,rfl,hB,hl,hgb⟩:=hA (by omega);generalize hcv:capV v=c at*;have hf:=qS hr;have e0:cut 2 v 0 (n+1)=.slice (some ⟨g,0,none⟩) (n+1) c:=by rw[hv,zct (by omega)];simp
  have e1:cut 2 (cut 2 v 0 (n+1)) (a+1) (n+1)=.slice (some ⟨g,(a+1)*2,none⟩) (n-a) (c-(a+1)):=by rw[e0,zct (by omega)];simp[Nat.add_sub_add_right]
  have e2:cut 2 (cut 2 v 0 (n+1)) a (n+1)=.slice (some ⟨g,a*2,none⟩) (n+1-a) (c-a):=by rw[e0,zct (by omega)]
  have hx':ev ρ x=_:=hk.op hx;have hy':ev ρ y=_:=hk.op hy;rw[e1] at hx';rw[e2] at hy';have hdl:((us.flatMap vcs).drop (a*2)).length=(n-a)*2:=by rw[c7,hf,hn];omega
  have hmin:Nat.min (n+1-a) (n-a)=n-a:=by simp only[Nat.min_def];split<;>omega
  obtain ⟨w',hrun,hB',U,hsz⟩:=fT (P:=P) (t:=t) (t':=t') (ty:=ty) (dLen:=n-a) (dCap:=c-(a+1)) (sLen:=n+1-a) (sCap:=c-a) (a:=⟨g,a*2,none⟩) (o:=(a+1)*2) (cs:=(us.flatMap vcs).drop (a*2)) ht hs hB (by rw[hdl,hmin])
   (λj u hj=>by
    rw[add0];have:=hB.at_.2 (a*2+j) u (by rw[uH (by rw[hf];have:=(cQ.1 hj).1;rw[hdl] at this;omega)];rwa [j8] at hj);simpa using this) (by rw[hdl,hl];omega) (λu hu=>iP hr.one u (vB hu))
  refine aCs hx' hy' hrun ?_;have hz:=hr.size;have hsp:spl (us.flatMap vcs++r) ((a+1)*2) ((us.flatMap vcs).drop (a*2))=(us.take (a+1)++us.drop a).flatMap vcs++r.drop 2:=by
   have hd:(us.flatMap vcs++r).drop ((a+1)*2+(n-a)*2)=r.drop 2:=(by rw[wK,dX (by rw[hf];omega),hf,dY,show (a+1)*2+(n-a)*2-xs.length*2=2 by omega]);unfold spl;rw[hdl,hd,jH (by rw[hf];omega),zd3 hz,oL hz,jW]
  rw[hsp] at hB';have hr2:RepE w F 2 (xs.take (a+1)++xs.drop a) (us.take (a+1)++us.drop a):=(hr.take _).app (hr.drop _);have hl2:(us.take (a+1)++us.drop a).length=n+1:=by simp only[cO,cY,c7];omega
  have key:=gd.row2 (v':=cut 2 v 0 (n+1)) (xs':=xs.take (a+1)++xs.drop a) hm hgb (by rw[e0];rfl) U (λkp=>⟨_,hr2.keep kp,by
   rw[e0];refine m8 hB' ?_ hr2.size hl2 hc hmx;rw[<-hsp,zbW _ _ _ (by rw[hdl,hl];omega),hl]⟩)
  exact⟨F,_,_,⟨O,O⟩,by show _=_;rw[hmin];rfl,key.1,key.2⟩⟩
def fP {x y:Operand} {t t' e:TypeId} {i a b:Nat} {v:Value} {T:TypeId} {xs ys:List D} {d:D} (hm:nth H i=some (.sl v 2 T xs)) (hx:opD K x=some (.v (cut 2 v a b))) (hy:opD K y=some d) (hsrc:SrcD H 2 d ys) (ht:P.underlying t=some (.slice e)) (hs:∀ w,(Go.sizeOf e).run P w=.ok 2 w)
 (h0:0<ys.length) (hab:a+ys.length<=b) (hb:b<=xs.length) (ho':ys.length<=b-a):Ef P (.call { callee:=.builtin .copy,args:=#[x,y],argTypes:=#[t,t'] }) ty K H (λd H'=>d=.v (.int .i64 ((ys.length:Nat):Int))/\H'=H.set i (.sl v 2 T (xs.take a++ys++xs.drop (a+ys.length)))):=
 ⟨λC ρ w F hk gd=>by
  obtain ⟨us,hr,ho⟩:=gd.h.ok _ (zU hm);have hul:=hr.len;obtain ⟨A,hv,hle,hmx,hA⟩:=zbQ ho;obtain ⟨g,r,rfl,hB,hl,hgb⟩:=hA (by omega);obtain ⟨vs,hvs,hsl⟩:=hsrc.out w F _ gd.flt gd.h.ok (hk.op hy);generalize hcv:capV v=c at*;have hf:=qS hr;have hfv:=qS hvs;have hvl:=hvs.len;have hx':ev ρ x=_:=hk.op hx;rw[hv,zct (by omega)] at hx';obtain ⟨A',c',e1,e2,e3,e4,_⟩:=hsl;simp only[cN] at e1 e2;obtain ⟨b',o',rfl,_,_,hat⟩:=e4 (by intro e;simp at e;subst e;simp at hvl;omega);have hcell:∀ j u,(vs.flatMap vcs)[j]?=some u->w.cell? ((⟨b',o',none⟩:Addr).add j)=some u:=by
   intro j u hj;rw[add0];have hz:=hvs.size;have hjl:j / 2<vs.length:=(by have:=(cQ.1 hj).1;rw[hfv,<-hvl] at this;omega);obtain ⟨q,hq⟩:∃ q,vs[j / 2]?=some q:=⟨_,dL hjl⟩;obtain ⟨c0,c1,hc⟩:=aGb (hz q (dA hq));have hj2:j=j / 2*2+j % 2:=(by omega);have hm2:j % 2=0\/j % 2=1:=(by omega);have hqu:(vcs q)[j % 2]?=some u:=by
    rcases hm2 with e | e
    · have:=zdp (cs:=vcs) hz (j / 2) q hq 0 c0 (by rw[hc];rfl);rw[e] at hj2 ⊢;rw[<-hj2,hj] at this;rw[hc];exact this.symm
    have:=zdp (cs:=vcs) hz (j / 2) q hq 1 c1 (by rw[hc];rfl);rw[e] at hj2 ⊢;rw[<-hj2,hj] at this;rw[hc];exact this.symm
   have:=(hat (j / 2) (vcs q) (by rw[d9,hq];rfl)).2 (j % 2) u hqu;have he:o'+j / 2*2+j % 2=o'+j:=by omega
   rwa [he] at this
  have hmin:Nat.min vs.length (b-a)=ys.length:=by rw[hvl];simp only[Nat.min_def];split<;>omega
  obtain ⟨w',hrun,hB',U,hsz⟩:=fT (P:=P) (t:=t) (t':=t') (ty:=ty) (dLen:=b-a) (dCap:=c-a) (sLen:=vs.length) (sCap:=c') (a:=⟨b',o',none⟩) (o:=a*2) (cs:=vs.flatMap vcs) ht hs hB (by rw[hfv,hmin]) hcell (by rw[hfv,hl];omega) (iP hvs.one);refine aCs hx' (e1 ▸ O) hrun ?_;have hz:=hr.size;have hsp:spl (us.flatMap vcs++r) (a*2) (vs.flatMap vcs)=(us.take a++vs++us.drop (a+ys.length)).flatMap vcs++r:=by
   unfold spl;rw[hfv,<-j9,jH (by rw[hf];omega),zd3 hz,vK (by rw[hf];omega),oL hz,jW,jW,cP,cP,cP]
  rw[hsp] at hB';have hl2:(us.take a++vs++us.drop (a+ys.length)).length=us.length:=by simp only[cO,cY,c7];omega
  have key:=gd.row2 (v':=v) (xs':=xs.take a++ys++xs.drop (a+ys.length)) hm hgb hgb U (λkp=>⟨_,(((hr.take _).keep kp).app (hvs.keep kp)).app ((hr.drop _).keep kp),by
   rw[hv];have hr2:=((hr.take a).app hvs).app (hr.drop (a+ys.length));refine m8 hB' ?_ hr2.size hl2 hle hmx;rw[<-hsp,zbW _ _ _ (by rw[hfv,hl];omega),hl]⟩)
  exact⟨F,_,_,⟨O,O⟩,by show _=_;rw[hmin];rfl,key.1,key.2⟩⟩
def iA {x y:Operand} {t tn:TypeId} {j a k:Nat} {v zv:Value} {T:TypeId} {xs:List D} {d:D} {kn kq:IntKind} {m:Int} {by_:Nat} (hm:nth H j=some (.sl v 2 T xs)) (hx:opD K x=some (.v (cut 2 v 0 a))) (hy:opD K y=some (.v (.int kq m))) (hk':m=(k:Int)) (ht:P.underlying t=some (.slice T)) (htn:P.underlying tn=some (.int kn))
 (hi':∃ i,P.info? T=some i/\i.zero=some zv/\i.size=2/\i.bytes=by_) {c0:Value} (hz1:zv.cells=#[c0,c0]) (h0c:c0.oneCell'=true) (hd:Cv (.v zv) d) (ha:a<=xs.length) (hc:capV v<a+k) (h0:0<capV v) (hk0:0<k) (hb:(a+k)*by_<=140737488355328) (hl:a+k<=maxLen):
 Ef P (.call { callee:=.builtin .append,args:=#[x,y],argTypes:=#[t,tn] }) ty K H (λd' H'=>∃ v',d'=.ov v'/\H'=.sl v' 2 T (xs.take a++List.replicate k d)::H):=
 ⟨λC ρ w F hk gd=>by
  obtain ⟨us,hr,ho⟩:=gd.h.ok _ (zU hm);have hul:=hr.len;obtain ⟨A,hv,hle,hmx,hA⟩:=zbQ ho;obtain ⟨g,r,rfl,hB,hlb,hgb⟩:=hA h0;obtain ⟨i,q1,q2,q3,q4⟩:=hi';generalize hcv:capV v=c at*;have hf:=qS hr;have hz:=hr.size;have hx':ev ρ x=_:=hk.op hx;have hy':ev ρ y=_:=hk.op hy;rw[hv,zct (by omega)] at hx';subst hk';have hold:(Builtin.firstCells i.size (a-0) (.slice (some ⟨g,0*2,none⟩) (a-0) (c-0))).run P w.drew=.ok ((us.take a).flatMap vcs).toArray w.drew:=by
   rw[q3];refine run_firstCells_some w.drew 2 (a-0) ⟨g,0*2,none⟩ (a-0) (c-0) ((us.take a).flatMap vcs) (by rw[<-zd3 hz,cY,hf];omega) (λj u hj=>?_);rw[add0,vY,dS];rw[<-zd3 hz,j0] at hj;split at hj
   · have h1:=(cQ.1 hj).1;have:=hB.at_.2 j u (by rw[uH h1];exact hj);have e:w.drew.cell? ⟨g,j,none⟩=w.cell? ⟨g,j,none⟩:=rfl;rw[e];simpa using this
   cases hj
  have hu63:((a-0+k:Nat):Int)<=9223372036854775807:=by unfold maxLen at hl;omega
  have hk48:k*i.bytes<=281474976710656:=by
   rw[q4];have:k*by_<=(a+k)*by_:=jP _ (by omega);omega
  have hrun:=Lib.run_append_grow_zeros (P:=P) w t tn ty T i zv kq kn ht htn q1 q2 (some ⟨g,0*2,none⟩) (a-0) (c-0) _ hold k hk0 (by omega) (by omega) hu63 hk48 (by rw[q4];exact growslice_fits (by omega) (by simpa using hb));have hn:New w (w.drew.alloc (.cells (((us.take a).flatMap vcs).toArray++Builtin.zeroCells zv.cells k++Builtin.zeroCells zv.cells (grownCap w (a-0+k) (c-0) T-(a-0+k))) T)) w.heap.size T (((us.take a).flatMap vcs).toArray++Builtin.zeroCells zv.cells k++Builtin.zeroCells zv.cells (grownCap w (a-0+k) (c-0) T-(a-0+k))).toList:=by
   have n0:=wT w.drew T (((us.take a).flatMap vcs).toArray++Builtin.zeroCells zv.cells k++Builtin.zeroCells zv.cells (grownCap w (a-0+k) (c-0) T-(a-0+k)));exact⟨O,n0.box,(Ext.drew w).trans n0.ext,n0.size⟩
  have hzc:∀ n,(Builtin.zeroCells zv.cells n).toList=List.replicate (n*2) c0:=by
   intro n;rw[hz1];unfold Builtin.zeroCells;have hf:(λi=>(#[c0,c0]:Array Value)[i % (#[c0,c0]:Array Value).size]!)=λ_=>c0:=by
    funext i
    have:i % (#[c0,c0]:Array Value).size=0\/i % (#[c0,c0]:Array Value).size=1:=(by show i % 2=0\/i % 2=1;omega);rcases this with e | e<;>(rw[e];rfl)
   rw[hf,wJ,List.map_const'];simp
  refine wS (by simp only[execOp,zao,resolve,invoke,builtin,Sem.run_bind,Sem.run_pure,Result.andThen_ok,List.map_toArray,jS,List.map_nil,hx',hy',hrun];rfl) ?_;have hG:=grownCap_ge w (a-0+k) (c-0) T;have hG2:=grownCap_le_maxLen w (a-0+k) (c-0) T (by simpa using hl);have hrep:∀ {w':World} n,RepE w' F 2 (List.replicate n d) (List.replicate n zv):=λn=>RepE.rep n (hd.out _ _ _ rfl) (λc hc=>by rw[hz1] at hc;simp at hc;rw[hc];exact h0c) (by rw[hz1];rfl)
  have hrz:∀ n:Nat,(List.replicate n zv).flatMap vcs=List.replicate (n*2) c0:=by
   intro n;induction n with
   | zero=>rfl
   | succ n ih=>rw[vG,jK,ih,show vcs zv=[c0,c0] from by unfold vcs;rw[hz1],show (n+1)*2=n*2+1+1 by omega];rfl
  have hr2:=(hr.take a).app (hrep (w':=w) k);have hl2:(us.take a++List.replicate k zv).length=a-0+k:=by rw[cO,cY,uC];omega
  refine⟨F,_,_,⟨_,O,O⟩,⟨O,O⟩,gd.born hn ⟨us.take a++List.replicate k zv,hr2.keep (Keep.ext hn.ext),?_⟩ (λb e=>by cases e;rfl),Keep.ext hn.ext⟩;have hbx:=hn.box;have e:(((us.take a).flatMap vcs).toArray++Builtin.zeroCells zv.cells k++Builtin.zeroCells zv.cells (grownCap w (a-0+k) (c-0) T-(a-0+k))).toList=(us.take a++List.replicate k zv).flatMap vcs++List.replicate ((grownCap w (a-0+k) (c-0) T-(a-0+k))*2) c0:=by
   rw[vX,vX,hzc,hzc,jW,hrz]
  rw[e] at hbx;refine m8 hbx ?_ hr2.size hl2 hG hG2;rw[cO,jW,hrz,cO,<-zd3 hz,cY,hf,uC,uC];omega⟩
end
end Lp
namespace Lp
open Go Go.RowKit Go.Proofs Tryz
def yV {ty:TypeId} {K:Kd} {H:List Hp} {x y:Operand} {ats:Array TypeId} {i j a b m:Nat} {u v:Value} {T T':TypeId} {xs ys:List D} (hx:opO K x=some u) (hi:nth H i=some (.sl u 2 T' ys)) (hy:opD K y=some (.v (cut 2 (cut 2 v 0 m) a b))) (hj:nth H j=some (.sl v 2 T xs)) (hij:Nat.beq i j=false) (hm:m<=capV v) (ha:a<m) (hl:0<ys.length)
 (hA:H.Pairwise zd9):Pu prog (.call { callee:=.value (.func 50),args:=#[x,y],argTypes:=ats }) ty K H (dB false):=
 ⟨λρ w F hk _ hH=>by
  obtain ⟨us,hr,ho⟩:=hH _ (zU hi);obtain ⟨vs,hr',ho'⟩:=hH _ (zU hj);have h1:=ho.len;rw[hr.len] at h1;obtain ⟨A,hu,hle,_,hB⟩:=zbQ ho;rw[hr.len] at hu hle;obtain ⟨g,r,rfl,hBx,_,hg⟩:=hB (by omega);obtain ⟨A',hv,_,_,hB'⟩:=zbQ ho';obtain ⟨g',r',rfl,hBx',hl',hg'⟩:=hB' (by omega);have hne:g≠g':=by
   intro e;have hi':H[i]?=_:=(zaH H i).symm.trans hi;have hj':H[j]?=_:=(zaH H j).symm.trans hj;exact iH (λ_ _=>zd9.symm) hA hi' hj' (λe=>by rw[e,jT] at hij;cases hij) g hg (by show v.ownBlock=_;rw[hg',e])
  have hx':ev ρ x=_:=hk.opO hx;have hy':ev ρ y=_:=hk.op hy;generalize hcv:capV v=c at*;rw[hu] at hx';have e0:cut 2 v 0 m=vS g' m c:=by rw[hv,zct (by omega)];simp
  rw[e0,zct (by omega)] at hy';have hrun:(callFunc 50 #[ev ρ x,ev ρ y]).run prog w=.ok (.value (.bool false)) w:=by
   rw[hx',hy',run_callFunc_extern func50 (by kernel_rfl) (by kernel_rfl) (by kernel_rfl) (e:=Extern.SlicesOverlaps.overlaps #[27,27] #[4]) (by kernel_rfl)];rw[Lib.run_overlaps_apart w 27 4 70 (show Tryz.prog.underlying 27=some (.slice 70) by kernel_rfl) 2 aV ⟨g,0,none⟩ ⟨g',a*2,none⟩ _ _ _ _ hne _ _ _ _ hBx.shape hBx'.shape (by omega) (hBx.frozen 0) (hBx.frozen _)];rfl
  have e2:ev ρ (.func 50)=.func (.func 50) #[] #[]:=rfl;exact wS (v:=.bool false) (w':=w) (by simp[execOp,zao,resolve,e2,Deferred.ofValue,invoke,hrun]) ⟨O,O⟩⟩
def aJg (v u:Value) (xs:List D) (y:D) (i:Nat) (hi:i<=xs.length) (hl:xs.length<=1000000):
 CD prog 25 [.sl v 2 70 (xs),.sl u 2 70 ([y])] [.ov v,dN i,.ov u] (λr H'=>∃ v',r=.ov v'/\H'=[.sl v' 2 70 (xs.take i++y::xs.drop i)]):=by
 refine tZ func25 O O (λC=>?_);refine T.ov1 0 O (λho1=>?_);refine g' 9 O (tP O (zad (a:=i) (b:=xs.length) (j:=0) O O O O (by first | rfl | (show _=_;omega) | (show _=_;simp only[la,lc,ln,lm,lt',ld,ls,lr];omega)) (by first | rfl | (show _=_;omega) | (show _=_;simp only[la,lc,ln,lm,lt',ld,ls,lr];omega)) aO aV (by omega) (by first | rfl | omega | (simp only[la,lc,ln,lm,lt',ld,ls,lr];omega))) (g' 5 O (tP O (zK (n:=1) (j:=1) O O aO (by first | rfl | omega | (simp only[la,lc,ln,lm,lt',ld,ls,lr];omega))) (g' 10 O ?_))));refine tD O (λhc1=>?_) (λhc1=>?_)
 · exfalso;omega
 refine g' 5 O (tP O (zK (n:=xs.length) (j:=0) O O aO (by first | rfl | omega | (simp only[la,lc,ln,lm,lt',ld,ls,lr];omega))) (g' 11 O ?_));refine tD O (λhc2=>?_) (λhc2=>?_)
 · have hi2:i=xs.length:=(by omega);refine g' 4 O (tE O (gH (i:=0) O O O (mF (j:=1) O O) zep zcP O O (by unfold maxLen;show _+1<=_;omega) (by show (_+1)*_<=_;omega)) ?_);rintro _ _ ⟨v3,rfl,rfl⟩;refine g' 5 O (mX [.sl v3 2 70 (xs.take i++y::xs.drop i),.sl u 2 70 ([y])] (by rw[show xs++[y]=xs.take i++y::xs.drop i from by first | exact zfx hi2 | exact zeL hi3 | exact zdL hi3]<;>rfl) ?_);exact tR O (mO 1 O) ⟨v3,O,O⟩
 have hi3:i<xs.length:=by omega
 refine g' 7 O (tP O (zq (c:=((xs.length+1:Nat):Int)) O O (zh (by omega) (by omega))) (g' 1 O ?_));refine T.cap 0 O (λhc1 hc2=>?_);refine tP O (aYe (j:=0) O O aO) (g' 3 O ?_);refine tD O (λhc4=>?_) (λhc4=>?_)
 · refine g' 4 O (tP O (zad (a:=0) (b:=i) (j:=0) O O O O (by first | rfl | (show _=_;omega) | (show _=_;simp only[la,lc,ln,lm,lt',ld,ls,lr];omega)) (by first | rfl | (show _=_;omega) | (show _=_;simp only[la,lc,ln,lm,lt',ld,ls,lr];omega)) aO aV (by omega) (by first | rfl | omega | (simp only[la,lc,ln,lm,lt',ld,ls,lr];omega))) (g' 2 O (tP O (zq (c:=((xs.length+1:Nat):Int)) O O (zh (by omega) (by omega))) (g' 1 O (tP O (zR (c:=(((xs.length+1)-i:Nat):Int)) O O (zh (by omega) (by omega))) (tE O (iA (j:=0) (k:=xs.length+1-i) O O O (by first | rfl | omega) zep (show Tryz.prog.underlying 3=some (.int .i64) by kernel_rfl) zcP O O (w7 (by decide)) (by omega) (by omega) (by omega) (by omega) (by omega) (by unfold maxLen;omega)) ?_))))));rintro _ _ ⟨v5,rfl,rfl⟩;refine g' 7 O (tP O (zad (a:=i) (b:=xs.length+1) (j:=0) O O O O (by first | rfl | (show _=_;omega) | (show _=_;simp only[la,lc,ln,lm,lt',ld,ls,lr];omega)) (by first | rfl | (show _=_;omega) | (show _=_;simp only[la,lc,ln,lm,lt',ld,ls,lr];omega)) aO aV (by omega) (by first | rfl | omega | (simp only[la,lc,ln,lm,lt',ld,ls,lr];omega))) (g' 1 O (tE O (fP (i:=0) (a:=i) (b:=xs.length+1) O O O (mF (j:=2) O O) zep aV Nat.zero_lt_one (by first | rfl | omega | (simp only[la,lc,ln,lm,lt',ld,ls,lr];omega)) (by first | rfl | omega | (simp only[la,lc,ln,lm,lt',ld,ls,lr];omega)) (by first | rfl | omega | (simp only[la,lc,ln,lm,lt',ld,ls,lr];omega))) ?_)));rintro _ _ ⟨rfl,rfl⟩;refine g' 3 O (T.keep [0,1,2,6,7,8,9,10,11,12,13,14,15,16,18,19,20,21,22,26,27,28,29,30,31,32,33,34,35,36,37,38,39,40,41,42,43,44,45] O ?_);refine tDr 8 [(46,.ov v5,none),(47,dN i,none),(48,dI 1,none),(49,dN (i+1),none),(50,.v (cut 2 v5 (i+1) (xs.length+1)),none),(51,.ov v,none),(52,dN i,none),(53,.v (cut 2 v i xs.length),none)] [.sl v5 2 70 ((xs.take i++List.replicate (xs.length+1-i) (D.agg [dZ,dZ])).take i++[y]++(xs.take i++List.replicate (xs.length+1-i) (D.agg [dZ,dZ])).drop (i+([y]).length)),.sl v 2 70 (xs),.sl u 2 70 ([y])] (Hn:=[.sl v5 2 70 ((xs.take i++List.replicate (xs.length+1-i) (D.agg [dZ,dZ])).take i++[y]++(xs.take i++List.replicate (xs.length+1-i) (D.agg [dZ,dZ])).drop (i+([y]).length)),.sl v 2 70 (xs),.sl u 2 70 ([y])]) mixed O O O O w8 O ⟨sa_p O O O (zb O),sa_p O O O (zb O),sa_p O O O (zb O),sa_p O O O (zq (c:=((i+1:Nat):Int)) O O (zh (by omega) (by omega))),sa_p O O O (zad (a:=i+1) (b:=xs.length+1) (j:=0) O O O O (by first | rfl | (show _=_;omega) | (show _=_;simp only[la,lc,ln,lm,lt',ld,ls,lr];omega)) (by first | rfl | (show _=_;omega) | (show _=_;simp only[la,lc,ln,lm,lt',ld,ls,lr];omega)) aO aV (by omega) (by first | rfl | omega | (simp only[la,lc,ln,lm,lt',ld,ls,lr];omega))),sa_p O O O (zb O),sa_p O O O (zb O),sa_p O O O (zad (a:=i) (b:=xs.length) (j:=1) O O O O (by first | rfl | (show _=_;omega) | (show _=_;simp only[la,lc,ln,lm,lt',ld,ls,lr];omega)) (by first | rfl | (show _=_;omega) | (show _=_;simp only[la,lc,ln,lm,lt',ld,ls,lr];omega)) aO aV (by omega) (by first | rfl | omega | (simp only[la,lc,ln,lm,lt',ld,ls,lr];omega))),trivial⟩ ?_;refine tK O (tE O (fP (i:=0) (a:=i+1) (b:=xs.length+1) O O O (mG (j:=1) O (by omega) (by omega)) zep aV (by show 0<_;simp only[la,lc,ln,lm,lt',ld,ls,lr];omega) (by first | rfl | omega | (simp only[la,lc,ln,lm,lt',ld,ls,lr];omega)) (by first | rfl | omega | (simp only[la,lc,ln,lm,lt',ld,ls,lr];omega)) (by first | rfl | omega | (simp only[la,lc,ln,lm,lt',ld,ls,lr];omega))) ?_);rintro _ _ ⟨rfl,rfl⟩;refine g' 10 O (mX [.sl v5 2 70 (xs.take i++y::xs.drop i),.sl v 2 70 (xs),.sl u 2 70 ([y])] (by rw[show ((xs.take i++List.replicate (xs.length+1-i) (D.agg [dZ,dZ])).take i++[y]++(xs.take i++List.replicate (xs.length+1-i) (D.agg [dZ,dZ])).drop (i+([y]).length)).take (i+1)++((xs.take xs.length).drop i)++((xs.take i++List.replicate (xs.length+1-i) (D.agg [dZ,dZ])).take i++[y]++(xs.take i++List.replicate (xs.length+1-i) (D.agg [dZ,dZ])).drop (i+([y]).length)).drop ((i+1)+((xs.take xs.length).drop i).length)=xs.take i++y::xs.drop i from by first | exact zfx hi2 | exact zeL hi3 | exact zdL hi3]<;>rfl) ?_);exact tR O (mO 1 O) ⟨v5,O,O⟩
 refine g' 7 O (tP O (zq (c:=((xs.length+1:Nat):Int)) O O (zh (by omega) (by omega))) (tP O (gY (b:=xs.length+1) (j:=0) O O O O (by first | rfl | (show _=_;omega) | (show _=_;simp only[la,lc,ln,lm,lt',ld,ls,lr];omega)) (by first | rfl | (show _=_;omega) | (show _=_;simp only[la,lc,ln,lm,lt',ld,ls,lr];omega)) aO aV (by omega)) (g' 10 O (tP O (zq (c:=((i+1:Nat):Int)) O O (zh (by omega) (by omega))) (tP O (zb7 (a:=i+1) (b:=xs.length+1) (j:=0) O O O O (by first | rfl | (show _=_;omega) | (show _=_;simp only[la,lc,ln,lm,lt',ld,ls,lr];omega)) (by first | rfl | (show _=_;omega) | (show _=_;simp only[la,lc,ln,lm,lt',ld,ls,lr];omega)) aO aV (by omega) (by omega) (by omega) (by omega)) ?_)))));refine T.apart (λhap=>?_);refine tP O (yV (i:=1) (j:=0) O O O O O (by omega) (by omega) (Nat.zero_lt_one) hap) (g' 5 O (T.keep [0,1,2,6,7,8,10,11,12,13,14,15,16,18,19,20,21,22,26,27,28,29,30,31,56,57,58,59,60,61,62,63,64,65,66,67,68] O ?_));refine tDr 8 [(69,.v (cut 2 v 0 (xs.length+1)),none),(70,dN i,none),(71,dI 1,none),(72,dN (i+1),none),(73,.v (cut 2 (cut 2 v 0 (xs.length+1)) (i+1) (xs.length+1)),none),(74,.v (cut 2 v 0 (xs.length+1)),none),(75,dN i,none),(76,.v (cut 2 (cut 2 v 0 (xs.length+1)) i (xs.length+1)),none)] [.sl v 2 70 (xs),.sl u 2 70 ([y])] (Hn:=[.sl v 2 70 (xs),.sl u 2 70 ([y])]) mixed O O O O w8 O ⟨sa_p O O O (zb O),sa_p O O O (zb O),sa_p O O O (zb O),sa_p O O O (zq (c:=((i+1:Nat):Int)) O O (zh (by omega) (by omega))),sa_p O O O (zb7 (a:=i+1) (b:=xs.length+1) (j:=0) O O O O (by first | rfl | (show _=_;omega) | (show _=_;simp only[la,lc,ln,lm,lt',ld,ls,lr];omega)) (by first | rfl | (show _=_;omega) | (show _=_;simp only[la,lc,ln,lm,lt',ld,ls,lr];omega)) aO aV (by omega) (by omega) (by omega) (by omega)),sa_p O O O (zb O),sa_p O O O (zb O),sa_p O O O (zb7 (a:=i) (b:=xs.length+1) (j:=0) O O O O (by first | rfl | (show _=_;omega) | (show _=_;simp only[la,lc,ln,lm,lt',ld,ls,lr];omega)) (by first | rfl | (show _=_;omega) | (show _=_;simp only[la,lc,ln,lm,lt',ld,ls,lr];omega)) aO aV (by omega) (by omega) (by omega) (by omega)),trivial⟩ ?_;refine tK O (tE O (lM (i:=0) (a:=i) (n:=xs.length) O O O O zep aV (by omega) (by omega)) ?_);rintro _ _ ⟨rfl,rfl⟩;refine g' 6 O (tP O (zad (a:=i) (b:=xs.length+1) (j:=0) O O O O (by first | rfl | (show _=_;omega) | (show _=_;simp only[la,lc,ln,lm,lt',ld,ls,lr];omega)) (by first | rfl | (show _=_;omega) | (show _=_;simp only[la,lc,ln,lm,lt',ld,ls,lr];omega)) aO aV (by omega) (by first | rfl | omega | (simp only[la,lc,ln,lm,lt',ld,ls,lr];omega))) (g' 1 O (tE O (fP (i:=0) (a:=i) (b:=xs.length+1) O O O (mF (j:=1) O O) zep aV Nat.zero_lt_one (by first | rfl | omega | (simp only[la,lc,ln,lm,lt',ld,ls,lr];omega)) (by first | rfl | omega | (simp only[la,lc,ln,lm,lt',ld,ls,lr];omega)) (by first | rfl | omega | (simp only[la,lc,ln,lm,lt',ld,ls,lr];omega))) ?_)));rintro _ _ ⟨rfl,rfl⟩;refine g' 10 O (mX [.sl (cut 2 v 0 (xs.length+1)) 2 70 (xs.take i++y::xs.drop i),.sl u 2 70 ([y])] (by rw[show (xs.take (i+1)++xs.drop i).take i++[y]++(xs.take (i+1)++xs.drop i).drop (i+([y]).length)=xs.take i++y::xs.drop i from by first | exact zfx hi2 | exact zeL hi3 | exact zdL hi3]<;>rfl) ?_);exact tRs O results25 (.cons (zc (za O) (Cv.ov (aH8 ho1))) .nil) O (mO 1 O) ⟨(cut 2 v 0 (xs.length+1)),O,O⟩
abbrev PH:KpS->Hp:=λx=>.sl x.v 2 75 (x.ps.map PtD.d)
def sget {G:List KpS} {k:Nat} {x:KpS} (h:G[k]?=some x):(G.map KpS.s)[k]?=some x.s:=by rw[d9,h];rfl
def aEt {G:List KpS} {k:Nat} {s:SerD} (h:G.length<=k) (hs:(G.map KpS.s)[k]?=some s):False:=by rw[jU (by rw[cN];exact h)] at hs;cases hs
def aEe (ls key:List Lbl) (X:D) :
 CD prog 24 [] [.agg [.sh 2 (ls.map Lbl.d),X],.sh 2 (key.map Lbl.d)] (isR (dI (zt ls key))):=by
 refine tZ func24 O O (λC=>?_);refine T.bd 0 O (λbd0=>?_);refine T.bd 1 O (λbd1=>?_);have nl1:=zy bd1;refine g' 2 O ?_;refine tA O (λg1=>?_);refine gQ 8 [0] O O (tW O acs (zcu ls key) (g' 4 O ?_));exact tR O HSub.none ⟨O,O⟩
def aZi (v:Value) (G:List KpS) (key:List Lbl) (hG:StOk (G.map KpS.s)) (hn:G.length<=1000000):
 CD prog 23 [.sl v 2 70 (G.map KpS.d)] [.ov v,.sh 2 (key.map Lbl.d),.fn 24 [] []] (λr H'=>∃ i f,BsS (G.map KpS.s) key i/\(f=true↔∃ x,G[i]?=some x/\zt x.ls key=(0:Int))/\r=.tup [dN i,dB f]/\H'=[.sl v 2 70 (G.map KpS.d)]):=by
 refine tZ func23 O O (λC=>?_);refine T.bd 1 O (λbd1=>?_);have nl1:=zy bd1;refine g' 9 O (tP O (zK (n:=G.length) (j:=0) O O aO (cN _)) (g' 12 O (tl2 (λ(a_:Nat) (b_:Nat)=>[(0,.ov v),(1,.sh 2 (key.map Lbl.d)),(2,.fn 24 [] []),(6,dI 0),(7,dB false),(8,dN G.length),(9,dN a_),(10,dN b_)]) (λa_ b_=>[.sl v 2 70 (G.map KpS.d)]) (λa_ b_=>(a_<=b_)/\(b_<=G.length)/\(∀ t s,t<a_->(G.map KpS.s)[t]?=some s->zt s.ls key<(0:Int))/\(∀ t s,b_<=t->(G.map KpS.s)[t]?=some s->¬zt s.ls key<(0:Int))) (λa_ b_=>b_-a_) 0 G.length O (sa O) w8 ⟨cT _,cW _,(λt s h=>aH h (by omega)),(λt s h e=>(aEt h e).elim)⟩ ?_)));rintro lo hi ⟨hle,hh,h1,h2⟩;refine g' 8 O ?_;refine tD O (λhc1=>?_) (λhc1=>?_)
 · refine g' 7 O (tP O (zq (c:=((lo+hi:Nat):Int)) O O (zh (by omega) (by omega))) (tP O (zaN O (c:=((lo+hi:Nat):Int)) (zcn (by omega))) (tP O (zfd (a:=lo+hi) (n:=1) (m:=2) O O (by decide) (by decide)) (tP O (zaN O (c:=(((lo+hi) / 2:Nat):Int)) (zcX (by omega))) (g' 8 O ?_)))));obtain ⟨x1,hx1⟩:=zi G ((lo+hi) / 2) (by omega);refine tP O (ze (k:=(lo+hi) / 2) (j:=0) O O O aO aV (by first | rfl | omega) (zd hx1)) (tP O (zA (d:=.agg [.sh 2 (x1.ls.map Lbl.d),.ov x1.v]) O (i:=0) O (zd hx1) isAgg70 aV O O) (g' 1 O (tW O acs (aEe x1.ls key (.ov x1.v)) (g' 3 O ?_))));refine tD O (λhc2=>?_) (λhc2=>?_)
   · refine g' 2 O (tP O (zq (c:=((((lo+hi) / 2)+1:Nat):Int)) O O (zh (by omega) (by omega))) (g' 3 O ?_));exact tp2 ((lo+hi) / 2+1) hi (sa O) w8 ⟨by omega,hh,λt s ht hs=>hG.below hs (sget hx1) (by omega) hc2,h2⟩ (by omega)
   refine g' 5 O ?_;exact tp2 lo ((lo+hi) / 2) (sa O) w8 ⟨by omega,by omega,h1,λt s ht hs hc=>hc2 (hG.below (sget hx1) hs ht hc)⟩ (by omega)
 refine g' 6 O ?_;by_cases hg3:((lo:Nat):Int)<((G.length:Nat):Int)
 · refine g' 4 O (tP O (zau O O (aE hg3)) (g' 4 O ?_));obtain ⟨x2,hx2⟩:=zi G lo (by omega);refine tG O (ze (k:=lo) (j:=0) O O O aO aV (by first | rfl | omega) (zd hx2)) (tG O (zA (d:=.agg [.sh 2 (x2.ls.map Lbl.d),.ov x2.v]) O (i:=0) O (zd hx2) isAgg70 aV O O) (g' 1 O (tW O acs (aEe x2.ls key (.ov x2.v)) (g' 7 O ?_))));have hbs:BsS (G.map KpS.s) key lo:=⟨by rw[cN];omega,h1,λs hs=>h2 lo s (by omega) hs⟩;exact tR rfl w8 ⟨lo,(decide (zt x2.ls key=(0:Int))),hbs,(by rw[aI];exact⟨λe=>⟨x2,hx2,e⟩,λ⟨y,hy,e⟩=>by rw[hx2] at hy;injection hy with hy;subst hy;exact e⟩),rfl,rfl⟩
 refine g' 4 O (tP O (zau O O (aD hg3)) (g' 15 O ?_));have hbs:BsS (G.map KpS.s) key lo:=⟨by rw[cN];omega,h1,λs hs=>h2 lo s (by omega) hs⟩;exact tR O w8 ⟨lo,false,hbs,⟨λh=>(by cases h),λ⟨y,hy,_⟩=>aH (cQ.1 hy).1 (by omega)⟩,O,O⟩
end Lp
