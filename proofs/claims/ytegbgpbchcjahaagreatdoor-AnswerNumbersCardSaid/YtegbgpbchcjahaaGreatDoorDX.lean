import Derived.Test.YtegbgpbchcjahaaGreatDoorDZ
set_option linter.all false
namespace Lp
open Go Go.RowKit
abbrev Gh:=Nat->Value
def ug (γ:Gh) (k:Nat) (v:Value):Gh:=λi=>bif Nat.beq i k then v else γ i
def qI (γ:Gh) (k:Nat) (v:Value):ug γ k v k=v:=by unfold ug;rw[jT];rfl
def zgE (γ:Gh) {k i:Nat} (v:Value) (h:i≠k):ug γ k v i=γ i:=by unfold ug;rw[zbx h];rfl
inductive Ex where
 | q (d:D)
  | r (d:D)
  | s (H:Gh->List Hp)
 | e (d:D) (H:Gh->List Hp)
 | o (H:Gh->List Hp)
 | f (m:Value->D) (H:Gh->List Hp)
def Ex.d (γ:Gh) (i:Nat):Ex->D
 | .q d=>d
 | .r d=>d
 | .s _=>.v undef
 | .e d _=>d
 | .o _=>.ov (γ i)
 | .f m _=>m (γ i)
def Ex.isS:Ex->Bool
 | .s _=>true
 | _=>false
def Ex.h (γ:Gh):Ex->Option (List Hp)
 | .q _=>none
 | .r _=>none
 | .s H=>some (H γ)
 | .e _ H=>some (H γ)
 | .o H=>some (H γ)
 | .f _ H=>some (H γ)
def gens (γ:Gh):Nat->List (Tmp×Ex)->List En
 | _,[]=>[]
 | i,(t,x)::r=>(t,x.d γ i,x.h γ)::gens γ (i+1) r
def iX (γ:Gh):∀ (es:List (Tmp×Ex)) (s i:Nat) (t:Tmp) (x:Ex),nth es i=some (t,x)->nth (gens γ s es) i=some (t,x.d γ (s+i),x.h γ)
 | [],_,i,_,_,h=>by simp[nth] at h
 | (t,x)::r,s,0,t',x',h=>by simp[nth] at h;obtain ⟨rfl,rfl⟩:=h;simp[gens,nth]
 | (t,x)::r,s,i+1,t',x',h=>by
  have:=iX γ r (s+1) i t' x' (by simpa [nth] using h);rw[show s+1+i=s+(i+1) by omega] at this;simpa [gens,nth] using this
def kH (γ:Gh):∀ (es:List (Tmp×Ex)) (s i:Nat) (t:Tmp) (d:D) (e:Option (List Hp)),nth (gens γ s es) i=some (t,d,e)->∃ x,nth es i=some (t,x)/\d=x.d γ (s+i)/\e=x.h γ
 | [],_,i,_,_,_,h=>by simp[gens,nth] at h
 | (t,x)::r,s,0,t',d',e',h=>by simp[gens,nth] at h;obtain ⟨rfl,rfl,rfl⟩:=h;exact⟨x,by simp[nth],rfl,rfl⟩
 | (t,x)::r,s,i+1,t',d',e',h=>by
  obtain ⟨y,h1,h2,h3⟩:=kH γ r (s+1) i t' d' e' (by simpa [gens,nth] using h);exact⟨y,by simpa [nth] using h1,by rw[show s+(i+1)=s+1+i by omega];exact h2,h3⟩
def aCq (γ:Gh):∀ (es:List (Tmp×Ex)) (s:Nat),(gens γ s es).length=es.length
 | [],_=>rfl
 | _::r,s=>by simp[gens,aCq γ r]
def zdM (γ γ':Gh):∀ (es:List (Tmp×Ex)) (s k:Nat),isEf (gens γ s es) k=isEf (gens γ' s es) k
 | [],_,_=>rfl
 | (t,x)::r,s,0=>by cases x<;>simp[gens,isEf,nth,Ex.h]
 | (t,x)::r,s,k+1=>by have:=zdM γ γ' r (s+1) k;simpa [gens,isEf,nth] using this
def fO (γ γ':Gh) (es:List (Tmp×Ex)) (s:Nat):∀ k,zes (gens γ s es) k=zes (gens γ' s es) k
 | 0=>rfl
 | k+1=>by simp[zes,zdM γ γ' es s k,fO γ γ' es s k]
def runO (P:Program) (op:Op) (ty:TypeId) (K:Kd) (Hs Hk:List Hp) (γ:Gh) (k:Nat):Ex->Prop
 | .q d=>Qu P op ty K Hs d
 | .r d=>Qu P op ty K Hk d
 | .s H'=>Ef P op ty K Hk (λd' H''=>H''=H' γ)/\HSub (H' γ) Hs
 | .e d H'=>Ef P op ty K Hk (λd' H''=>d'=d/\H''=H' γ)/\HSub (H' γ) Hs
 | .o H'=>Ef P op ty K Hk (λd' H''=>∃ v,d'=.ov v/\H''=H' (ug γ k v))/\∀ v,HSub (H' (ug γ k v)) Hs
 | .f m H'=>Ef P op ty K Hk (λd' H''=>∃ v,d'=m v/\H''=H' (ug γ k v))/\∀ v,HSub (H' (ug γ k v)) Hs
def zfI (ens:List En):Nat->Nat->Option Nat
 | 0,_=>none
 | f+1,i=>bif isEf ens i then some i else zfI ens f (i+1)
def kW {ens:List En}:∀ (f s i:Nat),s<=i->i<s+f->isEf ens i=true->∃ j,zfI ens f s=some j/\s<=j/\j<=i/\isEf ens j=true
 | 0,s,i,h1,h2,_=>by omega
 | f+1,s,i,h1,h2,h3=>by
  unfold zfI;cases hs:isEf ens s with
  | true=>exact⟨s,rfl,cW _,h1,hs⟩
  | false=>
   have:s≠i:=(by rintro rfl;rw[hs] at h3;cases h3);obtain ⟨j,j1,j2,j3,j4⟩:=kW f (s+1) i (by omega) (by omega) h3;exact⟨j,j1,by omega,j3,j4⟩
def lI (γ γ':Gh) (es:List (Tmp×Ex)) (s:Nat):∀ f k,zfI (gens γ s es) f k=zfI (gens γ' s es) f k
 | 0,_=>rfl
 | f+1,k=>by simp[zfI,zdM γ γ' es s k,lI γ γ' es s f (k+1)]
def isRd (es:List (Tmp×Ex)) (k:Nat):Bool:=match nth es k with
 | some (_,.r _)=>true
 | _=>false
def aSk (ops:List Oper) (es:List (Tmp×Ex)) (ens:List En):Bool:=(List.range es.length).all λk=>!isRd es k||((match zes ens k with
 | some l=>has0 (ancS ops k (zM ops k)) l
 | none=>true)&&(match zfI ens es.length (k+1) with
 | some j=>has0 (ancS ops j (zM ops j)) k
 | none=>true))
def pE (ops:List Oper) (n N:Nat) (l:Kn):Bool:=
 Nat.ble n ops.length&&(List.range n).all λi=>match zW ops i with
  | some d=>Nat.blt d N&&!(keys l).contains d&&(List.range i).all λj=>zW ops j !=some d
  | none=>true
def zeY (ops:List Oper) (n N:Nat) (l:Kn):Bool:=zfF ops&&zgj ops n&&pE ops n N l
structure StepO (P:Program) (N:Nat) (ops:List Oper) (K:Kd) (Hs H0:List Hp) (γ:Gh) (es:List (Tmp×Ex)) (k:Nat):Prop where
 out:∃ t x dst op ty g,nth es k=some (t,x)/\opAt ops k=some (dst,op,ty,g)/\((dst=some t/\x.isS=false)\/(dst=none/\Nat.ble N t=true/\x.isS=true))/\
  match g with
  | none=>runO P op ty (kpre (gens γ 0 es) K (zM ops k)) Hs (hof H0 (gens γ 0 es) k) γ k x
  | some (j,want)=>∃ s u,zW ops j=some s/\Nat.blt s N=true/\zI (kpre (gens γ 0 es) K (zM ops k)) s=some (.v u)/\(nb u=some want->runO P op ty (kpre (gens γ 0 es) K (zM ops k)) Hs (hof H0 (gens γ 0 es) k) γ k x)/\(nb u≠some want->x=.q (.v undef))
section
variable {P:Program} {N:Nat} {ops:List Oper} {K:Kd} {Hs H0:List Hp} {γ:Gh} {es:List (Tmp×Ex)} {k:Nat}
def so_q {t:Tmp} {d:D} {op:Op} {ty:TypeId} (he:nth es k=some (t,.q d)) (ho:opAt ops k=some (some t,op,ty,none)) {pre:List Nat} (hp:zM ops k=pre) (h:Qu P op ty (kpre (gens γ 0 es) K pre) Hs d):StepO P N ops K Hs H0 γ es k:=
 ⟨t,.q d,_,op,ty,none,he,ho,.inl ⟨rfl,rfl⟩,by subst hp;exact h⟩
def so_p {t:Tmp} {d:D} {op:Op} {ty:TypeId} (he:nth es k=some (t,.q d)) (ho:opAt ops k=some (some t,op,ty,none)) {pre:List Nat} (hp:zM ops k=pre) (h:Pu P op ty (kpre (gens γ 0 es) K pre) Hs d):StepO P N ops K Hs H0 γ es k:=so_q he ho hp h.qu
def so_o {t:Tmp} {op:Op} {ty:TypeId} {H':Gh->List Hp} {Hk:List Hp} (he:nth es k=some (t,.o H')) (ho:opAt ops k=some (some t,op,ty,none)) {pre:List Nat} (hp:zM ops k=pre) (hH:hof H0 (gens γ 0 es) k=Hk) (h:Ef P op ty (kpre (gens γ 0 es) K pre) Hk (λd' H''=>∃ v,d'=.ov v/\H''=H' (ug γ k v))) (hs:∀ v,HSub (H' (ug γ k v)) Hs):StepO P N ops K Hs H0 γ es k:=
 ⟨t,.o H',_,op,ty,none,he,ho,.inl ⟨rfl,rfl⟩,by subst hp;subst hH;exact⟨h,hs⟩⟩
def so_f {t:Tmp} {op:Op} {ty:TypeId} {m:Value->D} {H':Gh->List Hp} {Hk:List Hp} (he:nth es k=some (t,.f m H')) (ho:opAt ops k=some (some t,op,ty,none)) {pre:List Nat} (hp:zM ops k=pre) (hH:hof H0 (gens γ 0 es) k=Hk) (h:Ef P op ty (kpre (gens γ 0 es) K pre) Hk (λd' H''=>∃ v,d'=m v/\H''=H' (ug γ k v))) (hs:∀ v,HSub (H' (ug γ k v)) Hs):StepO P N ops K Hs H0 γ es k:=
 ⟨t,.f m H',_,op,ty,none,he,ho,.inl ⟨rfl,rfl⟩,by subst hp;subst hH;exact⟨h,hs⟩⟩
def so_r {t:Tmp} {d:D} {op:Op} {ty:TypeId} {Hk:List Hp} (he:nth es k=some (t,.r d)) (ho:opAt ops k=some (some t,op,ty,none)) {pre:List Nat} (hp:zM ops k=pre) (hH:hof H0 (gens γ 0 es) k=Hk) (h:Pu P op ty (kpre (gens γ 0 es) K pre) Hk d):StepO P N ops K Hs H0 γ es k:=
 ⟨t,.r d,_,op,ty,none,he,ho,.inl ⟨rfl,rfl⟩,by subst hp;subst hH;exact h.qu⟩
def zfP {t:Tmp} {op:Op} {ty:TypeId} {H':Gh->List Hp} {Hk:List Hp} (he:nth es k=some (t,.s H')) (ho:opAt ops k=some (none,op,ty,none)) (hN:Nat.ble N t=true) {pre:List Nat} (hp:zM ops k=pre) (hH:hof H0 (gens γ 0 es) k=Hk) (h:Ef P op ty (kpre (gens γ 0 es) K pre) Hk (λ_ H''=>H''=H' γ)) (hs:HSub (H' γ) Hs):StepO P N ops K Hs H0 γ es k:=
 ⟨t,.s H',_,op,ty,none,he,ho,.inr ⟨rfl,hN,rfl⟩,by subst hp;subst hH;exact⟨h,hs⟩⟩
def zfN (P:Program) (N:Nat) (ops:List Oper) (K:Kd) (Hs H0:List Hp) (γ:Gh) (es:List (Tmp×Ex)):Nat->Nat->Prop
 | _,0=>True
 | k,todo+1=>StepO P N ops K Hs H0 γ es k/\zfN P N ops K Hs H0 γ es (k+1) todo
def zfN.get:∀ (todo k:Nat),zfN P N ops K Hs H0 γ es k todo->∀ i,k<=i->i<k+todo->StepO P N ops K Hs H0 γ es i
 | 0,k,_,i,h1,h2=>by omega
 | todo+1,k,⟨h,hr⟩,i,h1,h2=>by
  rcases cZ k i with h3 | h3
  · exact zfN.get todo (k+1) hr i h3 (by omega)
  have:i=k:=by omega
  subst this;exact h
def aM5 {C:Ctx} {c:Code} {H:List Hp} {Q:zbB} (n:Nat) (es:List (Tmp×Ex)) (Hs:List Hp) {Hn:Gh->List Hp} (hm:P.follows .mixedOrders=true) (hc:zcU c=some true) (hlen:Nat.beq es.length n=true) (hB:zeY (zaL c) n N (K.map λx=>(x.1,Value.nilFunc))=true) (hch:zgf (zaL c) (gens (λ_=>undef) 0 es)=true) (hrd:aSk (zaL c) es (gens (λ_=>undef) 0 es)=true) (hs0:HSub H Hs) (hHn:∀ γ,hof H (gens γ 0 es) n=Hn γ)
 (hsteps:∀ γ,zfN P N (zaL c) K Hs H γ es 0 n) (next:∀ γ,OpsD P N C (zaL c) n (enK (gens γ 0 es) K) (Hn γ) (λρ w F=>Q .normal ρ w F)):JD P N C c K H Q:=by
 cases c<;>simp[zcU] at hc
 rename_i id opsA draw;subst hc;obtain rfl:Hn=λγ=>hof H (gens γ 0 es) n:=funext λγ=>(hHn γ).symm
 simp only[zaL] at hB hsteps hch hrd next
 generalize hops:opsA.toList=ops at hB hsteps hch hrd next
 have hA:opsA=ops.toArray:=by rw[<-hops]
 subst hA;have hlen:=dM hlen;unfold zeY at hB;simp only[cU] at hB;obtain ⟨⟨hback,htail⟩,hfresh⟩:=hB;unfold pE at hfresh;simp only[cU] at hfresh;obtain ⟨hnl,hfr⟩:=hfresh;have hnl:=dE hnl;rw[c8] at hfr;have hpre:∀ k,k<ops.length->∀ j∈zM ops k,j<k:=by
  intro k hk j hj;unfold zfF at hback;rw[c8] at hback;have:=hback k (dO.2 hk);rw[c8] at this;exact zaE.1 (this j hj)
 have hstep:∀ γ i,i<n->StepO P N ops K Hs H γ es i:=λγ i hi=>zfN.get n 0 (hsteps γ) i (cT _) (by omega)
 have hd:∀ i t,i<n->zW ops i=some t->Nat.blt t N=true/\zI K t=none/\∀ j,j<i->zW ops j≠some t:=by
  intro i t hi hdst;have hf:=hfr i (dO.2 hi);rw[hdst] at hf;simp only[cU,uA] at hf;refine⟨hf.1.1,fH hf.1.2,λj hj=>?_⟩;have:=hf.2;rw[c8] at this;have:=this j (dO.2 hj);simpa using this
 have hdn2:∀ i,i<n->∀ t x,nth es i=some (t,x)->(zW ops i=some t/\x.isS=false)\/(zW ops i=none/\Nat.ble N t=true/\x.isS=true):=by
  intro i hi t x hn;obtain ⟨t',x',dst,op,ty,g,h1,h2,h3,_⟩:=(hstep (λ_=>undef) i hi).out;rw[hn] at h1;cases h1;have hdst:zW ops i=dst:=by
   obtain ⟨o,q1,q2,_⟩:=za0 h2;have:nth ops i=some o:=(by rw[zaH];simpa using q1);simp[zW,this,q2]
  rw[hdst];exact h3
 have hne:∀ i j t,i<n->j<n->i≠j->zW ops i=some t->zW ops j=some t->False:=by
  intro i j t hi hj hij h1 h2;rcases vZ hij with hlt | hlt
  · exact(hd j t hj h2).2.2 i hlt h1
  exact(hd i t hi h1).2.2 j hlt h2
 have hfar:∀ (a:Act),Ok N a->∀ t,Nat.ble N t=true->zF a t=undef:=by
  intro a ok t ht;have ht:=dE ht;simp only[zF,jG];rw[vJ (by rw[ok.1];exact ht)];rfl
 have hchain:∀ γ k l,k<n->isEf (gens γ 0 es) k=true->zes (gens γ 0 es) k=some l->l∈zM ops k:=by
  intro γ k l hk he hl;rw[zdM γ (λ_=>undef)] at he;rw[fO γ (λ_=>undef)] at hl;unfold zgf at hch;rw[c8] at hch;have:=hch k (dO.2 (by rw[aCq];omega));rw[he,hl] at this;exact xY (by simpa using this)
 refine⟨λa w F ok hk g=>?_⟩;apply wp_region_any hm;have final:∀ (γ:Gh) (a:Act) (w':World) (F':Nat->Prop) (p:Nat),Ok N a->KOk w' F' (zF a) K->p<=n->Good C (hof H (gens γ 0 es) p) w' F'->(∀ i,p<=i->i<n->isEf (gens γ 0 es) i=false)->(∀ i t x,i<n->nth es i=some (t,x)->D.rep w' F' (x.d γ i) (zF a t))->
  wpOps P ops.toArray (λe a' w'=>Ok N a'/\∃ F',Q e (zF a') w' F') (List.range' n (ops.length-n)) a w':=by
  intro γ a w' F' p ok hk hp g hno hrep;rw[<-zd2 (H0:=H) p n hp hno] at g;have hK:=zgx (gens γ 0 es) K hk (λj t d e hj=>by
   obtain ⟨x,x1,x2,x3⟩:=kH γ es 0 j t d e hj;rw[dS] at x2;subst x2;exact hrep j t x (by rw[zaH] at x1;rw[<-hlen];exact(cQ.1 x1).1) x1)
  refine zaQ ?_ _ _ _ ((next γ).out a w' F' ok hK g);rintro e a' w'' ⟨rfl,h1,h2⟩;exact⟨h1,h2⟩
 have key:∀ (fuel:Nat) (listed:Array Bool) (γ:Gh) (a:Act) (w':World) (F':Nat->Prop) (p:Nat),listed.size=ops.length->cnt ops.length listed<=fuel->Ok N a->KOk w' F' (zF a) K->p<=n->Good C (hof H (gens γ 0 es) p) w' F'->HSub (hof H (gens γ 0 es) p) Hs->
  (∀ i,i<p->isEf (gens γ 0 es) i=true->listed.getD i true=true)->(∀ i,p<=i->i<n->isEf (gens γ 0 es) i=true->listed.getD i true=false)->
  (∀ i t x,i<n->listed.getD i true=true->nth es i=some (t,x)->D.rep w' F' (x.d γ i) (zF a t))->(∀ i,i<n->listed.getD i true=true->∀ j∈zM ops i,listed.getD j true=true)->(∀ i,n<=i->i<ops.length->listed.getD i true=false)->
  wpAny P .any ops.toArray (λe a' w'=>Ok N a'/\∃ F',Q e (zF a') w' F') fuel listed a w':=by
  intro fuel
  induction fuel with
  | zero=>
   intro listed γ a w' F' p hs hcnt ok hk hp g hsp hdone hnot hh hdn ht;have hall:∀ i,i<ops.length->listed.getD i true=true:=by
    intro i hi;cases hc:listed.getD i true with
    | true=>rfl
    | false=>have:=zeh hi hs hc;omega
   have hn:ops.length=n:=by
    rcases cZ n ops.length with h' | h'
    · have h1:=ht n (cW _) h';rw[hall n h'] at h1;cases h1
    omega
   refine zbT (n:=n) hback htail 0 n listed a w' (by omega) (cW _) hnl hs (λi hi=>by rw[hall i hi];simp;omega) ?_ 0 (by omega);refine final γ a w' F' p ok hk hp g (λi h1 h2=>?_) (λi t x hi hn=>hh i t x hi (hall i (by omega)) hn);cases he:isEf (gens γ 0 es) i with
   | false=>rfl
   | true=>have:=hnot i h1 h2 he;rw[hall i (by omega)] at this;cases this
  | succ fuel ih=>
   intro listed γ a w' F' p hs hcnt ok hk hp g hsp hdone hnot hh hdn ht;by_cases hall:∀ i,i<n->listed.getD i true=true
   · refine zbT (n:=n) hback htail (ops.length-n) n listed a w' O (cW _) hnl hs (λi hi=>?_) ?_ (fuel+1) ?_
     · rcases cZ i n with h' | h'
       · rw[hall i h'];simp[h']
       rw[ht i h' hi];simp;omega
     · refine final γ a w' F' p ok hk hp g (λi h1 h2=>?_) (λi t x hi hn=>hh i t x hi (hall i hi) hn);cases he:isEf (gens γ 0 es) i with
       | false=>rfl
       | true=>have:=hnot i h1 h2 he;rw[hall i h2] at this;cases this
     refine jM ?_ hcnt;unfold cnt;have hsplit:List.range ops.length=List.range n++List.range' n (ops.length-n):=by
      rw[j7,j7];have:=@List.range'_append 0 n (ops.length-n) 1;simp only[vT,dS] at this;rw[this];congr 1;omega
     rw[hsplit,u7];have:(List.range' n (ops.length-n)).countP (λi=>!listed.getD i true)=ops.length-n:=by
      rw[vL.2]
      · simp
      intro i hi;have:=wE.1 hi;rw[ht i (by omega) (by omega)];rfl
     omega
   obtain ⟨i0,hi0⟩:=Classical.not_forall.1 hall;obtain ⟨hi0n,hi0u⟩:=Classical.not_imp.1 hi0;have hi0u:listed.getD i0 true=false:=(by cases hx:listed.getD i0 true with | false=>rfl | true=>exact aH hx hi0u);refine⟨λhe=>aH he (zdR hs hback i0 (by omega) hi0u),λi hi=>?_⟩;obtain ⟨hu,hil,hps⟩:=zc8.1 hi;have hin:i<n:=by
    rcases cZ i n with h' | h'
    · exact h'
    exfalso;have hpm:i0∈ancS ops i (zM ops i):=by
     have ht':=htail;unfold zgj at ht';rw[c8] at ht';have:=ht' i (dO.2 hil);rw[jJ] at this;rcases this with h'' | h''
     · have:=zaE.1 h'';omega
     rw[c8] at h'';exact zdo (h'' i0 (dO.2 (by omega)))
    have:=zd7 (p:=λj=>j<ops.length/\listed.getD j true=true) (λk hk j hj=>by
     have hkn:k<n:=by
      rcases cZ k n with hh | hh
      · exact hh
      have:=ht k hh hk.1;rw[hk.2] at this;cases this
     exact⟨by have:=hpre k hk.1 j hj;omega,hdn k hkn hk.2 j hj⟩) i _ (λj hj=>by
     have hjl:j<ops.length:=(by have:=hpre i hil j hj;omega);exact⟨hjl,by rw[zdg hs hjl];exact hps j hj⟩) i0 hpm
    rw[hi0u] at this;cases this.2
   obtain ⟨t,x,dst,op,ty,gd,h1,h2,hdx,h3⟩:=(hstep γ i hin).out;have hdst:zW ops i=dst:=by
    obtain ⟨o,q1,q2,_⟩:=za0 h2;have:nth ops i=some o:=(by rw[zaH];simpa using q1);simp[zW,this,q2]
   have h1g:=iX γ es 0 i t x h1;rw[dS] at h1g;have hpl:∀ j∈zM ops i,listed.getD j true=true:=λj hj=>by
    have hjl:j<ops.length:=(by have:=hpre i hil j hj;omega);rw[zdg hs hjl];exact hps j hj
   have hkp:KOk w' F' (zF a) (kpre (gens γ 0 es) K (zM ops i)):=zfT hk _ (λj hj t' d' e' hn'=>by
    obtain ⟨y,y1,y2,y3⟩:=kH γ es 0 j t' d' e' hn';rw[dS] at y2;subst y2;exact hh j t' y (by have:=hpre i hil j hj;omega) (hpl j hj) y1)
   obtain ⟨o,o1,o2,o3,o4,o5⟩:=za0 h2;have hdok:dok N dst=true:=by
    cases hds:dst with
    | none=>rfl
    | some t'=>exact(hd i t' hin (by rw[hdst,hds])).1
   have after:∀ (γ':Gh) v w'' F'' q,(∀ j t' x',j≠i->nth es j=some (t',x')->x'.d γ' j=x'.d γ j)->q<=n->Good C (hof H (gens γ' 0 es) q) w'' F''->HSub (hof H (gens γ' 0 es) q) Hs->Keep w' F' w'' F''->(dst=some t->D.rep w'' F'' (x.d γ' i) v)->(∀ k,k<q->isEf (gens γ' 0 es) k=true->(listed.setIfInBounds i true).getD k true=true)->(∀ k,q<=k->k<n->isEf (gens γ' 0 es) k=true->(listed.setIfInBounds i true).getD k true=false)->
    wpAny P .any ops.toArray (λe a' w'=>Ok N a'/\∃ F',Q e (zF a') w' F') fuel (listed.setIfInBounds i true) (a.put o.dst v) w'':=by
    intro γ' v w'' F'' q hoth hq g' hsq kp hv hdone' hnot';have henv:zF (a.put o.dst v)=upd (zF a) dst v:=(by rw[o2];exact zcB ok hdok v);refine ih _ γ' _ _ F'' q (by simp[hs]) ?_ (ok.put _ _) ?_ hq g' hsq hdone' hnot' ?_ ?_ ?_
    · have:=zeh hil hs hu;omega
    · rw[henv];cases hds:dst with
      | none=>exact hk.keep kp
      | some t'=>exact(hk.keep kp).other (hd i t' hin (by rw[hdst,hds])).2.1
    · intro j t' x' hj hl hn';rw[henv];rcases hdn2 j hj t' x' hn' with ⟨e1,e2⟩ | ⟨e1,e2,e3⟩
      · by_cases hij:i=j
        · subst hij;rw[h1] at hn';cases hn';rw[hdst] at e1;subst e1;simpa [upd] using hv rfl
        rw[getD_set_ne true hij] at hl;have hkeep:upd (zF a) dst v t'=zF a t':=by
         cases hds:dst with
         | none=>rfl
         | some t2=>
          have:t'≠t2:=(by rintro rfl;exact hne i j t' hin hj hij (by rw[hdst,hds]) e1);simp only[upd,this,if_false]
        rw[hkeep,hoth j t' x' (λe=>hij e.symm) hn'];exact D.keep kp _ _ (hh j t' x' hj hl hn')
      rw[<-henv];have:x'.d γ' j=.v undef:=(by cases x'<;>simp[Ex.isS] at e3;rfl);rw[this];exact hfar _ (ok.put _ _) t' e2
    · intro j hj hl k hk';by_cases hij:i=j
      · subst hij;have:=hpl k hk';have hki:i≠k:=(by have:=hpre i hil k hk';omega);rw[getD_set_ne true hki];exact this
      rw[getD_set_ne true hij] at hl;have:=hdn j hj hl k hk';by_cases hik:i=k
      · subst hik;rw[hu] at this;cases this
      rw[getD_set_ne true hik];exact this
    intro j hj hjl;rw[getD_set_ne true (by omega)];exact ht j hj hjl
   have hset:(listed.setIfInBounds i true).getD i true=true:=by
    have:i<listed.size:=(by omega);simp[this]
   have stay:isEf (gens γ 0 es) i=false->(∀ k,k<p->isEf (gens γ 0 es) k=true->(listed.setIfInBounds i true).getD k true=true)/\(∀ k,p<=k->k<n->isEf (gens γ 0 es) k=true->(listed.setIfInBounds i true).getD k true=false):=by
    intro hq;refine⟨λk h1 h2=>?_,λk h1 h2 h3=>?_⟩
    · by_cases hik:i=k
      · subst hik;exact hset
      rw[getD_set_ne true hik];exact hdone k h1 h2
    by_cases hik:i=k
    · subst hik;rw[hq] at h3;cases h3
    rw[getD_set_ne true hik];exact hnot k h1 h2 h3
   have gs:=hsp.out _ _ _ g;have nothing:∀ (γ':Gh),isEf (gens γ 0 es) i=true->(∀ k,p<=k->k<i->isEf (gens γ 0 es) k=false)->p<=i->(∀ k,k<i+1->isEf (gens γ' 0 es) k=true->(listed.setIfInBounds i true).getD k true=true)/\(∀ k,i+1<=k->k<n->isEf (gens γ' 0 es) k=true->(listed.setIfInBounds i true).getD k true=false):=by
    intro γ' hq hno hpi;refine⟨λk hk1 hk2=>?_,λk hk1 hk2 hk3=>?_⟩
    · rw[zdM γ' γ] at hk2;by_cases hik:i=k
      · subst hik;exact hset
      rw[getD_set_ne true hik];rcases cZ k p with h' | h'
      · exact hdone k h' hk2
      have:=hno k h' (by omega);rw[hk2] at this;cases this
    rw[zdM γ' γ] at hk3;rw[getD_set_ne true (by omega)];exact hnot k (by omega) hk2 hk3
   have front:isEf (gens γ 0 es) i=true->p<=i/\(∀ k,p<=k->k<i->isEf (gens γ 0 es) k=false)/\Good C (hof H (gens γ 0 es) i) w' F':=by
    intro hq;have hpi:p<=i:=by
     rcases cZ i p with h' | h'
     · have:=hdone i h' hq;rw[hu] at this;cases this
     exact h'
    have hno:∀ k,p<=k->k<i->isEf (gens γ 0 es) k=false:=by
     intro k hk1 hk2;cases hke:isEf (gens γ 0 es) k with
     | false=>rfl
     | true=>
      obtain ⟨l,l1,l2,l3,l4⟩:=eX i k hk2 hke;have:=hpl l (hchain γ i l hin hq l1);rw[hnot l (by omega) (by omega) l4] at this;cases this
    exact⟨hpi,hno,by rw[zd2 (H0:=H) p i hpi hno];exact g⟩
   have run:runO P op ty (kpre (gens γ 0 es) K (zM ops i)) Hs (hof H (gens γ 0 es) i) γ i x->EOp P op ty (zF a) w' (λv w''=>wpAny P .any ops.toArray (λe a' w'=>Ok N a'/\∃ F',Q e (zF a') w' F') fuel (listed.setIfInBounds i true) (a.put o.dst v) w''):=by
    intro hrun;cases x with
    | q d=>
     have hq:isEf (gens γ 0 es) i=false:=(by simp[isEf,h1g,Ex.h]);refine(Qu.out hrun _ w' F' hkp g.flt gs.h.ok).mono ?_;rintro v w'' ⟨E,hrep⟩;obtain ⟨g',kp⟩:=Good.fn g E;exact after γ v w'' _ p (λ_ _ _ _ _=>rfl) hp g' hsp kp (λ_=>hrep) (stay hq).1 (stay hq).2
    | r d=>
     have hq:isEf (gens γ 0 es) i=false:=(by simp[isEf,h1g,Ex.h]);have gr:Good C (hof H (gens γ 0 es) i) w' F':=by
      have hb:isRd es i=true:=(by simp[isRd,h1]);have hr:=hrd;unfold aSk at hr;rw[c8] at hr;have hr:=hr i (dO.2 (by omega));rw[hb] at hr;simp only[Bool.not_true,Bool.false_or,cU] at hr;rw[fO _ γ,lI _ γ] at hr;have anc:∀ k,k<n->(∀ j∈zM ops k,listed.getD j true=true)->∀ j∈ancS ops k (zM ops k),listed.getD j true=true:=by
       intro k hkn hk1;have:=zd7 (ops:=ops) (p:=λj=>j<ops.length/\listed.getD j true=true) (λk hk j hj=>by
        have hkn:k<n:=by
         rcases cZ k n with hh | hh
         · exact hh
         have:=ht k hh hk.1;rw[hk.2] at this;cases this
        exact⟨by have:=hpre k hk.1 j hj;omega,hdn k hkn hk.2 j hj⟩) k _ (λj hj=>⟨by have:=hpre k (by omega) j hj;omega,hk1 j hj⟩)
       exact λj hj=>(this j hj).2
      rcases cZ i p with hip | hip
      · rw[zd2 (H0:=H) i p (by omega) (λk k1 k2=>?_)] at g
        · exact g
        cases hke:isEf (gens γ 0 es) k with
        | false=>rfl
        | true=>
         have hki:k≠i:=(by rintro rfl;rw[hq] at hke;cases hke);obtain ⟨j,j1,j2,j3,j4⟩:=kW es.length (i+1) k (by omega) (by omega) hke;rw[j1] at hr;have hjl:=hdone j (by omega) j4;have:=anc j (by omega) (hdn j (by omega) hjl) i (zdo hr.2);rw[hu] at this;cases this
      rw[<-zd2 (H0:=H) p i hip (λk k1 k2=>?_)] at g
      · exact g
      cases hke:isEf (gens γ 0 es) k with
      | false=>rfl
      | true=>
       obtain ⟨l,l1,l2,l3,l4⟩:=eX i k k2 hke;rw[l1] at hr;have:=anc i hin hpl l (zdo hr.1);rw[hnot l (by omega) (by omega) l4] at this;cases this
     refine(Qu.out hrun _ w' F' hkp g.flt gr.h.ok).mono ?_;rintro v w'' ⟨E,hrep⟩;obtain ⟨g',kp⟩:=Good.fn g E;exact after γ v w'' _ p (λ_ _ _ _ _=>rfl) hp g' hsp kp (λ_=>hrep) (stay hq).1 (stay hq).2
    | s H'=>
     have hq:isEf (gens γ 0 es) i=true:=(by simp[isEf,h1g,Ex.h]);obtain ⟨hef,hsH⟩:=hrun;obtain ⟨hpi,hno,gi⟩:=front hq;refine(hef.out C _ w' F' hkp gi).mono ?_;rintro v w'' ⟨F'',d',H'',rfl,hrep,g',kp⟩;have hh1:=zd1 (gens γ 0 es) H i t _ _ h1g;refine after γ v w'' F'' (i+1) (λ_ _ _ _ _=>rfl) (by omega) (by rw[hh1];exact g') (by rw[hh1];exact hsH) kp (λht'=>?_) (nothing γ hq hno hpi).1 (nothing γ hq hno hpi).2;rcases hdx with ⟨_,e⟩ | ⟨e,_,_⟩
     · cases e
     rw[e] at ht';cases ht'
    | e d H'=>
     have hq:isEf (gens γ 0 es) i=true:=(by simp[isEf,h1g,Ex.h]);obtain ⟨hef,hsH⟩:=hrun;obtain ⟨hpi,hno,gi⟩:=front hq;refine(hef.out C _ w' F' hkp gi).mono ?_;rintro v w'' ⟨F'',d',H'',⟨rfl,rfl⟩,hrep,g',kp⟩;have hh1:=zd1 (gens γ 0 es) H i t _ _ h1g;exact after γ v w'' F'' (i+1) (λ_ _ _ _ _=>rfl) (by omega) (by rw[hh1];exact g') (by rw[hh1];exact hsH) kp (λ_=>hrep) (nothing γ hq hno hpi).1 (nothing γ hq hno hpi).2
    | o H'=>
     have hq:isEf (gens γ 0 es) i=true:=(by simp[isEf,h1g,Ex.h]);obtain ⟨hef,hsH⟩:=hrun;obtain ⟨hpi,hno,gi⟩:=front hq;refine(hef.out C _ w' F' hkp gi).mono ?_;rintro v w'' ⟨F'',d',H'',⟨vv,rfl,rfl⟩,hrep,g',kp⟩;have h1n:=iX (ug γ i vv) es 0 i t _ h1;have hh1:=zd1 (gens (ug γ i vv) 0 es) H i t _ _ h1n;refine after (ug γ i vv) v w'' F'' (i+1) (λj t' x' hj _=>?_) (by omega) (by rw[hh1];exact g') (by rw[hh1];exact hsH vv) kp ?_ (nothing _ hq hno hpi).1 (nothing _ hq hno hpi).2
     · cases x' with
       | q _=>rfl
       | r _=>rfl
       | s _=>rfl
       | e _ _=>rfl
       | o _=>simp only[Ex.d,zgE γ vv hj]
       | f _ _=>simp only[Ex.d,zgE γ vv hj]
     intro _;simp only[Ex.d,qI];exact hrep
    | f m H'=>
     have hq:isEf (gens γ 0 es) i=true:=(by simp[isEf,h1g,Ex.h]);obtain ⟨hef,hsH⟩:=hrun;obtain ⟨hpi,hno,gi⟩:=front hq;refine(hef.out C _ w' F' hkp gi).mono ?_;rintro v w'' ⟨F'',d',H'',⟨vv,rfl,rfl⟩,hrep,g',kp⟩;have h1n:=iX (ug γ i vv) es 0 i t _ h1;have hh1:=zd1 (gens (ug γ i vv) 0 es) H i t _ _ h1n;refine after (ug γ i vv) v w'' F'' (i+1) (λj t' x' hj _=>?_) (by omega) (by rw[hh1];exact g') (by rw[hh1];exact hsH vv) kp ?_ (nothing _ hq hno hpi).1 (nothing _ hq hno hpi).2
     · cases x' with
       | q _=>rfl
       | r _=>rfl
       | s _=>rfl
       | e _ _=>rfl
       | o _=>simp only[Ex.d,zgE γ vv hj]
       | f _ _=>simp only[Ex.d,zgE γ vv hj]
     intro _;simp only[Ex.d,qI];exact hrep
   unfold wpOp;rw[o1];simp only;subst o5;cases hgo:o.guard with
   | none=>
    rw[hgo] at h3;rw[aB (by unfold Region.wanted;rw[hgo])];left;apply zcw;rw[o3,o4];exact run h3
   | some jw=>
    obtain ⟨j,want⟩:=jw;rw[hgo] at h3;obtain ⟨s,u,t1,t2,t3,t4,t5⟩:=h3;have hyv:yielded ops.toArray a.tmps j=nb u:=by
     have he:zF a s=u:=hkp s _ t3;have hts:s<a.tmps.size:=(by rw[ok.1];exact zaE.1 t2);have hg':a.tmps[s]?=some u:=by
      simp only[zF,jG] at he;rw[uS hts] at he ⊢;simpa using he
     unfold yielded;unfold zW at t1;cases hn:nth ops j with
     | none=>rw[hn] at t1;cases t1
     | some oj=>
      rw[hn] at t1;have:ops.toArray[j]?=some oj:=(by rw[zaH] at hn;simpa using hn);rw[this];simp only[wL,t1,hg'];cases u<;>rfl
    by_cases hb:nb u=some want
    · rw[aB (by unfold Region.wanted;rw[hgo];simp[hyv,hb])];left;apply zcw;rw[o3,o4];exact run (t4 hb)
    rw[aA (by unfold Region.wanted;rw[hgo];simp[hyv,hb])];obtain rfl:=t5 hb;have hq:isEf (gens γ 0 es) i=false:=(by simp[isEf,h1g,Ex.h]);exact after γ undef w' F' p (λ_ _ _ _ _=>rfl) hp g hsp wU (λ_=>rfl) (stay hq).1 (stay hq).2
 have gd:=(Good.fn g (Ext.drew w)).1;have hkd:=hk.keep (Good.fn g (Ext.drew w)).2;refine key ops.toArray.size (Array.replicate ops.toArray.size false) (λ_=>undef) a _ _ 0 (by simp) ?_ ok hkd (cT _) (by rw[iF];exact gd) (by rw[iF];exact hs0) (λi hi _=>by omega) (λi _ hi _=>?_) ?_ ?_ ?_
 · unfold cnt;refine jM (vM) (by simp)
 · have:i<ops.length:=(by omega);simp[this]
 · intro i t x hi hl;have:i<ops.length:=(by omega);simp[this] at hl
 · intro i hi hl;have:i<ops.length:=(by omega);simp[this] at hl
 intro i _ hi;simp[hi]
end
def pI {P:Program} {ρ:Env} {w:World} {ty:TypeId} {K:Value->World->Prop} {t e z:Nat} (ht:∀ w,(underlying t).run P w=.ok (.slice e) w) (hs:∀ w,(Go.sizeOf e).run P w=.ok z w)
 (h:∀ g w',New w w' g e []->K (.slice (some ⟨g,0,none⟩) 0 0) w'):EOp P (.buildSlice t 0 #[]) ty ρ w K:=by
 refine wS (v:=.slice (some ⟨w.heap.size,0,none⟩) 0 0) (w':=w.alloc (.cells #[] e)) (zcz ?_) (h _ _ ?_)
 · simp[Instr.buildSlice,ht,hs,Go.Instr.fill,newRow];rw[Array.eq_empty_of_size_eq_zero (xs:=Array.map (λ_=>(default:Value)) (Array.range 0)) (by simp)]
 have:=wT w e #[];simpa using this
def eN {P:Program} {ty:TypeId} {K:Kd} {H:List Hp} {t e z:Nat} (ht:∀ w,(underlying t).run P w=.ok (.slice e) w) (hs:∀ w,(Go.sizeOf e).run P w=.ok z w):
 Ef P (.buildSlice t 0 #[]) ty K H (λd H'=>∃ g,d=.ov (.slice (some ⟨g,0,none⟩) 0 0)/\H'=.sl (.slice (some ⟨g,0,none⟩) 0 0) z e []::H):=
 ⟨λC ρ w F hk gd=>by
  refine pI ht hs (λg w' n=>?_);refine⟨F,_,_,⟨g,O,O⟩,⟨O,O⟩,gd.born n ⟨[],O,?_⟩ (λb e=>by cases e;rfl),Keep.ext n.ext⟩;exact Box.own (base:=0) (cs:=vcs) (z:=z) (xs:=[]) n.box (cT _) O (λ_ h=>by cases h) (by unfold maxLen;simp)⟩
end Lp
namespace Lp
open Go Go.RowKit
inductive Ey where
 | q (d:D)
 | e (d:D)
 | f (m:Value->D)
 | s
def Ey.d (γ:Gh) (i:Nat):Ey->D
 | .q d=>d
 | .e d=>d
 | .f m=>m (γ i)
 | .s=>.v undef
def Ey.isS:Ey->Bool
 | .s=>true
 | _=>false
def geny (γ:Gh):Nat->List (Tmp×Ey)->List En
 | _,[]=>[]
 | i,(t,x)::r=>(t,x.d γ i,none)::geny γ (i+1) r
def zeM (γ:Gh):∀ (es:List (Tmp×Ey)) (s i:Nat) (t:Tmp) (d:D) (e:Option (List Hp)),nth (geny γ s es) i=some (t,d,e)->∃ x,nth es i=some (t,x)/\d=x.d γ (s+i)
 | [],_,i,_,_,_,h=>by simp[geny,nth] at h
 | (t,x)::r,s,0,t',d',e',h=>by simp[geny,nth] at h;obtain ⟨rfl,rfl,rfl⟩:=h;exact⟨x,by simp[nth],rfl⟩
 | (t,x)::r,s,i+1,t',d',e',h=>by
  obtain ⟨y,h1,h2⟩:=zeM γ r (s+1) i t' d' e' (by simpa [geny,nth] using h);exact⟨y,by simpa [nth] using h1,by rw[show s+(i+1)=s+1+i by omega];exact h2⟩
def ub (D:Nat->Bool) (k:Nat):Nat->Bool:=λi=>bif Nat.beq i k then true else D i
abbrev HFn:=(Nat->Bool)->Gh->List Hp
def runX (P:Program) (ops:List Oper) (n:Nat) (op:Op) (ty:TypeId) (K:Kd) (Hs:List Hp) (HF:HFn) (γ:Gh) (k:Nat):Ey->Prop
 | .q d=>Qu P op ty K Hs d/\∀ D,HF (ub D k) γ=HF D γ
 | .e d=>∀ D:Nat->Bool,D k=false->(∀ i,i<n->D i=true->∀ j∈zM ops i,D j=true)->(∀ j∈zM ops k,D j=true)->Ef P op ty K (HF D γ) (λd' H''=>d'=d/\H''=HF (ub D k) γ)
 | .f m=>∀ D:Nat->Bool,D k=false->(∀ i,i<n->D i=true->∀ j∈zM ops i,D j=true)->(∀ j∈zM ops k,D j=true)->Ef P op ty K (HF D γ) (λd' H''=>∃ v,d'=m v/\H''=HF (ub D k) (ug γ k v))
 | .s=>∀ D:Nat->Bool,D k=false->(∀ i,i<n->D i=true->∀ j∈zM ops i,D j=true)->(∀ j∈zM ops k,D j=true)->Ef P op ty K (HF D γ) (λ_ H''=>H''=HF (ub D k) γ)
structure StepX (P:Program) (N n:Nat) (ops:List Oper) (K:Kd) (Hs:List Hp) (HF:HFn) (γ:Gh) (es:List (Tmp×Ey)) (k:Nat):Prop where
 out:∃ t x dst op ty,nth es k=some (t,x)/\opAt ops k=some (dst,op,ty,none)/\((dst=some t/\x.isS=false)\/(dst=none/\Nat.ble N t=true/\x.isS=true))/\runX P ops n op ty (kpre (geny γ 0 es) K (zM ops k)) Hs HF γ k x
section
variable {P:Program} {N n:Nat} {ops:List Oper} {K:Kd} {Hs:List Hp} {HF:HFn} {γ:Gh} {es:List (Tmp×Ey)} {k:Nat}
def sx_q {t:Tmp} {d:D} {op:Op} {ty:TypeId} (he:nth es k=some (t,.q d)) (ho:opAt ops k=some (some t,op,ty,none)) {pre:List Nat} (hp:zM ops k=pre) (h:Qu P op ty (kpre (geny γ 0 es) K pre) Hs d) (hf:∀ D,HF (ub D k) γ=HF D γ):StepX P N n ops K Hs HF γ es k:=
 ⟨t,.q d,_,op,ty,he,ho,.inl ⟨rfl,rfl⟩,by subst hp;exact⟨h,hf⟩⟩
def sx_p {t:Tmp} {d:D} {op:Op} {ty:TypeId} (he:nth es k=some (t,.q d)) (ho:opAt ops k=some (some t,op,ty,none)) {pre:List Nat} (hp:zM ops k=pre) (h:Pu P op ty (kpre (geny γ 0 es) K pre) Hs d) (hf:∀ D,HF (ub D k) γ=HF D γ):StepX P N n ops K Hs HF γ es k:=sx_q he ho hp h.qu hf
def sx_e {t:Tmp} {d:D} {op:Op} {ty:TypeId} (he:nth es k=some (t,.e d)) (ho:opAt ops k=some (some t,op,ty,none)) {pre:List Nat} (hp:zM ops k=pre) (h:∀ D:Nat->Bool,D k=false->(∀ i,i<n->D i=true->∀ j∈zM ops i,D j=true)->(∀ j∈pre,D j=true)->Ef P op ty (kpre (geny γ 0 es) K pre) (HF D γ) (λd' H''=>d'=d/\H''=HF (ub D k) γ)):StepX P N n ops K Hs HF γ es k:=
 ⟨t,.e d,_,op,ty,he,ho,.inl ⟨rfl,rfl⟩,by subst hp;exact h⟩
def sx_f {t:Tmp} {op:Op} {ty:TypeId} {m:Value->D} (he:nth es k=some (t,.f m)) (ho:opAt ops k=some (some t,op,ty,none)) {pre:List Nat} (hp:zM ops k=pre) (h:∀ D:Nat->Bool,D k=false->(∀ i,i<n->D i=true->∀ j∈zM ops i,D j=true)->(∀ j∈pre,D j=true)->Ef P op ty (kpre (geny γ 0 es) K pre) (HF D γ) (λd' H''=>∃ v,d'=m v/\H''=HF (ub D k) (ug γ k v))):StepX P N n ops K Hs HF γ es k:=
 ⟨t,.f m,_,op,ty,he,ho,.inl ⟨rfl,rfl⟩,by subst hp;exact h⟩
def zfM (P:Program) (N n:Nat) (ops:List Oper) (K:Kd) (Hs:List Hp) (HF:HFn) (γ:Gh) (es:List (Tmp×Ey)):Nat->Nat->Prop
 | _,0=>True
 | k,todo+1=>StepX P N n ops K Hs HF γ es k/\zfM P N n ops K Hs HF γ es (k+1) todo
def zfM.get:∀ (todo k:Nat),zfM P N n ops K Hs HF γ es k todo->∀ i,k<=i->i<k+todo->StepX P N n ops K Hs HF γ es i
 | 0,k,_,i,h1,h2=>by omega
 | todo+1,k,⟨h,hr⟩,i,h1,h2=>by
  rcases cZ k i with h3 | h3
  · exact zfM.get todo (k+1) hr i h3 (by omega)
  have:i=k:=by omega
  subst this;exact h
def aQh {l:Array Bool} {i:Nat} (h:i<l.size):(λj=>(l.setIfInBounds i true).getD j true)=ub (λj=>l.getD j true) i:=by
 funext j
 unfold ub;by_cases e:j=i
 · subst e;rw[jT];simp[h]
 rw[zbx e,getD_set_ne true (λq=>e q.symm)];rfl
def aLw {C:Ctx} {c:Code} {H:List Hp} {Q:zbB} (n:Nat) (es:List (Tmp×Ey)) (Hs:List Hp) (HF:HFn) (Hn:Gh->List Hp) (hm:P.follows .mixedOrders=true) (hc:zcU c=some true) (hlen:Nat.beq es.length n=true) (hB:zeY (zaL c) n N (K.map λx=>(x.1,Value.nilFunc))=true) (hs0:∀ D γ,HSub (HF D γ) Hs)
 (h0:∀ γ (D:Nat->Bool),(∀ i,i<n->D i=false)->HF D γ=H) (hHn:∀ γ (D:Nat->Bool),(∀ i,i<n->D i=true)->HF D γ=Hn γ)
 (hsteps:∀ γ,zfM P N n (zaL c) K Hs HF γ es 0 n) (next:∀ γ,OpsD P N C (zaL c) n (enK (geny γ 0 es) K) (Hn γ) (λρ w F=>Q .normal ρ w F)):JD P N C c K H Q:=by
 cases c<;>simp[zcU] at hc
 rename_i id opsA draw;subst hc;simp only[zaL] at hB hsteps next
 generalize hops:opsA.toList=ops at hB hsteps next
 have hA:opsA=ops.toArray:=by rw[<-hops]
 subst hA;have hlen:=dM hlen;unfold zeY at hB;simp only[cU] at hB;obtain ⟨⟨hback,htail⟩,hfresh⟩:=hB;unfold pE at hfresh;simp only[cU] at hfresh;obtain ⟨hnl,hfr⟩:=hfresh;have hnl:=dE hnl;rw[c8] at hfr;have hpre:∀ k,k<ops.length->∀ j∈zM ops k,j<k:=by
  intro k hk j hj;unfold zfF at hback;rw[c8] at hback;have:=hback k (dO.2 hk);rw[c8] at this;exact zaE.1 (this j hj)
 have hstep:∀ γ i,i<n->StepX P N n ops K Hs HF γ es i:=λγ i hi=>zfM.get n 0 (hsteps γ) i (cT _) (by omega)
 have hd:∀ i t,i<n->zW ops i=some t->Nat.blt t N=true/\zI K t=none/\∀ j,j<i->zW ops j≠some t:=by
  intro i t hi hdst;have hf:=hfr i (dO.2 hi);rw[hdst] at hf;simp only[cU,uA] at hf;refine⟨hf.1.1,fH hf.1.2,λj hj=>?_⟩;have:=hf.2;rw[c8] at this;have:=this j (dO.2 hj);simpa using this
 have hdn2:∀ i,i<n->∀ t x,nth es i=some (t,x)->(zW ops i=some t/\x.isS=false)\/(zW ops i=none/\Nat.ble N t=true/\x.isS=true):=by
  intro i hi t x hn;obtain ⟨t',x',dst,op,ty,h1,h2,h3,_⟩:=(hstep (λ_=>undef) i hi).out;rw[hn] at h1;cases h1;have hdst:zW ops i=dst:=by
   obtain ⟨o,q1,q2,_⟩:=za0 h2;have:nth ops i=some o:=(by rw[zaH];simpa using q1);simp[zW,this,q2]
  rw[hdst];exact h3
 have hne:∀ i j t,i<n->j<n->i≠j->zW ops i=some t->zW ops j=some t->False:=by
  intro i j t hi hj hij h1 h2;rcases vZ hij with hlt | hlt
  · exact(hd j t hj h2).2.2 i hlt h1
  exact(hd i t hi h1).2.2 j hlt h2
 have hfar:∀ (a:Act),Ok N a->∀ t,Nat.ble N t=true->zF a t=undef:=by
  intro a ok t ht;have ht:=dE ht;simp only[zF,jG];rw[vJ (by rw[ok.1];exact ht)];rfl
 refine⟨λa w F ok hk g=>?_⟩;apply wp_region_any hm;have final:∀ (γ:Gh) (B:Nat->Bool) (a:Act) (w':World) (F':Nat->Prop),Ok N a->KOk w' F' (zF a) K->Good C (HF B γ) w' F'->(∀ i,i<n->B i=true)->(∀ i t x,i<n->nth es i=some (t,x)->D.rep w' F' (x.d γ i) (zF a t))->
  wpOps P ops.toArray (λe a' w'=>Ok N a'/\∃ F',Q e (zF a') w' F') (List.range' n (ops.length-n)) a w':=by
  intro γ B a w' F' ok hk g hD hrep;rw[hHn γ B hD] at g;have hK:=zgx (geny γ 0 es) K hk (λj t d e hj=>by
   obtain ⟨x,x1,x2⟩:=zeM γ es 0 j t d e hj;rw[dS] at x2;subst x2;exact hrep j t x (by rw[zaH] at x1;rw[<-hlen];exact(cQ.1 x1).1) x1)
  refine zaQ ?_ _ _ _ ((next γ).out a w' F' ok hK g);rintro e a' w'' ⟨rfl,h1,h2⟩;exact⟨h1,h2⟩
 have key:∀ (fuel:Nat) (listed:Array Bool) (γ:Gh) (a:Act) (w':World) (F':Nat->Prop),listed.size=ops.length->cnt ops.length listed<=fuel->Ok N a->KOk w' F' (zF a) K->Good C (HF (λi=>listed.getD i true) γ) w' F'->
  (∀ i t x,i<n->listed.getD i true=true->nth es i=some (t,x)->D.rep w' F' (x.d γ i) (zF a t))->(∀ i,i<n->listed.getD i true=true->∀ j∈zM ops i,listed.getD j true=true)->(∀ i,n<=i->i<ops.length->listed.getD i true=false)->
  wpAny P .any ops.toArray (λe a' w'=>Ok N a'/\∃ F',Q e (zF a') w' F') fuel listed a w':=by
  intro fuel
  induction fuel with
  | zero=>
   intro listed γ a w' F' hs hcnt ok hk g hh hdn ht;have hall:∀ i,i<ops.length->listed.getD i true=true:=by
    intro i hi;cases hc:listed.getD i true with
    | true=>rfl
    | false=>have:=zeh hi hs hc;omega
   have hn:ops.length=n:=by
    rcases cZ n ops.length with h' | h'
    · have h1:=ht n (cW _) h';rw[hall n h'] at h1;cases h1
    omega
   refine zbT (n:=n) hback htail 0 n listed a w' (by omega) (cW _) hnl hs (λi hi=>by rw[hall i hi];simp;omega) ?_ 0 (by omega);exact final γ _ a w' F' ok hk g (λi hi=>hall i (by omega)) (λi t x hi hn=>hh i t x hi (hall i (by omega)) hn)
  | succ fuel ih=>
   intro listed γ a w' F' hs hcnt ok hk g hh hdn ht;by_cases hall:∀ i,i<n->listed.getD i true=true
   · refine zbT (n:=n) hback htail (ops.length-n) n listed a w' O (cW _) hnl hs (λi hi=>?_) ?_ (fuel+1) ?_
     · rcases cZ i n with h' | h'
       · rw[hall i h'];simp[h']
       rw[ht i h' hi];simp;omega
     · exact final γ _ a w' F' ok hk g hall (λi t x hi hn=>hh i t x hi (hall i hi) hn)
     refine jM ?_ hcnt;unfold cnt;have hsplit:List.range ops.length=List.range n++List.range' n (ops.length-n):=by
      rw[j7,j7];have:=@List.range'_append 0 n (ops.length-n) 1;simp only[vT,dS] at this;rw[this];congr 1;omega
     rw[hsplit,u7];have:(List.range' n (ops.length-n)).countP (λi=>!listed.getD i true)=ops.length-n:=by
      rw[vL.2]
      · simp
      intro i hi;have:=wE.1 hi;rw[ht i (by omega) (by omega)];rfl
     omega
   obtain ⟨i0,hi0⟩:=Classical.not_forall.1 hall;obtain ⟨hi0n,hi0u⟩:=Classical.not_imp.1 hi0;have hi0u:listed.getD i0 true=false:=(by cases hx:listed.getD i0 true with | false=>rfl | true=>exact aH hx hi0u);refine⟨λhe=>aH he (zdR hs hback i0 (by omega) hi0u),λi hi=>?_⟩;obtain ⟨hu,hil,hps⟩:=zc8.1 hi;have hin:i<n:=by
    rcases cZ i n with h' | h'
    · exact h'
    exfalso;have hpm:i0∈ancS ops i (zM ops i):=by
     have ht':=htail;unfold zgj at ht';rw[c8] at ht';have:=ht' i (dO.2 hil);rw[jJ] at this;rcases this with h'' | h''
     · have:=zaE.1 h'';omega
     rw[c8] at h'';exact zdo (h'' i0 (dO.2 (by omega)))
    have:=zd7 (p:=λj=>j<ops.length/\listed.getD j true=true) (λk hk j hj=>by
     have hkn:k<n:=by
      rcases cZ k n with hh | hh
      · exact hh
      have:=ht k hh hk.1;rw[hk.2] at this;cases this
     exact⟨by have:=hpre k hk.1 j hj;omega,hdn k hkn hk.2 j hj⟩) i _ (λj hj=>by
     have hjl:j<ops.length:=(by have:=hpre i hil j hj;omega);exact⟨hjl,by rw[zdg hs hjl];exact hps j hj⟩) i0 hpm
    rw[hi0u] at this;cases this.2
   obtain ⟨t,x,dst,op,ty,h1,h2,hdx,h3⟩:=(hstep γ i hin).out;have hdst:zW ops i=dst:=by
    obtain ⟨o,q1,q2,_⟩:=za0 h2;have:nth ops i=some o:=(by rw[zaH];simpa using q1);simp[zW,this,q2]
   have hpl:∀ j∈zM ops i,listed.getD j true=true:=λj hj=>by
    have hjl:j<ops.length:=(by have:=hpre i hil j hj;omega);rw[zdg hs hjl];exact hps j hj
   have hkp:KOk w' F' (zF a) (kpre (geny γ 0 es) K (zM ops i)):=zfT hk _ (λj hj t' d' e' hn'=>by
    obtain ⟨y,y1,y2⟩:=zeM γ es 0 j t' d' e' hn';rw[dS] at y2;subst y2;exact hh j t' y (by have:=hpre i hil j hj;omega) (hpl j hj) y1)
   obtain ⟨o,o1,o2,o3,o4,o5⟩:=za0 h2;have hdok:dok N dst=true:=by
    cases hds:dst with
    | none=>rfl
    | some t'=>exact(hd i t' hin (by rw[hdst,hds])).1
   have hub:=aQh (l:=listed) (i:=i) (by omega);have after:∀ (γ':Gh) v w'' F'',(∀ j t' x',j≠i->nth es j=some (t',x')->x'.d γ' j=x'.d γ j)->Good C (HF (ub (λj=>listed.getD j true) i) γ') w'' F''->Keep w' F' w'' F''->(dst=some t->D.rep w'' F'' (x.d γ' i) v)->
    wpAny P .any ops.toArray (λe a' w'=>Ok N a'/\∃ F',Q e (zF a') w' F') fuel (listed.setIfInBounds i true) (a.put o.dst v) w'':=by
    intro γ' v w'' F'' hoth g' kp hv;have henv:zF (a.put o.dst v)=upd (zF a) dst v:=(by rw[o2];exact zcB ok hdok v);rw[<-hub] at g';refine ih _ γ' _ _ F'' (by simp[hs]) ?_ (ok.put _ _) ?_ g' ?_ ?_ ?_
    · have:=zeh hil hs hu;omega
    · rw[henv];cases hds:dst with
      | none=>exact hk.keep kp
      | some t'=>exact(hk.keep kp).other (hd i t' hin (by rw[hdst,hds])).2.1
    · intro j t' x' hj hl hn';rw[henv];rcases hdn2 j hj t' x' hn' with ⟨e1,e2⟩ | ⟨e1,e2,e3⟩
      · by_cases hij:i=j
        · subst hij;rw[h1] at hn';cases hn';rw[hdst] at e1;subst e1;simpa [upd] using hv rfl
        rw[getD_set_ne true hij] at hl;have hkeep:upd (zF a) dst v t'=zF a t':=by
         cases hds:dst with
         | none=>rfl
         | some t2=>
          have:t'≠t2:=(by rintro rfl;exact hne i j t' hin hj hij (by rw[hdst,hds]) e1);simp only[upd,this,if_false]
        rw[hkeep,hoth j t' x' (λe=>hij e.symm) hn'];exact D.keep kp _ _ (hh j t' x' hj hl hn')
      rw[<-henv];have:x'.d γ' j=.v undef:=(by cases x'<;>simp[Ey.isS] at e3;rfl);rw[this];exact hfar _ (ok.put _ _) t' e2
    · intro j hj hl k hk';by_cases hij:i=j
      · subst hij;have:=hpl k hk';have hki:i≠k:=(by have:=hpre i hil k hk';omega);rw[getD_set_ne true hki];exact this
      rw[getD_set_ne true hij] at hl;have:=hdn j hj hl k hk';by_cases hik:i=k
      · subst hik;rw[hu] at this;cases this
      rw[getD_set_ne true hik];exact this
    intro j hj hjl;rw[getD_set_ne true (by omega)];exact ht j hj hjl
   have hDu:(λj=>listed.getD j true) i=false:=hu;have gs:=(hs0 (λj=>listed.getD j true) γ).out _ _ _ g;have run:runX P ops n op ty (kpre (geny γ 0 es) K (zM ops i)) Hs HF γ i x->EOp P op ty (zF a) w' (λv w''=>wpAny P .any ops.toArray (λe a' w'=>Ok N a'/\∃ F',Q e (zF a') w' F') fuel (listed.setIfInBounds i true) (a.put o.dst v) w''):=by
    intro hrun;cases x with
    | q d=>
     obtain ⟨hrun,hf⟩:=hrun;refine(Qu.out hrun _ w' F' hkp g.flt gs.h.ok).mono ?_;rintro v w'' ⟨E,hrep⟩;rw[<-hf] at g;obtain ⟨g',kp⟩:=Good.fn g E;exact after γ v w'' _ (λ_ _ _ _ _=>rfl) g' kp (λ_=>hrep)
    | s=>
     refine((hrun _ hDu hdn hpl).out C _ w' F' hkp g).mono ?_;rintro v w'' ⟨F'',d',H'',rfl,hrep,g',kp⟩;refine after γ v w'' F'' (λ_ _ _ _ _=>rfl) g' kp (λht'=>?_);rcases hdx with ⟨_,e⟩ | ⟨e,_,_⟩
     · cases e
     rw[e] at ht';cases ht'
    | e d=>
     refine((hrun _ hDu hdn hpl).out C _ w' F' hkp g).mono ?_;rintro v w'' ⟨F'',d',H'',⟨rfl,rfl⟩,hrep,g',kp⟩;exact after γ v w'' F'' (λ_ _ _ _ _=>rfl) g' kp (λ_=>hrep)
    | f m=>
     refine((hrun _ hDu hdn hpl).out C _ w' F' hkp g).mono ?_;rintro v w'' ⟨F'',d',H'',⟨vv,rfl,rfl⟩,hrep,g',kp⟩;refine after (ug γ i vv) v w'' F'' (λj t' x' hj _=>?_) g' kp ?_
     · cases x' with
       | q _=>rfl
       | e _=>rfl
       | s=>rfl
       | f _=>simp only[Ey.d,zgE γ vv hj]
     intro _;simp only[Ey.d,qI];exact hrep
   unfold wpOp;rw[o1];simp only;rw[aB (by unfold Region.wanted;rw[o5])];left;apply zcw;rw[o3,o4];exact run h3
 have gd:=(Good.fn g (Ext.drew w)).1;have hkd:=hk.keep (Good.fn g (Ext.drew w)).2;have hz:∀ i,i<n->(Array.replicate ops.toArray.size false).getD i true=false:=λi hi=>by
  have:i<ops.length:=by omega
  simp[this]
 refine key ops.toArray.size (Array.replicate ops.toArray.size false) (λ_=>undef) a _ _ (by simp) ?_ ok hkd (by rw[h0 _ _ hz];exact gd) (λi t x hi hl=>?_) (λi hi hl=>?_) (λi _ hi=>?_)
 · unfold cnt;refine jM (vM) (by simp)
 · rw[hz i hi] at hl;cases hl
 · rw[hz i hi] at hl;cases hl
 simp[hi]
variable {a s:Nat} {A B:Gh->Hp} {H:List Hp}
def Ef.post {op:Op} {ty:TypeId} {R R':D->List Hp->Prop} (h:Ef P op ty K H R) (hR:∀ d H',R d H'->∃ H'',HSub H' H''/\R' d H''):Ef P op ty K H R':=
 ⟨λC ρ w F hk g=>(h.out C ρ w F hk g).mono (by
  rintro v w' ⟨F',d',H',r,hrep,g',kp⟩;obtain ⟨H'',s,r'⟩:=hR d' H' r;exact⟨F',d',H'',r',hrep,s.out _ _ _ g',kp⟩)⟩
def HF5 (a c:Nat) (B:Gh->Hp) (T T' R:List Hp):HFn:=λD γ=>(bif D a then [B γ] else [])++((bif D c then T' else T)++R)
variable {c:Nat} {T T' R:List Hp}
def aYz (ha:Nat.blt a n=true) (hc:Nat.blt c n=true) (γ:Gh) (D:Nat->Bool) (h:∀ i,i<n->D i=false):HF5 a c B T T' R D γ=T++R:=by
 unfold HF5;rw[h _ (zaE.1 hc),h _ (zaE.1 ha)];rfl
def aY0 (ha:Nat.blt a n=true) (hc:Nat.blt c n=true) (γ:Gh) (D:Nat->Bool) (h:∀ i,i<n->D i=true):HF5 a c B T T' R D γ=B γ::(T'++R):=by
 unfold HF5;rw[h _ (zaE.1 hc),h _ (zaE.1 ha)];rfl
def zgT (h1:Nat.beq a k=false) (h2:Nat.beq c k=false) (D:Nat->Bool):HF5 a c B T T' R (ub D k) γ=HF5 a c B T T' R D γ:=by
 unfold HF5 ub;rw[h1,h2];rfl
def aZ7 (D:Nat->Bool) (γ:Gh):HSub (HF5 a c B T T' R D γ) R:=w9 ((List.sublist_append_right _ _).trans (List.sublist_append_right _ _))
def aZq {t:Tmp} {d:D} {op:Op} {ty:TypeId} (he:nth es c=some (t,.e d)) (ho:opAt ops c=some (some t,op,ty,none)) {pre:List Nat} (hp:zM ops c=pre) (h1:Nat.beq a c=false)
 (h:∀ R,Ef P op ty (kpre (geny γ 0 es) K pre) (T++R) (λd' H''=>d'=d/\H''=T'++R)):StepX P N n ops K Hs (HF5 a c B T T' R) γ es c:=
 sx_e he ho hp (λD hk hD hpr=>by
  unfold HF5 ub;rw[h1,jT,hk];cases D a with
  | false=>exact h R
  | true=>
   refine Ef.post (Ef.preH (mA (vC (l₁:=T) (a:=B γ) (l₂:=R)).symm) (h (B γ::R))) ?_;rintro _ _ ⟨rfl,rfl⟩;exact⟨_,mA (vC (l₁:=T') (a:=B γ) (l₂:=R)),O,O⟩)
def a0t {t:Tmp} {op:Op} {ty:TypeId} {m:Value->D} (he:nth es a=some (t,.f m)) (ho:opAt ops a=some (some t,op,ty,none)) {pre:List Nat} (hp:zM ops a=pre) (h1:Nat.beq c a=false)
 (h:∀ H,Ef P op ty (kpre (geny γ 0 es) K pre) H (λd' H''=>∃ v,d'=m v/\H''=B (ug γ a v)::H)):StepX P N n ops K Hs (HF5 a c B T T' R) γ es a:=
 sx_f he ho hp (λD hk hD hpr=>by
  unfold HF5 ub;rw[hk,h1,jT];exact h _)
def HFb (R:List Hp):HFn:=λ_ _=>R
variable {B':Hp} {F:HFn} {X:List Hp} {X':Gh->List Hp}
end
end Lp
