import Derived.Test.YtpbcckjedaieoaaGreatDoorDE
set_option linter.unusedSimpArgs false
set_option linter.unusedVariables false
namespace Lp
open Go Go.RowKit
def FN (F:Nat->Prop) (w w':World) (b:Nat):Prop:=F b\/(w.heap.size<=b/\b<w'.heap.size)
structure Qu (P:Program) (op:Op) (ty:TypeId) (K:Kd) (H:List Hp) (d:D):Prop where
 out:∀ ρ w F,KOk w F ρ K->(∀ b,F b->b<w.heap.size)->(∀ h∈H,h.ok w F)->EOp P op ty ρ w (λu w'=>Ext w w'/\D.rep w' (FN F w w') d u)
section
variable {P:Program} {ty:TypeId} {K:Kd} {H:List Hp} {op:Op}
theorem Pu.qu {d:D} (h:Pu P op ty K H d):Qu P op ty K H d:=
 ⟨λρ w F hk hF hH=>(h.out ρ w F hk hF hH).mono λ_ _ ⟨e,hr⟩=>by subst e;exact⟨wV,D.keep ⟨λ_ h=>.inl h,λ_ _ _=>rfl⟩ _ _ hr⟩⟩
theorem Good.fn {C:Ctx} {H:List Hp} {w w':World} {F:Nat->Prop} (g:Good C H w F) (E:Ext w w'):Good C H w' (FN F w w')/\Keep w F w' (FN F w w'):=by
 have g':=g.ext E;refine⟨{ g' with fsub:=λb h=>.inl (g.fsub b h),fnew:=?_,flt:=?_,h:=⟨g.h.apart,λh hh=>Hp.keep (g'.h.ok h hh) ⟨λ_ h=>.inl h,λ_ _ _=>rfl⟩ (λ_ _=>rfl),λb hb=>⟨(g.h.mine b hb).1,?_⟩⟩ },⟨λ_ h=>.inl h,λb _ hb=>E.block b hb (.inr (c7 _))⟩⟩
 · rintro b (h | ⟨h,_⟩)
   · exact g.fnew b h
   exact .inr (.inl (jA g.size h))
 · rintro b (h | ⟨_,h⟩)
   · exact j9 (g.flt b h) E.size
   exact h
 rintro (h | ⟨h,_⟩)
 · exact(g.h.mine b hb).2 h
 have:=zfh g.h hb;omega
theorem qu_of_call {f:FuncId} {ds0 ds:List D} {R:D->List Hp->Prop} {w:World} {F:Nat->Prop} {vs:List Value} {d:D} (hcall:CD P f [] ds R) (hF:∀ b,F b->b<w.heap.size) (hr:D.repA w F ds0 vs) (ha:CvL ds0 ds) (hd:∀ d' H',R d' H'->ArgC H' d' d):
 Calls P f vs.toArray w (Ret λu w'=>Ext w w'/\D.rep w' (FN F w w') d u):=by
 refine(hcall.out w F vs (ha.repA hr) hF ⟨.nil,λ_ h=>by (cases h),λ_ ⟨_,h,_⟩=>by cases h⟩).mono ?_;rintro e w' ⟨u,rfl,F',d',H',hR,hrep,g⟩;have hno:∀ b,¬blks [] b:=λ_ ⟨_,h,_⟩=>by cases h
 refine⟨u,rfl,⟨g.os,g.tape,g.output,g.size,λb hb _=>g.frame b hb (hno b),g.drawn⟩,?_⟩;refine D.keep ⟨?_,λ_ _ _=>rfl⟩ _ _ ((hd d' H' hR).out w' F' u g.flt g.h.ok hrep);rintro b (h | h)
 · rcases g.fnew b h with h1 | h1 | h1
   · exact .inl h1
   · exact .inr ⟨h1,g.flt b h⟩
   exact absurd h1 (hno b)
 rcases (g.h.mine b h).1 with h1 | h1
 · exact .inr ⟨h1,zfh g.h h⟩
 exact absurd h1 (hno b)
theorem zac {f:FuncId} {args:Array Operand} {ats:Array TypeId} {ds0 ds:List D} {R:D->List Hp->Prop} {d:D} (hargs:opsD K args.toList=some ds0) (ha:CvL ds0 ds)
 (hc:∀ args w,(callFunc f args).run P w=.ok (.enter f args) w) (hcall:CD P f [] ds R) (hd:∀ d' H',R d' H'->ArgC H' d' d):Qu P (.call { callee:=.value (.func f),args:=args,argTypes:=ats }) ty K H d:=
 ⟨λρ w F hk hF _=>e_call (zp ρ args.toList) (zcq ρ args.toList args.toList (λ_ h=>h)) hc (qu_of_call hcall hF (zcU hk hargs) ha hd) (λ_ _ h=>h)⟩
theorem HOk.empty {w:World} {F A:Nat->Prop}:HOk w F A []:=⟨.nil,λ_ h=>by (cases h),λ_ ⟨_,h,_⟩=>by cases h⟩
theorem qu_of_ef {H0:List Hp} {R:D->List Hp->Prop} {d:D} (h:Ef P op ty K [] R) (hd:∀ d' H',R d' H'->ArgC H' d' d):Qu P op ty K H0 d:=
 ⟨λρ w F hk hF _=>by
  have g0:Good ⟨w,blks [],F⟩ [] w F:=mJ hF HOk.empty;refine(h.out _ ρ w F hk g0).mono ?_;rintro u w' ⟨F',d',H',hR,hrep,g,k⟩;have hno:∀ b,¬blks [] b:=λ_ ⟨_,h,_⟩=>by cases h
  refine⟨⟨g.os,g.tape,g.output,g.size,λb hb _=>g.frame b hb (hno b),g.drawn⟩,?_⟩;refine D.keep ⟨?_,λ_ _ _=>rfl⟩ _ _ ((hd d' H' hR).out w' F' u g.flt g.h.ok hrep);rintro b (h | h)
  · rcases g.fnew b h with h1 | h1 | h1
    · exact .inl h1
    · exact .inr ⟨h1,g.flt b h⟩
    exact absurd h1 (hno b)
  rcases (g.h.mine b h).1 with h1 | h1
  · exact .inr ⟨h1,zfh g.h h⟩
  exact absurd h1 (hno b)⟩
theorem zm {t e len z:Nat} {ps:Array (Nat×Operand)} {zv:Value} (xs:List Operand) {ds:List D} (hp:ps.toList=(xs.zipIdx 0).map λx=>(x.2,x.1)) (hx:opsD K xs=some ds) (hc:CellDs [] ds) (hal:zfV z ds=true)
 (ht:∀ w,(underlying t).run P w=.ok (.slice e) w) (hs:∀ w,(Go.sizeOf e).run P w=.ok z w) (hzv:∀ w,(zeroValue e).run P w=.ok zv w) (hlen:Nat.beq ds.length len=true) (hz:Nat.blt 0 z=true) (hsm:Nat.ble (len*z) 1000=true) (hl0:Nat.blt 0 len=true):
 Qu P (.buildSlice t len ps) ty K H (.sh z ds):=
 qu_of_ef (zq xs hp hx hc hal ht hs hzv hlen hz hsm hl0) λ_ _ ⟨g,e1,e2⟩=>by subst e1;subst e2;exact mP (j:=0) rfl rfl
theorem Ef.preH {R:D->List Hp->Prop} {H':List Hp} (s:HSub H H') (h:Ef P op ty K H' R):Ef P op ty K H R:=⟨λC ρ w F hk g=>h.out C ρ w F hk (s.out _ _ _ g)⟩
theorem Qu.cv {d d':D} (h:Qu P op ty K H d) (c:Cv d d'):Qu P op ty K H d':=
 ⟨λρ w F hk hF hH=>(h.out ρ w F hk hF hH).mono λ_ _ ⟨e,hr⟩=>⟨e,c.out _ _ _ hr⟩⟩
end
abbrev En:=Tmp×D×Option (List Hp)
def hof (H0:List Hp):List En->Nat->List Hp
 | _,0=>H0
 | [],_=>H0
 | (_,_,e)::r,k+1=>hof (e.getD H0) r k
def isEf (ens:List En) (k:Nat):Bool:=match nth ens k with
 | some (_,_,some _)=>true
 | _=>false
def zdM (ens:List En):Nat->Option Nat
 | 0=>none
 | k+1=>bif isEf ens k then some k else zdM ens k
def kpre (ens:List En) (K:Kd):List Nat->Kd
 | []=>K
 | j::r=>match nth ens j with
  | some (t,d,_)=>(t,d)::kpre ens K r
  | none=>kpre ens K r
def zfs (ops:List Oper) (ens:List En):Bool:=(List.range ens.length).all λk=>!isEf ens k||match zdM ens k with
 | some l=>has (zP ops k) l
 | none=>true
def enK (ens:List En) (K:Kd):Kd:=ens.foldl (λK e=>(e.1,e.2.1)::K) K
def runAt (P:Program) (op:Op) (ty:TypeId) (K:Kd) (Hs Hk:List Hp) (d:D):Option (List Hp)->Prop
 | none=>Qu P op ty K Hs d
 | some H'=>Ef P op ty K Hk (λd' H''=>d'=d/\H''=H')/\HSub H' Hs
structure StepA (P:Program) (N:Nat) (ops:List Oper) (K:Kd) (Hs H0:List Hp) (ens:List En) (k:Nat):Prop where
 out:∃ t d e op ty g,nth ens k=some (t,d,e)/\opAt ops k=some (some t,op,ty,g)/\
  match g with
  | none=>runAt P op ty (kpre ens K (zP ops k)) Hs (hof H0 ens k) d e
  | some (j,want)=>∃ s u,zX ops j=some s/\Nat.blt s N=true/\zI (kpre ens K (zP ops k)) s=some (.v u)/\(nb u=some want->runAt P op ty (kpre ens K (zP ops k)) Hs (hof H0 ens k) d e)/\(nb u≠some want->d=.v undef/\e=none)
section
variable {P:Program} {N:Nat} {ops:List Oper} {K:Kd} {Hs H0:List Hp} {ens:List En} {k:Nat}
theorem sa_q {t:Tmp} {d:D} {op:Op} {ty:TypeId} (he:nth ens k=some (t,d,none)) (ho:opAt ops k=some (some t,op,ty,none)) {pre:List Nat} (hp:zP ops k=pre) (h:Qu P op ty (kpre ens K pre) Hs d):StepA P N ops K Hs H0 ens k:=
 ⟨t,d,none,op,ty,none,he,ho,by subst hp;exact h⟩
theorem sa_p {t:Tmp} {d:D} {op:Op} {ty:TypeId} (he:nth ens k=some (t,d,none)) (ho:opAt ops k=some (some t,op,ty,none)) {pre:List Nat} (hp:zP ops k=pre) (h:Pu P op ty (kpre ens K pre) Hs d):StepA P N ops K Hs H0 ens k:=
 sa_q he ho hp h.qu
theorem sa_e {t:Tmp} {d:D} {op:Op} {ty:TypeId} {H' Hk:List Hp} (he:nth ens k=some (t,d,some H')) (ho:opAt ops k=some (some t,op,ty,none)) {pre:List Nat} (hp:zP ops k=pre) (hH:hof H0 ens k=Hk) (h:Ef P op ty (kpre ens K pre) Hk (λd' H''=>d'=d/\H''=H')) (hs:HSub H' Hs):StepA P N ops K Hs H0 ens k:=
 ⟨t,d,some H',op,ty,none,he,ho,by subst hp;subst hH;exact⟨h,hs⟩⟩
theorem zo {t:Tmp} {d:D} {op:Op} {ty:TypeId} {j:Nat} {want:Bool} {s:Tmp} (he:nth ens k=some (t,d,none)) (ho:opAt ops k=some (some t,op,ty,some (j,want))) {pre:List Nat} (hp:zP ops k=pre) (hj:zX ops j=some s) (hs:Nat.blt s N=true) (hb:zI (kpre ens K pre) s=some (.v (.bool want))) (h:Qu P op ty (kpre ens K pre) Hs d):StepA P N ops K Hs H0 ens k:=
 ⟨t,d,none,op,ty,some (j,want),he,ho,s,.bool want,hj,hs,by subst hp;exact hb,λ_=>by subst hp;exact h,λhne=>absurd rfl hne⟩
theorem sa_s {t:Tmp} {op:Op} {ty:TypeId} {j:Nat} {want:Bool} {s:Tmp} {u:Value} (he:nth ens k=some (t,.v undef,none)) (ho:opAt ops k=some (some t,op,ty,some (j,want))) {pre:List Nat} (hp:zP ops k=pre) (hj:zX ops j=some s) (hs:Nat.blt s N=true) (hb:zI (kpre ens K pre) s=some (.v u)) (hu:nb u≠some want):StepA P N ops K Hs H0 ens k:=
 ⟨t,.v undef,none,op,ty,some (j,want),he,ho,s,u,hj,hs,by subst hp;exact hb,λh=>absurd h hu,λ_=>⟨rfl,rfl⟩⟩
def ze6 (P:Program) (N:Nat) (ops:List Oper) (K:Kd) (Hs H0:List Hp) (ens:List En):Nat->Nat->Prop
 | _,0=>True
 | k,todo+1=>StepA P N ops K Hs H0 ens k/\ze6 P N ops K Hs H0 ens (k+1) todo
theorem ze6.get:∀ (todo k:Nat),ze6 P N ops K Hs H0 ens k todo->∀ i,k<=i->i<k+todo->StepA P N ops K Hs H0 ens i
 | 0,k,_,i,h1,h2=>by omega
 | todo+1,k,⟨h,hr⟩,i,h1,h2=>by
  rcases dH k i with h3 | h3
  · exact ze6.get todo (k+1) hr i h3 (by omega)
  have:i=k:=by omega
  subst this;exact h
theorem hof_none:∀ (ens:List En) (H0:List Hp) (k:Nat),isEf ens k=false->hof H0 ens (k+1)=hof H0 ens k
 | [],H0,k,_=>by cases k<;>rfl
 | (t,d,e)::r,H0,0,h=>by
  cases e with
  | none=>show hof (none.getD H0) r 0=H0;cases r<;>rfl
  | some x=>simp[isEf,nth] at h
 | (t,d,e)::r,H0,k+1,h=>hof_none r (e.getD H0) k (by simpa [isEf,nth] using h)
theorem zdv:∀ (ens:List En) (H0:List Hp) (k:Nat) (t:Tmp) (d:D) (H':List Hp),nth ens k=some (t,d,some H')->hof H0 ens (k+1)=H'
 | [],_,k,_,_,_,h=>by simp[nth] at h
 | (t,d,e)::r,H0,0,t',d',H',h=>by
  simp[nth] at h;obtain ⟨rfl,rfl,rfl⟩:=h;show hof H' r 0=H';cases r<;>rfl
 | (t,d,e)::r,H0,k+1,t',d',H',h=>zdv r (e.getD H0) k t' d' H' (by simpa [nth] using h)
theorem zdw (p:Nat):∀ k,p<=k->(∀ i,p<=i->i<k->isEf ens i=false)->hof H0 ens k=hof H0 ens p
 | 0,h,_=>by rw[show p=0 by omega]
 | k+1,h,hn=>by
  rcases dH p (k+1) with h1 | h1
  · rw[hof_none ens H0 k (hn k (by omega) (by omega))];exact zdw p k (by omega) (λi a b=>hn i a (by omega))
  rw[show p=k+1 by omega]
theorem lastEf_some:∀ (k i:Nat),i<k->isEf ens i=true->∃ l,zdM ens k=some l/\i<=l/\l<k/\isEf ens l=true
 | 0,i,h,_=>by omega
 | k+1,i,h,he=>by
  unfold zdM;cases hk:isEf ens k with
  | true=>exact⟨k,rfl,by omega,by omega,hk⟩
  | false=>
   have:i<k:=by
    rcases dH i k with h1 | h1
    · exact h1
    rw[show i=k by omega] at he;rw[he] at hk;cases hk
   obtain ⟨l,h1,h2,h3,h4⟩:=lastEf_some k i this he;exact⟨l,h1,h2,by omega,h4⟩
theorem zfc {w:World} {F:Nat->Prop} {ρ:Env} (hk:KOk w F ρ K):∀ (pre:List Nat),(∀ j∈pre,∀ t d e,nth ens j=some (t,d,e)->D.rep w F d (ρ t))->KOk w F ρ (kpre ens K pre)
 | [],_=>hk
 | j::r,h=>by
  have ih:=zfc hk r (λx hx=>h x (dC _ hx));unfold kpre;cases hj:nth ens j with
  | none=>exact ih
  | some e=>
   obtain ⟨t,d,x⟩:=e;intro s u hu;simp only[zI] at hu;by_cases e:s=t
   · subst e;rw[show Nat.beq s s=true from j6 s] at hu;simp only[cond_true,dF] at hu;subst hu;exact h j c6 s _ x hj
   rw[za6 e] at hu;simp only[cond_false] at hu;exact ih s u hu
theorem zfO {w:World} {F:Nat->Prop} {ρ:Env}:∀ (ens:List En) (K:Kd),KOk w F ρ K->(∀ j:Nat,∀ t d e,nth ens j=some (t,d,e)->D.rep w F d (ρ t))->KOk w F ρ (enK ens K)
 | [],K,hk,_=>hk
 | (t,d,x)::r,K,hk,h=>by
  refine zfO r ((t,d)::K) ?_ (λj t' d' e hj=>h (j+1) t' d' e (by simpa [nth] using hj));intro s u hu;simp only[zI] at hu;by_cases e:s=t
  · subst e;rw[show Nat.beq s s=true from j6 s] at hu;simp only[cond_true,dF] at hu;subst hu;exact h 0 s _ x (by simp[nth])
  rw[za6 e] at hu;simp only[cond_false] at hu;exact hk s u hu
theorem lookD_keys {K:Kd} {t:Nat} (h:(keys (K.map λx=>(x.1,Value.nilFunc))).contains t=false):zI K t=none:=by
 induction K with
 | nil=>rfl
 | cons x r ih=>
  obtain ⟨d,v⟩:=x;simp only[keys,jS,List.contains_cons,uT] at h;have hne:¬t=d:=by intro e;rw[e] at h;simp at h
  simp only[zI,za6 hne,cond_false];exact ih h.2
theorem KOk.other {w:World} {F:Nat->Prop} {ρ:Env} {K:Kd} (hk:KOk w F ρ K) {t:Nat} {v:Value} (ht:zI K t=none):KOk w F (Lp.upd ρ (some t) v) K:=by
 intro s u hu;have:s≠t:=by rintro rfl;rw[ht] at hu;cases hu
 simpa [Lp.upd,this] using hk s u hu
theorem hof_zero (H0:List Hp) (ens:List En):hof H0 ens 0=H0:=by cases ens<;>rfl
theorem jd_draw {C:Ctx} {c:Code} {H:List Hp} {Q:za9} (n:Nat) (ens:List En) (Hs:List Hp) {Hn:List Hp} (hm:P.follows .mixedOrders=true) (hc:zcy c=some true) (hlen:Nat.beq ens.length n=true) (hB:drawB (zax c) n N (K.map λx=>(x.1,Value.nilFunc))=true) (hch:zfs (zax c) ens=true) (hs0:HSub H Hs) (hHn:hof H ens n=Hn)
 (hsteps:ze6 P N (zax c) K Hs H ens 0 n) (next:OpsD P N C (zax c) n (enK ens K) Hn (λρ w F=>Q .normal ρ w F)):JD P N C c K H Q:=by
 cases c<;>simp[zcy] at hc
 rename_i id opsA draw;subst hc;subst hHn;simp only[zax] at hB hsteps hch next
 generalize hops:opsA.toList=ops at hB hsteps hch next
 have hA:opsA=ops.toArray:=by rw[<-hops]
 subst hA;have hlen:=dU hlen;unfold drawB at hB;simp only[c8] at hB;obtain ⟨⟨hback,htail⟩,hfresh⟩:=hB;unfold freshB at hfresh;simp only[c8] at hfresh;obtain ⟨hnl,hfr⟩:=hfresh;have hnl:=dV hnl;rw[dK] at hfr;have hpre:∀ k,k<ops.length->∀ j∈zP ops k,j<k:=by
  intro k hk j hj;unfold zeV at hback;rw[dK] at hback;have:=hback k (dY.2 hk);rw[dK] at this;exact zay.1 (this j hj)
 have hstep:∀ i,i<n->StepA P N ops K Hs H ens i:=λi hi=>ze6.get n 0 hsteps i (c7 _) (by omega)
 have hd:∀ i t d e,i<n->nth ens i=some (t,d,e)->zX ops i=some t/\Nat.blt t N=true/\zI K t=none/\∀ j,j<i->zX ops j≠some t:=by
  intro i t d e hi hn;obtain ⟨t',d',e',op,ty,g,h1,h2,_⟩:=(hstep i hi).out;rw[hn] at h1;cases h1;have hdst:zX ops i=some t:=by
   obtain ⟨o,q1,q2,_⟩:=zaF h2;have:nth ops i=some o:=(by rw[zat];simpa using q1);simp[zX,this,q2]
  have hf:=hfr i (dY.2 hi);rw[hdst] at hf;simp only[c8,uU] at hf;refine⟨hdst,hf.1.1,lookD_keys hf.1.2,λj hj=>?_⟩;have:=hf.2;rw[dK] at this;have:=this j (dY.2 hj);simpa using this
 have hne:∀ i j t d e t' d' e',i<n->j<n->i≠j->nth ens i=some (t,d,e)->nth ens j=some (t',d',e')->t≠t':=by
  intro i j t d e t' d' e' hi hj hij h1 h2 heq;obtain ⟨f1,_,_,f4⟩:=hd i t d e hi h1;obtain ⟨g1,_,_,g4⟩:=hd j t' d' e' hj h2;rcases vY hij with hlt | hlt
  · exact g4 i hlt (by rw[f1,heq])
  exact f4 j hlt (by rw[g1,heq])
 have hen:∀ i,i<n->∃ t d e,nth ens i=some (t,d,e):=λi hi=>by
  obtain ⟨t,d,e,_,_,_,h1,_⟩:=(hstep i hi).out;exact⟨t,d,e,h1⟩
 have hchain:∀ k l,k<n->isEf ens k=true->zdM ens k=some l->l∈zP ops k:=by
  intro k l hk he hl;unfold zfs at hch;rw[dK] at hch;have:=hch k (dY.2 (by omega));rw[he,hl] at this;exact has_mem (by simpa using this)
 have hsub:∀ k,k<=n->HSub (hof H ens k) Hs:=by
  intro k
  induction k with
  | zero=>intro _;rw[hof_zero];exact hs0
  | succ k ih=>
   intro hk;cases he:isEf ens k with
   | false=>rw[hof_none ens H k he];exact ih (by omega)
   | true=>
    obtain ⟨t,d,e,op,ty,g,h1,h2,h3⟩:=(hstep k (by omega)).out;cases e with
    | none=>simp[isEf,h1] at he
    | some H'=>
     rw[zdv ens H k t d H' h1];cases g with
     | none=>exact h3.2
     | some jw=>
      obtain ⟨j,want⟩:=jw;obtain ⟨s,u,_,_,_,h7,h8⟩:=h3;by_cases hb:nb u=some want
      · exact(h7 hb).2
      have:=(h8 hb).2;cases this
 refine⟨λa w F ok hk g=>?_⟩;apply wp_region_any hm;have final:∀ (a:Act) (w':World) (F':Nat->Prop) (p:Nat),Ok N a->KOk w' F' (zE a) K->p<=n->Good C (hof H ens p) w' F'->(∀ i,p<=i->i<n->isEf ens i=false)->(∀ i t d e,i<n->nth ens i=some (t,d,e)->D.rep w' F' d (zE a t))->
  wpOps P ops.toArray (λe a' w'=>Ok N a'/\∃ F',Q e (zE a') w' F') (List.range' n (ops.length-n)) a w':=by
  intro a w' F' p ok hk hp g hno hrep;rw[<-zdw (H0:=H) p n hp hno] at g;have hK:=zfO ens K hk (λj t d e hj=>hrep j t d e (by rw[zat] at hj;rw[<-hlen];exact(cZ.1 hj).1) hj);refine zaz ?_ _ _ _ (next.out a w' F' ok hK g);rintro e a' w'' ⟨rfl,h1,h2⟩;exact⟨h1,h2⟩
 have key:∀ (fuel:Nat) (listed:Array Bool) (a:Act) (w':World) (F':Nat->Prop) (p:Nat),listed.size=ops.length->cnt ops.length listed<=fuel->Ok N a->KOk w' F' (zE a) K->p<=n->Good C (hof H ens p) w' F'->
  (∀ i,i<p->isEf ens i=true->listed.getD i true=true)->(∀ i,p<=i->i<n->isEf ens i=true->listed.getD i true=false)->
  (∀ i t d e,i<n->listed.getD i true=true->nth ens i=some (t,d,e)->D.rep w' F' d (zE a t))->(∀ i,i<n->listed.getD i true=true->∀ j∈zP ops i,listed.getD j true=true)->(∀ i,n<=i->i<ops.length->listed.getD i true=false)->
  wpAny P .any ops.toArray (λe a' w'=>Ok N a'/\∃ F',Q e (zE a') w' F') fuel listed a w':=by
  intro fuel
  induction fuel with
  | zero=>
   intro listed a w' F' p hs hcnt ok hk hp g hdone hnot hh hdn ht;have hall:∀ i,i<ops.length->listed.getD i true=true:=by
    intro i hi;cases hc:listed.getD i true with
    | true=>rfl
    | false=>have:=zdG hi hs hc;omega
   have hn:ops.length=n:=by
    rcases dH n ops.length with h' | h'
    · have h1:=ht n (dD _) h';rw[hall n h'] at h1;cases h1
    omega
   refine zbx (n:=n) hback htail 0 n listed a w' (by omega) (dD _) hnl hs (λi hi=>by rw[hall i hi];simp;omega) ?_ 0 (by omega);refine final a w' F' p ok hk hp g (λi h1 h2=>?_) (λi t d e hi hn=>hh i t d e hi (hall i (by omega)) hn);cases he:isEf ens i with
   | false=>rfl
   | true=>have:=hnot i h1 h2 he;rw[hall i (by omega)] at this;cases this
  | succ fuel ih=>
   intro listed a w' F' p hs hcnt ok hk hp g hdone hnot hh hdn ht;by_cases hall:∀ i,i<n->listed.getD i true=true
   · refine zbx (n:=n) hback htail (ops.length-n) n listed a w' rfl (dD _) hnl hs (λi hi=>?_) ?_ (fuel+1) ?_
     · rcases dH i n with h' | h'
       · rw[hall i h'];simp[h']
       rw[ht i h' hi];simp;omega
     · refine final a w' F' p ok hk hp g (λi h1 h2=>?_) (λi t d e hi hn=>hh i t d e hi (hall i hi) hn);cases he:isEf ens i with
       | false=>rfl
       | true=>have:=hnot i h1 h2 he;rw[hall i h2] at this;cases this
     refine jA ?_ hcnt;unfold cnt;have hsplit:List.range ops.length=List.range n++List.range' n (ops.length-n):=by
      rw[uB,uB];have:=@List.range'_append 0 n (ops.length-n) 1;simp only[vR,d6] at this;rw[this];congr 1;omega
     rw[hsplit,uX];have:(List.range' n (ops.length-n)).countP (λi=>!listed.getD i true)=ops.length-n:=by
      rw[vI.2]
      · simp
      intro i hi;have:=wE.1 hi;rw[ht i (by omega) (by omega)];rfl
     omega
   obtain ⟨i0,hi0⟩:=Classical.not_forall.1 hall;obtain ⟨hi0n,hi0u⟩:=Classical.not_imp.1 hi0;have hi0u:listed.getD i0 true=false:=(by cases hx:listed.getD i0 true with | false=>rfl | true=>exact absurd hx hi0u);refine⟨λhe=>absurd he (zdo hs hback i0 (by omega) hi0u),λi hi=>?_⟩;obtain ⟨hu,hil,hps⟩:=zcH.1 hi;have hin:i<n:=by
    rcases dH i n with h' | h'
    · exact h'
    exfalso;have hpm:i0∈ancS ops i (zP ops i):=by
     have ht':=htail;unfold zfv at ht';rw[dK] at ht';have:=ht' i (dY.2 hil);rw[uG] at this;rcases this with h'' | h''
     · have:=zay.1 h'';omega
     rw[dK] at h'';exact zcX (h'' i0 (dY.2 (by omega)))
    have:=zdC (p:=λj=>j<ops.length/\listed.getD j true=true) (λk hk j hj=>by
     have hkn:k<n:=by
      rcases dH k n with hh | hh
      · exact hh
      have:=ht k hh hk.1;rw[hk.2] at this;cases this
     exact⟨by have:=hpre k hk.1 j hj;omega,hdn k hkn hk.2 j hj⟩) i _ (λj hj=>by
     have hjl:j<ops.length:=(by have:=hpre i hil j hj;omega);exact⟨hjl,by rw[zcN hs hjl];exact hps j hj⟩) i0 hpm
    rw[hi0u] at this;cases this.2
   obtain ⟨t,d,e,op,ty,gd,h1,h2,h3⟩:=(hstep i hin).out;obtain ⟨hdst,htN,htK,htne⟩:=hd i t d e hin h1;have hpl:∀ j∈zP ops i,listed.getD j true=true:=λj hj=>by
    have hjl:j<ops.length:=(by have:=hpre i hil j hj;omega);rw[zcN hs hjl];exact hps j hj
   have hkp:KOk w' F' (zE a) (kpre ens K (zP ops i)):=zfc hk _ (λj hj t' d' e' hn'=>hh j t' d' e' (by have:=hpre i hil j hj;omega) (hpl j hj) hn');obtain ⟨o,o1,o2,o3,o4,o5⟩:=zaF h2;have hdok:dok N (some t)=true:=htN;have after:∀ v w'' F'' q,q<=n->Good C (hof H ens q) w'' F''->Keep w' F' w'' F''->D.rep w'' F'' d v->(∀ k,k<q->isEf ens k=true->(listed.setIfInBounds i true).getD k true=true)->(∀ k,q<=k->k<n->isEf ens k=true->(listed.setIfInBounds i true).getD k true=false)->
    wpAny P .any ops.toArray (λe a' w'=>Ok N a'/\∃ F',Q e (zE a') w' F') fuel (listed.setIfInBounds i true) (a.put o.dst v) w'':=by
    intro v w'' F'' q hq g' kp hv hdone' hnot';have henv:zE (a.put o.dst v)=upd (zE a) (some t) v:=(by rw[o2];exact zcd ok hdok v);refine ih _ _ _ F'' q (by simp[hs]) ?_ (ok.put _ _) ?_ hq g' hdone' hnot' ?_ ?_ ?_
    · have:=zdG hil hs hu;omega
    · rw[henv];exact(hk.keep kp).other htK
    · intro j t' d' e' hj hl hn';rw[henv];by_cases hij:i=j
      · subst hij;rw[h1] at hn';cases hn';simpa [upd] using hv
      have hne':t'≠t:=λh'=>hne j i t' d' e' t d e hj hin (λx=>hij x.symm) hn' h1 h'
      rw[getD_set_ne true hij] at hl;simp only[upd,hne',if_false];exact D.keep kp _ _ (hh j t' d' e' hj hl hn')
    · intro j hj hl k hk';by_cases hij:i=j
      · subst hij;have:=hpl k hk';have hki:i≠k:=(by have:=hpre i hil k hk';omega);rw[getD_set_ne true hki];exact this
      rw[getD_set_ne true hij] at hl;have:=hdn j hj hl k hk';by_cases hik:i=k
      · subst hik;rw[hu] at this;cases this
      rw[getD_set_ne true hik];exact this
    intro j hj hjl;rw[getD_set_ne true (by omega)];exact ht j hj hjl
   have hset:(listed.setIfInBounds i true).getD i true=true:=by
    have:i<listed.size:=(by omega);simp[this]
   have stay:isEf ens i=false->(∀ k,k<p->isEf ens k=true->(listed.setIfInBounds i true).getD k true=true)/\(∀ k,p<=k->k<n->isEf ens k=true->(listed.setIfInBounds i true).getD k true=false):=by
    intro hq;refine⟨λk h1 h2=>?_,λk h1 h2 h3=>?_⟩
    · by_cases hik:i=k
      · subst hik;exact hset
      rw[getD_set_ne true hik];exact hdone k h1 h2
    by_cases hik:i=k
    · subst hik;rw[hq] at h3;cases h3
    rw[getD_set_ne true hik];exact hnot k h1 h2 h3
   have gs:=(hsub p hp).out _ _ _ g;have run:runAt P op ty (kpre ens K (zP ops i)) Hs (hof H ens i) d e->EOp P op ty (zE a) w' (λv w''=>wpAny P .any ops.toArray (λe a' w'=>Ok N a'/\∃ F',Q e (zE a') w' F') fuel (listed.setIfInBounds i true) (a.put o.dst v) w''):=by
    intro hrun;cases e with
    | none=>
     have hq:isEf ens i=false:=(by simp[isEf,h1]);refine(hrun.out _ w' F' hkp g.flt gs.h.ok).mono ?_;rintro v w'' ⟨E,hrep⟩;obtain ⟨g',kp⟩:=Good.fn g E;exact after v w'' _ p hp g' kp hrep (stay hq).1 (stay hq).2
    | some H'=>
     have hq:isEf ens i=true:=(by simp[isEf,h1]);obtain ⟨hef,_⟩:=hrun;have hpi:p<=i:=by
      rcases dH i p with h' | h'
      · have:=hdone i h' hq;rw[hu] at this;cases this
      exact h'
     have hno:∀ k,p<=k->k<i->isEf ens k=false:=by
      intro k hk1 hk2;cases hke:isEf ens k with
      | false=>rfl
      | true=>
       obtain ⟨l,l1,l2,l3,l4⟩:=lastEf_some i k hk2 hke;have:=hpl l (hchain i l hin hq l1);rw[hnot l (by omega) (by omega) l4] at this;cases this
     have gi:Good C (hof H ens i) w' F':=(by rw[zdw (H0:=H) p i hpi hno];exact g);refine(hef.out C _ w' F' hkp gi).mono ?_;rintro v w'' ⟨F'',d',H'',⟨rfl,rfl⟩,hrep,g',kp⟩;refine after v w'' F'' (i+1) (by omega) (by rw[zdv ens H i t _ _ h1];exact g') kp hrep (λk hk1 hk2=>?_) (λk hk1 hk2 hk3=>?_)
     · by_cases hik:i=k
       · subst hik;exact hset
       rw[getD_set_ne true hik];rcases dH k p with h' | h'
       · exact hdone k h' hk2
       have:=hno k h' (by omega);rw[hk2] at this;cases this
     rw[getD_set_ne true (by omega)];exact hnot k (by omega) hk2 hk3
   unfold wpOp;rw[o1];simp only;subst o5;cases hgo:o.guard with
   | none=>
    rw[hgo] at h3;rw[if_pos (by unfold Region.wanted;rw[hgo])];left;apply zb7;rw[o3,o4];exact run h3
   | some jw=>
    obtain ⟨j,want⟩:=jw;rw[hgo] at h3;obtain ⟨s,u,t1,t2,t3,t4,t5⟩:=h3;have hyv:yielded ops.toArray a.tmps j=nb u:=by
     have he:zE a s=u:=hkp s _ t3;have hts:s<a.tmps.size:=(by rw[ok.1];exact zay.1 t2);have hg':a.tmps[s]?=some u:=by
      simp only[zE,jN] at he;rw[uR hts] at he ⊢;simpa using he
     unfold yielded;unfold zX at t1;cases hn:nth ops j with
     | none=>rw[hn] at t1;cases t1
     | some oj=>
      rw[hn] at t1;have:ops.toArray[j]?=some oj:=(by rw[zat] at hn;simpa using hn);rw[this];simp only[wJ,t1,hg'];cases u<;>rfl
    by_cases hb:nb u=some want
    · rw[if_pos (by unfold Region.wanted;rw[hgo];simp[hyv,hb])];left;apply zb7;rw[o3,o4];exact run (t4 hb)
    rw[if_neg (by unfold Region.wanted;rw[hgo];simp[hyv,hb])];obtain ⟨rfl,rfl⟩:=t5 hb;have hq:isEf ens i=false:=(by simp[isEf,h1]);exact after undef w' F' p hp g wY rfl (stay hq).1 (stay hq).2
 have gd:=(Good.fn g (Ext.drew w)).1;have hkd:=hk.keep (Good.fn g (Ext.drew w)).2;refine key ops.toArray.size (Array.replicate ops.toArray.size false) a _ _ 0 (by simp) ?_ ok hkd (c7 _) (by rw[hof_zero];exact gd) (λi hi _=>by omega) (λi _ hi _=>?_) ?_ ?_ ?_
 · unfold cnt;refine jA (vJ) (by simp)
 · have:i<ops.length:=(by omega);simp[this]
 · intro i t d e hi hl;have:i<ops.length:=(by omega);simp[this] at hl
 · intro i hi hl;have:i<ops.length:=(by omega);simp[this] at hl
 intro i _ hi;simp[hi]
end
end Lp
namespace Lp
open Go Go.RowKit
structure ResO (P:Program) (K:Kd) (H:List Hp) (r:ResultVar) (d:D):Prop where
 out:∀ w F ρ,KOk w F ρ K->(∀ h∈H,h.ok w F)->∃ u,D.rep w F d u/\match r with
  | .tmp t=>ρ t=u
  | .cell a t=>∃ b o,ρ a=.pointer (some ⟨b,o,none⟩)/\(loadVar t ⟨b,o,none⟩).run P w=.ok u w
inductive ResOs (P:Program) (K:Kd) (H:List Hp):List ResultVar->List D->Prop
 | nil:ResOs P K H [] []
 | cons {r:ResultVar} {d:D} {rs:List ResultVar} {ds:List D}:ResO P K H r d->ResOs P K H rs ds->ResOs P K H (r::rs) (d::ds)
def zf2:List D->D
 | [d]=>d
 | ds=>.tup ds
section
variable {P:Program} {K:Kd} {H:List Hp}
theorem zd {t:Tmp} {d:D} (h:zI K t=some d):ResO P K H (.tmp t) d:=⟨λw F ρ hk _=>⟨_,hk t d h,rfl⟩⟩
theorem zf {r:ResultVar} {d d':D} (h:ResO P K H r d) (c:Cv d d'):ResO P K H r d':=⟨λw F ρ hk hH=>by obtain ⟨u,h1,h2⟩:=h.out w F ρ hk hH;exact⟨u,c.out _ _ _ h1,h2⟩⟩
theorem zO {a:Tmp} {t:TypeId} {g o n i:Nat} {T:TypeId} {X d:D} (hx:zI K a=some (.v (.pointer (some ⟨g,o,none⟩)))) (hm:nth H i=some (.bx g T X)) (hg:∀ w,(isAgg t).run P w=.ok true w) (hs:∀ w,(Go.sizeOf t).run P w=.ok n w) (hn:Nat.ble (o+n) X.cells.length=true) (hd:zeU X o n=d):ResO P K H (.cell a t) d:=⟨λw F ρ hk hH=>by
 obtain ⟨u,hr,h1,hat⟩:=bx_at (hH _ (zR hm));have hl:=w8 hr h1;have hlen:=zaS hl;have hn:=dV hn;have hat':=hat.sub o n;rw[d6] at hat';have hn':(((vcs u).drop o).take n).length=n:=by simp only[dG,dL,hlen];omega
 subst hd;exact⟨_,⟨_,rfl,zdd n (zde o hl)⟩,g,o,hk a _ hx,run_loadVar_agg hg (by rw[hn'];exact hs) hat'⟩⟩
theorem results_data {w:World} {F:Nat->Prop} {ρ:Env} (hk:KOk w F ρ K) (hH:∀ h∈H,h.ok w F) (tmps:Array Value) (ht:∀ t,tmps.getD t undef=ρ t) (f:ResultVar->Sem Value) (f1:∀ t,f (.tmp t)=pure (tmps.getD t undef))
 (f2:∀ a t,f (.cell a t)=(asAddr (tmps.getD a undef) >>=λx=>loadVar t x)) {rs:List ResultVar} {ds:List D} (h:ResOs P K H rs ds):∃ vs,(rs.mapM f).run P w=.ok vs w/\D.repA w F ds vs:=by
 induction h with
 | nil=>exact⟨[],by simp,rfl⟩
 | cons hd _ ih=>
  obtain ⟨vs,e1,e2⟩:=ih;obtain ⟨u,hu,hm⟩:=hd.out w F ρ hk hH;rename_i r d rs ds _;refine⟨u::vs,?_,u,vs,rfl,hu,e2⟩;rw[List.mapM_cons];cases r with
  | tmp t=>
   rw[f1];have:tmps.getD t undef=u:=(by rw[ht];exact hm);simp only[jN] at this;simp[e1,this]
  | cell a t=>
   rw[f2];obtain ⟨b,o,h1,h2⟩:=hm;have:tmps.getD a undef=.pointer (some ⟨b,o,none⟩):=(by rw[ht];exact h1);simp only[jN] at this;simp[e1,this,asAddr,h2]
theorem results_packD {fn:Func} {rs:List ResultVar} {ds:List D} {w:World} {F:Nat->Prop} {ρ:Env} (hr:fn.results=rs.toArray) (h:ResOs P K H rs ds) (hk:KOk w F ρ K) (hH:∀ h∈H,h.ok w F) (tmps:Array Value) (ht:∀ t,tmps.getD t undef=ρ t):∃ v,(results fn tmps).run P w=.ok v w/\D.rep w F (zf2 ds) v:=by
 have key:∃ vs,(results fn tmps).run P w=.ok (packed vs) w/\D.repA w F ds vs:=by
  unfold results;rw[hr,List.mapM_toArray];simp only[Sem.run_bind,Sem.run_map,Sem.run_pure];generalize hf:(λx:ResultVar=>(match x with
   | .tmp t=>pure (tmps.getD t undef)
   | .cell a t=>do loadVar t (<-asAddr (tmps.getD a undef)):Sem Value))=f
  obtain ⟨vs,e1,e2⟩:=results_data (P:=P) hk hH tmps ht f (λ_=>by rw[<-hf]) (λ_ _=>by rw[<-hf]) h;refine⟨vs,?_,e2⟩;rw[e1];simp only[Result.andThen_ok];congr 1
  match vs with
  | []=>rfl
  | [v]=>rfl
  | u::v::r=>simp[packed]
 obtain ⟨vs,e1,e2⟩:=key;refine⟨packed vs,e1,?_⟩;cases h with
 | nil=>rw[show vs=[] from e2];exact⟨[],rfl,rfl⟩
 | cons h1 h2=>
  cases h2 with
  | nil=>obtain ⟨u,us,rfl,h3,h4⟩:=e2;rw[show us=[] from h4];exact h3
  | cons h3 h4=>obtain ⟨u,us,rfl,h5,u',us',rfl,h6⟩:=e2;exact⟨_,rfl,u,_,rfl,h5,u',us',rfl,h6⟩
theorem pd_retH {C:Ctx} {fn:Func} {R:D->List Hp->Prop} {rs:List ResultVar} {ds:List D} {d:D} {H':List Hp} (hr:fn.results=rs.toArray) (h:ResOs P K H rs ds) (hp:zf2 ds=d) (hs:HSub H H') (hR:R d H'):PD C (qret P fn C R) .ret K H:=
 ⟨λρ w F hk g tmps ht=>by
  obtain ⟨v,e1,e2⟩:=results_packD hr h hk g.h.ok tmps ht;exact⟨v,e1,F,d,H',hR,hp ▸ e2,hs.out _ _ _ g⟩⟩
theorem pd_endH {C:Ctx} {fn:Func} {R:D->List Hp->Prop} {rs:List ResultVar} {ds:List D} {d:D} {H':List Hp} (hr:fn.results=rs.toArray) (h:ResOs P K H rs ds) (hp:zf2 ds=d) (hs:HSub H H') (hR:R d H'):PD C (qret P fn C R) .normal K H:=
 ⟨λρ w F hk g tmps ht=>by
  obtain ⟨v,e1,e2⟩:=results_packD hr h hk g.h.ok tmps ht;exact⟨v,e1,F,d,H',hR,hp ▸ e2,hs.out _ _ _ g⟩⟩
mutual
def D.bd:D->Prop
 | .s b=>b.size<=9223372036854775807
 | .sh _ xs=>xs.length<=9223372036854775807/\D.bdL xs
 | .agg cs=>D.bdL cs
 | .tup cs=>D.bdL cs
 | .ifc _ d=>D.bd d
 | .el x _=>D.bd x
 | _=>True
def D.bdL:List D->Prop
 | []=>True
 | d::r=>D.bd d/\D.bdL r
end
section
variable {w:World} {F:Nat->Prop}
mutual
theorem mQ:∀ (d:D) (a:Value),D.rep w F d a->D.bd d
 | .v _,_,_=>trivial
 | .ov _,_,_=>trivial
 | .s _,_,h=>h.2
 | .agg cs,_,⟨vs,e,h⟩=>D.repL_bd cs vs h
 | .tup cs,_,⟨vs,e,h⟩=>D.repA_bd cs vs h
 | .ifc _ d,_,⟨u,e,h⟩=>mQ d u h
 | .fn _ p q,_,_=>trivial
 | .sh z xs,_,⟨A,c,e,h1,h2,h3⟩=>⟨h2,by
  cases hxs:xs with
  | nil=>exact trivial
  | cons x r=>
   obtain ⟨b,o,_,_,hc⟩:=h3 (by rw[hxs];simp);rw[<-hxs];exact D.repC_bd z b xs o hc⟩
 | .el x _,_,⟨b,p,u,e,h1,h2,h3,h4⟩=>mQ x u h2
 | .shr _ _ _,_,_=>trivial
 | .any,_,_=>trivial
theorem D.repL_bd:∀ (ds:List D) (vs:List Value),D.repL w F ds vs->D.bdL ds
 | [],_,_=>trivial
 | d::r,_,⟨u,us,e,h1,h2,h3⟩=>⟨mQ d u h2,D.repL_bd r us h3⟩
theorem D.repA_bd:∀ (ds:List D) (vs:List Value),D.repA w F ds vs->D.bdL ds
 | [],_,_=>trivial
 | d::r,_,⟨u,us,e,h2,h3⟩=>⟨mQ d u h2,D.repA_bd r us h3⟩
theorem D.repC_bd (z b:Nat):∀ (xs:List D) (o:Nat),D.repC w F z b xs o->D.bdL xs
 | [],_,_=>trivial
 | x::r,o,⟨⟨u,h1,h2,h3,h4⟩,h5⟩=>⟨mQ x u h1,D.repC_bd z b r (o+z) h5⟩
end
end
theorem zA {α:Type} {f:α->D} {l:List α} {z:Nat} (h:D.bd (.sh z (l.map f))):l.length<=9223372036854775807:=by have:=h.1;simpa using this
end
abbrev dI (n:Int):D:=.v (.int .i64 n)
abbrev dB (b:Bool):D:=.v (.bool b)
abbrev isR (d:D):D->List Hp->Prop:=λr H=>r=d/\H=[]
abbrev zcc (z:Nat) (T:TypeId) (xs:List D):D->List Hp->Prop:=λr H=>∃ v,r=.ov v/\H=[.sl v z T xs]
abbrev D.ls {α:Type} (z:Nat) (f:α->D) (l:List α):D:=.sh z (l.map f)
theorem sk {K:Kd} {t:Nat} {d:D} (h:zI K t=some d):∃ d',zI K t=some d'/\Cv d' d:=⟨d,h,mA⟩
theorem sc {K:Kd} {t:Nat} {d d':D} (h:zI K t=some d) (c:Cv d d'):∃ d,zI K t=some d/\Cv d d':=⟨d,h,c⟩
section
variable {P:Program} {K:Kd} {H:List Hp} {N:Nat} {C:Ctx}
theorem zbZ {H:List Hp} {i:Nat} {h:Hp} (e:nth H i=some h):H.Perm (h::(H.take i++H.drop (i+1))):=by
 rw[zat] at e;obtain ⟨hl,e⟩:=cZ.1 e;have:H=H.take i++h::H.drop (i+1):=by rw[<-e,wF,dQ]
 conv=>lhs;rw[this]
 exact wK
theorem CvL.repE {w:World} {F:Nat->Prop} {z:Nat} {ds ds':List D} (h:CvL ds ds'):∀ {vs:List Value},RepE w F z ds vs->RepE w F z ds' vs:=by
 induction h with
 | nil=>exact λh=>h
 | cons hd _ ih=>rintro _ ⟨u,us,rfl,h2,h3,h4,h5⟩;exact⟨u,us,rfl,hd.out _ _ _ h2,h3,h4,ih h5⟩
theorem CvL.repC {w:World} {F:Nat->Prop} {z b:Nat} {ds ds':List D} (h:CvL ds ds'):∀ {o:Nat},D.repC w F z b ds o->D.repC w F z b ds' o:=by
 induction h with
 | nil=>exact λh=>h
 | cons hd _ ih=>rintro o ⟨⟨u,h1,h2⟩,h3⟩;exact⟨⟨u,hd.out _ _ _ h1,h2⟩,ih h3⟩
theorem CvL.len {ds ds':List D} (h:CvL ds ds'):ds'.length=ds.length:=by
 induction h with
 | nil=>rfl
 | cons _ _ ih=>simp[ih]
theorem mR {v:Value} {z:Nat} {T:TypeId} {xs xs':List D} (h:CvL xs xs'):∀ w F,(Hp.sl v z T xs).ok w F->(Hp.sl v z T xs').ok w F:=λ_ _ ⟨us,h1,h2⟩=>⟨us,h.repE h1,h2⟩
theorem mS {z:Nat} {xs xs':List D} (h:CvL xs xs'):Cv (.sh z xs) (.sh z xs'):=⟨λw F u ⟨A,c,h1,h2,h3,h4⟩=>⟨A,c,by rw[h.len];exact h1,by rw[h.len];exact h2,by rw[h.len];exact h3,λhn=>by
 obtain ⟨b,o,h5,h6,h7⟩:=h4 (by rintro rfl;cases h;exact hn rfl);exact⟨b,o,h5,h6,h.repC h7⟩⟩⟩
theorem zbQ (s:ByteArray) (k:Nat) (h:k<s.size):∃ u:UInt8,s[k]?=some u:=⟨s[k],by simp[h]⟩
theorem HSub.none {H:List Hp}:HSub H []:=mE (List.nil_sublist _)
theorem mT {H:List Hp} (n:Nat) {H':List Hp} (e:H.take n=H'):HSub H H':=e ▸ mE (List.take_sublist n H)
theorem mU {H:List Hp} (n:Nat) {H':List Hp} (e:H.drop n=H'):HSub H H':=e ▸ mE (List.drop_sublist n H)
theorem zau {H:List Hp} {i:Nat} {h:Hp} (e:nth H i=some h):[h].Sublist H:=List.singleton_sublist.2 (zR e)
theorem zcW {H:List Hp}:∀ h∈([]:List Hp),h∈H:=λ_ h=>by cases h
theorem flatL_map {α:Type} {f:α->D} (h:∀ x,(f x).flat=true):∀ l:List α,D.flat.flatL (l.map f)=true
 | []=>rfl
 | x::r=>by simp[D.flat.flatL,h x,flatL_map h r]
theorem isOwn_flat {z:Nat} {T:TypeId} {xs:List D} (h:D.flat.flatL xs=true):∀ d H',zcc z T xs d H'->d.flat=true/\∀ h∈H',h.flat=true:=λ_ _ ⟨v,h1,h2⟩=>by
 subst h1;subst h2;exact⟨rfl,λx hx=>by rw[dW.1 hx];exact h⟩
theorem z8 {e:D}:∀ d' H',isR e d' H'->ArgC H' d' e:=λ_ _ ⟨h1,h2⟩=>by subst h1;subst h2;exact mO
theorem zbb {z:Nat} {T:TypeId} {xs:List D}:∀ d' H',zcc z T xs d' H'->ArgC H' d' (.sh z xs):=λ_ _ ⟨v,h1,h2⟩=>by subst h1;subst h2;exact mP (j:=0) rfl rfl
variable {ty:TypeId} {α:Type} {f:α->D}
theorem zy {t:TypeId} {x y:Operand} {z bytes i:Nat} {v zv:Value} {T:TypeId} {l l':List α} {d:D} (hx:opO K x=some v) (hm:nth H i=some (.sl v z T (l.map f))) (hy:opD K y=some d) (hsrc:SrcD H z d (l'.map f)) (ht:P.underlying t=some (.slice T))
 (hi':∃ i,P.info? T=some i/\i.zero=some zv/\i.size=z/\i.bytes=bytes) (hzs:zv.cells.size=z) (hsz:Nat.blt 0 z=true) (hlen:l.length+l'.length<=maxLen) (hbytes:(l.length+l'.length)*bytes<=140737488355328):
 Ef P (.call { callee:=.builtin .append,args:=#[x,y],argTypes:=#[t,t] }) ty K H (λd H'=>∃ v',d=.ov v'/\H'=H.set i (.sl v' z T ((l++l').map f))):=by
 have:=ef_append (ty:=ty) hx hm hy hsrc ht hi' hzs hsz (by simpa using hlen) (by simpa using hbytes);rw[<-uN] at this;exact this
theorem zbD {t:TypeId} {x y:Operand} {z bytes:Nat} {zv:Value} {T:TypeId} {l':List α} {d:D} (hx:opD K x=some (.v (.slice none 0 0))) (hy:opD K y=some d) (hsrc:SrcD (.sl (.slice none 0 0) z T []::H) z d (l'.map f)) (ht:P.underlying t=some (.slice T))
 (hi':∃ i,P.info? T=some i/\i.zero=some zv/\i.size=z/\i.bytes=bytes) (hzs:zv.cells.size=z) (hsz:Nat.blt 0 z=true) (hlen:l'.length<=maxLen) (hbytes:l'.length*bytes<=140737488355328):
 Ef P (.call { callee:=.builtin .append,args:=#[x,y],argTypes:=#[t,t] }) ty K H (λd H'=>∃ v',d=.ov v'/\H'=.sl v' z T (l'.map f)::H):=by
 have:=ef_append (ty:=ty) (i:=0) (xs:=[]) (by unfold opO;rw[hx];rfl) rfl hy hsrc ht hi' hzs hsz (by simpa using hlen) (by simpa using hbytes);exact Ef.preH (HSub.nil z T) (by simpa using this)
theorem zW {t:TypeId} {x y:Operand} {v:Value} {z k o n i:Nat} {T:TypeId} {l:List α} {a a':α} {d:D} (hx:opD K x=some (.v (.pointer (some ⟨bl v,k*z+o,none⟩)))) (hm:nth H i=some (.sl v z T (l.map f))) (ha:l[k]?=some a) (hy:opD K y=some d) (hc:CellD H d)
 (hs:∀ w,(Go.sizeOf t).run P w=.ok n w) (hn:Nat.beq d.cells.length n=true) (ho:Nat.ble (o+n) (f a).cells.length=true) (hX:splD (f a) o d=some (f a')):Ef P (.store t x y) ty K H (λr H'=>r=.v undef/\H'=H.set i (.sl v z T ((l.set k a').map f))):=by
 have:=ef_store_sl (ty:=ty) hx hm (ze ha) hy hc hs hn ho hX;rw[<-List.map_set] at this;exact this
theorem ef_isNil {t t':TypeId} {x:Operand} {z:Nat} {xs:List D} (hx:opD K x=some (.sh z xs)) (hr:∀ A n c w,(do eqGuard .eql t x (.const (.slice none 0 0)) (.slice A n c) (.slice none 0 0);binOp .eql t (.slice A n c) (.slice none 0 0):Sem Value).run P w=.ok (.bool A.isNone) w):
 Ef P (.binOp .eql t x (.const (.slice none 0 0)) t') ty K H (λd H'=>∃ b,d=.v (.bool b)/\H'=H/\(b=true->xs=[])):=
 ⟨λC ρ w F hk gd=>by
  obtain ⟨A,c,h,h1,h2,h3⟩:=hk.op hx;refine zbS (zp ρ [x]) (opv1 ρ h) rfl (λw=>hr A xs.length c w) ⟨F,_,_,⟨A.isNone,rfl,rfl,λhn=>?_⟩,rfl,gd,wY⟩;rcases uK xs.length with h0 | h0
  · exact dJ h0
  obtain ⟨b,o,e,_⟩:=h3 (by intro e;rw[e] at h0;simp at h0);rw[e] at hn;cases hn⟩
end
theorem zda {α β:Type} {r:Result α} {k:α->World->Result β} {v:β} {w':World} (h:r.andThen k=.ok v w'):∃ a w1,r=.ok a w1/\k a w1=.ok v w':=by
 cases r with
 | ok a w1=>exact⟨a,w1,rfl,h⟩
 | halt x w1=>cases h
theorem load_same {P:Program} {a:Addr} {m:Mode} {w w1:World} {v:Value} (h:(load a m).run P w=.ok v w1):w1=w:=by
 rw[run_load] at h;split at h
 · cases h;rfl
 split at h
 · cases h;rfl
 cases h
theorem loadFrom_same {P:Program} {a:Addr}:∀ (n i:Nat) (acc r:Array Value) (w w1:World),(loadCellsFrom a i n acc).run P w=.ok r w1->w1=w
 | 0,i,acc,r,w,w1,h=>by simp[loadCellsFrom] at h;exact h.2.symm
 | n+1,i,acc,r,w,w1,h=>by
  unfold loadCellsFrom at h;rw[Sem.run_bind] at h;obtain ⟨x,w2,h1,h2⟩:=zda h;have:=load_same h1;subst this;exact loadFrom_same n _ _ _ _ _ h2
theorem firstCells_same {P:Program} {z n:Nat} {A:Option Addr} {k c:Nat} {r:Array Value} {w w1:World} (h:(Builtin.firstCells z n (.slice A k c)).run P w=.ok r w1):w1=w:=by
 cases A with
 | none=>simp[Builtin.firstCells] at h;exact h.2.symm
 | some a=>exact loadFrom_same _ _ _ _ _ _ h
theorem zero_same {P:Program} {E:TypeId} {r:Value} {w w1:World} (h:(zeroValue E).run P w=.ok r w1):w1=w:=by
 simp only[zeroValue,Sem.run_bind,typeInfo,run_program,Result.andThen_ok] at h;cases hi:P.info? E with
 | none=>simp[hi] at h
 | some i=>
  simp only[hi,Sem.run_pure,Result.andThen_ok] at h;cases hz:i.zero with
  | none=>simp[hz] at h
  | some z=>simp[hz] at h;exact h.2.symm
theorem newRow_ext {P:Program} {E:TypeId} {c:Array Value} {a:Addr} {w w1:World} (h:(newRow E c).run P w=.ok a w1):Ext w w1:=by
 simp[newRow] at h;obtain ⟨_,rfl⟩:=h;exact Ext.alloc _ _
theorem pair_len {w:World} {F:Nat->Prop} {z:Nat} {T:TypeId} {v:Value} {us:List Value} (h:Own vcs z T w 0 v us):us.length<=maxLen:=by
 rcases h.1.2 with ⟨_,h0⟩ | ⟨g,cap,cur,_,_,_,h3,h4,_⟩
 · rw[h0];exact c7 _
 omega
theorem mV {L:List Hp} {j g o:Nat} {T:TypeId} {X X':D} (hm:nth L j=some (.bx g T X)) (hX:ArgC L X X'):ArgC L (.v (.pointer (some ⟨g,o,none⟩))) (.el X' o):=⟨λw F u hF hL hr=>by
 obtain ⟨u',h1,h2,h3⟩:=bx_at (hL _ (zR hm));have:u=_:=hr;subst this;exact⟨g,0,u',by rw[d6],.inr ⟨_,zR hm,rfl⟩,hX.out _ _ _ hF hL h1,h2,h3⟩⟩
abbrev FA (w:World):Nat->Prop:=λb=>b<w.heap.size
section
variable {H:Type} {enc:TypeId×Value->H} {P:Program} {w:World} {held:Bool} {sp:Nat->Bool}
def InD (w:World) (z:Nat) (d:D) (cs:List Value):Prop:=∃ u,cs=vcs u/\D.rep w (FA w) d u/\One u/\cs.length=z
theorem open_slD {α:Type} [Inhabited α] (f:α->D) {z:Nat} {t e:TypeId} {fuel:Nat} {vs:List Value} {x:DataW H×List MemPlace} (ht:P.underlying t=some (.slice e)) (hz:P.cellsOf e=z) (hz0:0<z)
 (h:DataW.trod enc P w 0 sp held fuel t vs=some x)
 (el:∀ n cs' y,DataW.trod enc P w 0 sp held n e cs'=some y->∃ d:α,InD w z (f d) cs'):
 ∃ (v:Value) (xs:List α),vs=[v]/\D.rep w (FA w) (.sh z (xs.map f)) v:=by
 haveI:Inhabited (α×Value):=⟨(default,undef)⟩
 obtain ⟨v,xs,h1,h2,h3,h4⟩:=open_sl (α:=α×Value) (cs:=λp=>vcs p.2) (z:=z) (λp=>D.rep w (FA w) (f p.1) p.2/\One p.2/\(vcs p.2).length=z) ht hz hz0 h (λn cs' y hy=>by
  obtain ⟨d,u,e1,e2,e3,e4⟩:=el n cs' y hy;exact⟨(d,u),e1,by rw[<-e1];exact e4,e2,e3,by rw[<-e1];exact e4⟩)
 refine⟨v,xs.map (·.1),h1,?_⟩;have hE:∀ ys:List (α×Value),(∀ p∈ys,D.rep w (FA w) (f p.1) p.2/\One p.2/\(vcs p.2).length=z)->RepE w (FA w) z ((ys.map (·.1)).map f) (ys.map (·.2)):=by
  intro ys
  induction ys with
  | nil=>intro _;exact rfl
  | cons p r ih=>
   intro hp;have h0:=hp p c6;exact⟨p.2,r.map (·.2),rfl,h0.1,h0.2.1,by simpa [vcs] using h0.2.2,ih (λq hq=>hp q (dC _ hq))⟩
 have hsl:SlT vcs z w 0 w.heap.size v (xs.map (·.2)):=by
  show Sl w 0 w.heap.size z v ((xs.map (·.2)).map vcs);rw[List.map_map];exact h2
 refine w9 (hE xs h3) hsl (λhn g hg=>?_) (by simpa using h4);obtain ⟨A,c,e1,e2,e3,e4,e5⟩:=hsl;obtain ⟨b,o,e6,_,e7,_⟩:=e4 (by simpa using hn);rw[e1,e6] at hg;cases hg;exact e7
theorem InD.one {d:D} {v:Value} (h:D.rep w (FA w) d v) (h1:v.oneCell'=true):InD w 1 d [v]:=⟨v,(vcs_one h1).symm,h,One.one h1,rfl⟩
end
end Lp
