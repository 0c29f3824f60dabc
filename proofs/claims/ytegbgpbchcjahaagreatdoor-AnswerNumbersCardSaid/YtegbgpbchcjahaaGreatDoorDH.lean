import Derived.Lib.AppendStr
import Derived.Lib.UnsafeStr
import Derived.Test.YtegbgpbchcjahaaGreatDoorDE
set_option linter.all false
namespace Lp
open Go Go.RowKit
def FN (F:Nat->Prop) (w w':World) (b:Nat):Prop:=F b\/(w.heap.size<=b/\b<w'.heap.size)
structure Qu (P:Program) (op:Op) (ty:TypeId) (K:Kd) (H:List Hp) (d:D):Prop where
 out:∀ ρ w F,KOk w F ρ K->(∀ b,F b->b<w.heap.size)->(∀ h∈H,h.ok w F)->EOp P op ty ρ w (λu w'=>Ext w w'/\D.rep w' (FN F w w') d u)
section
variable {P:Program} {ty:TypeId} {K:Kd} {H:List Hp} {op:Op}
def Pu.qu {d:D} (h:Pu P op ty K H d):Qu P op ty K H d:=
 ⟨λρ w F hk hF hH=>(h.out ρ w F hk hF hH).mono λ_ _ ⟨e,hr⟩=>by subst e;exact⟨Ext.rfl',D.keep ⟨λ_ h=>.inl h,λ_ _ _=>rfl⟩ _ _ hr⟩⟩
def Good.fn {C:Ctx} {H:List Hp} {w w':World} {F:Nat->Prop} (g:Good C H w F) (E:Ext w w'):Good C H w' (FN F w w')/\Keep w F w' (FN F w w'):=by
 have g':=g.ext E;refine⟨{ g' with fsub:=λb h=>.inl (g.fsub b h),fnew:=?_,flt:=?_,h:=⟨g.h.apart,λh hh=>Hp.keep (g'.h.ok h hh) ⟨λ_ h=>.inl h,λ_ _ _=>rfl⟩ (λ_ _=>rfl),λb hb=>⟨(g.h.mine b hb).1,?_⟩⟩ },⟨λ_ h=>.inl h,λb _ hb=>E.block b hb (.inr (cT _))⟩⟩
 · rintro b (h | ⟨h,_⟩)
   · exact g.fnew b h
   exact .inr (.inl (jM g.size h))
 · rintro b (h | ⟨_,h⟩)
   · exact uF (g.flt b h) E.size
   exact h
 rintro (h | ⟨h,_⟩)
 · exact(g.h.mine b hb).2 h
 have:=zf1 g.h hb;omega
def aDz {f:FuncId} {ds0 ds:List D} {R:D->List Hp->Prop} {w:World} {F:Nat->Prop} {vs:List Value} {d:D} (hcall:CD P f [] ds R) (hF:∀ b,F b->b<w.heap.size) (hr:D.repA w F ds0 vs) (ha:CvL ds0 ds) (hd:∀ d' H',R d' H'->ArgC H' d' d):
 Calls P f vs.toArray w (Ret λu w'=>Ext w w'/\D.rep w' (FN F w w') d u):=by
 refine(hcall.out w F vs (ha.repA hr) hF ⟨.nil,λ_ h=>by (cases h),λ_ ⟨_,h,_⟩=>by cases h⟩).mono ?_;rintro e w' ⟨u,rfl,F',d',H',hR,hrep,g⟩;have hno:∀ b,¬blks [] b:=λ_ ⟨_,h,_⟩=>by cases h
 refine⟨u,rfl,⟨g.os,g.tape,g.output,g.size,λb hb _=>g.frame b hb (hno b),g.drawn⟩,?_⟩;refine D.keep ⟨?_,λ_ _ _=>rfl⟩ _ _ ((hd d' H' hR).out w' F' u g.flt g.h.ok hrep);rintro b (h | h)
 · rcases g.fnew b h with h1 | h1 | h1
   · exact .inl h1
   · exact .inr ⟨h1,g.flt b h⟩
   exact aH h1 (hno b)
 rcases (g.h.mine b h).1 with h1 | h1
 · exact .inr ⟨h1,zf1 g.h h⟩
 exact aH h1 (hno b)
def zal {f:FuncId} {args:Array Operand} {ats:Array TypeId} {ds0 ds:List D} {R:D->List Hp->Prop} {d:D} (hargs:opsD K args.toList=some ds0) (ha:CvL ds0 ds)
 (hc:∀ args w,(callFunc f args).run P w=.ok (.enter f args) w) (hcall:CD P f [] ds R) (hd:∀ d' H',R d' H'->ArgC H' d' d):Qu P (.call { callee:=.value (.func f),args:=args,argTypes:=ats }) ty K H d:=
 ⟨λρ w F hk hF _=>aO2 (zo ρ args.toList) (zeC ρ args.toList args.toList (λ_ h=>h)) hc (aDz hcall hF (zdm hk hargs) ha hd) (λ_ _ h=>h)⟩
def HOk.empty {w:World} {F A:Nat->Prop}:HOk w F A []:=⟨.nil,λ_ h=>by (cases h),λ_ ⟨_,h,_⟩=>by cases h⟩
def aLd {H0:List Hp} {R:D->List Hp->Prop} {d:D} (h:Ef P op ty K [] R) (hd:∀ d' H',R d' H'->ArgC H' d' d):Qu P op ty K H0 d:=
 ⟨λρ w F hk hF _=>by
  have g0:Good ⟨w,blks [],F⟩ [] w F:=mE hF HOk.empty;refine(h.out _ ρ w F hk g0).mono ?_;rintro u w' ⟨F',d',H',hR,hrep,g,k⟩;have hno:∀ b,¬blks [] b:=λ_ ⟨_,h,_⟩=>by cases h
  refine⟨⟨g.os,g.tape,g.output,g.size,λb hb _=>g.frame b hb (hno b),g.drawn⟩,?_⟩;refine D.keep ⟨?_,λ_ _ _=>rfl⟩ _ _ ((hd d' H' hR).out w' F' u g.flt g.h.ok hrep);rintro b (h | h)
  · rcases g.fnew b h with h1 | h1 | h1
    · exact .inl h1
    · exact .inr ⟨h1,g.flt b h⟩
    exact aH h1 (hno b)
  rcases (g.h.mine b h).1 with h1 | h1
  · exact .inr ⟨h1,zf1 g.h h⟩
  exact aH h1 (hno b)⟩
def zp {t e len z:Nat} {ps:Array (Nat×Operand)} {zv:Value} (xs:List Operand) {ds:List D} (hp:ps.toList=(xs.zipIdx 0).map λx=>(x.2,x.1)) (hx:opsD K xs=some ds) (hc:CellDs [] ds) (hal:zgB z ds=true)
 (ht:∀ w,(underlying t).run P w=.ok (.slice e) w) (hs:∀ w,(Go.sizeOf e).run P w=.ok z w) (hzv:∀ w,(zeroValue e).run P w=.ok zv w) (hlen:Nat.beq ds.length len=true) (hz:Nat.blt 0 z=true) (hsm:Nat.ble (len*z) 1000=true) (hl0:Nat.blt 0 len=true):
 Qu P (.buildSlice t len ps) ty K H (.sh z ds):=
 aLd (zw xs hp hx hc hal ht hs hzv hlen hz hsm hl0) λ_ _ ⟨g,e1,e2⟩=>by subst e1;subst e2;exact mK (j:=0) rfl rfl
def Ef.preH {R:D->List Hp->Prop} {H':List Hp} (s:HSub H H') (h:Ef P op ty K H' R):Ef P op ty K H R:=⟨λC ρ w F hk g=>h.out C ρ w F hk (s.out _ _ _ g)⟩
def Qu.cv {d d':D} (h:Qu P op ty K H d) (c:Cv d d'):Qu P op ty K H d':=
 ⟨λρ w F hk hF hH=>(h.out ρ w F hk hF hH).mono λ_ _ ⟨e,hr⟩=>⟨e,c.out _ _ _ hr⟩⟩
end
abbrev En:=Tmp×D×Option (List Hp)
def hof (H0:List Hp):List En->Nat->List Hp
 | _,0=>H0
 | [],_=>H0
 | (_,_,e)::r,k+1=>hof (e.getD H0) r k
def isEf (ens:List En) (k:Nat):Bool:=match nth ens k with
 | some (_,_,some _)=>true
 | _=>false
def zes (ens:List En):Nat->Option Nat
 | 0=>none
 | k+1=>bif isEf ens k then some k else zes ens k
def kpre (ens:List En) (K:Kd):List Nat->Kd
 | []=>K
 | j::r=>match nth ens j with
  | some (t,d,_)=>(t,d)::kpre ens K r
  | none=>kpre ens K r
def zgf (ops:List Oper) (ens:List En):Bool:=(List.range ens.length).all λk=>!isEf ens k||match zes ens k with
 | some l=>has (zM ops k) l
 | none=>true
def enK (ens:List En) (K:Kd):Kd:=ens.foldl (λK e=>(e.1,e.2.1)::K) K
def aSv (P:Program) (op:Op) (ty:TypeId) (K:Kd) (Hs Hk:List Hp) (d:D):Option (List Hp)->Prop
 | none=>Qu P op ty K Hs d
 | some H'=>Ef P op ty K Hk (λd' H''=>d'=d/\H''=H')/\HSub H' Hs
structure StepA (P:Program) (N:Nat) (ops:List Oper) (K:Kd) (Hs H0:List Hp) (ens:List En) (k:Nat):Prop where
 out:∃ t d e op ty g,nth ens k=some (t,d,e)/\opAt ops k=some (some t,op,ty,g)/\
  match g with
  | none=>aSv P op ty (kpre ens K (zM ops k)) Hs (hof H0 ens k) d e
  | some (j,want)=>∃ s u,zW ops j=some s/\Nat.blt s N=true/\zI (kpre ens K (zM ops k)) s=some (.v u)/\(nb u=some want->aSv P op ty (kpre ens K (zM ops k)) Hs (hof H0 ens k) d e)/\(nb u≠some want->d=.v undef/\e=none)
section
variable {P:Program} {N:Nat} {ops:List Oper} {K:Kd} {Hs H0:List Hp} {ens:List En} {k:Nat}
def sa_q {t:Tmp} {d:D} {op:Op} {ty:TypeId} (he:nth ens k=some (t,d,none)) (ho:opAt ops k=some (some t,op,ty,none)) {pre:List Nat} (hp:zM ops k=pre) (h:Qu P op ty (kpre ens K pre) Hs d):StepA P N ops K Hs H0 ens k:=
 ⟨t,d,none,op,ty,none,he,ho,by subst hp;exact h⟩
def sa_p {t:Tmp} {d:D} {op:Op} {ty:TypeId} (he:nth ens k=some (t,d,none)) (ho:opAt ops k=some (some t,op,ty,none)) {pre:List Nat} (hp:zM ops k=pre) (h:Pu P op ty (kpre ens K pre) Hs d):StepA P N ops K Hs H0 ens k:=
 sa_q he ho hp h.qu
def sa_e {t:Tmp} {d:D} {op:Op} {ty:TypeId} {H' Hk:List Hp} (he:nth ens k=some (t,d,some H')) (ho:opAt ops k=some (some t,op,ty,none)) {pre:List Nat} (hp:zM ops k=pre) (hH:hof H0 ens k=Hk) (h:Ef P op ty (kpre ens K pre) Hk (λd' H''=>d'=d/\H''=H')) (hs:HSub H' Hs):StepA P N ops K Hs H0 ens k:=
 ⟨t,d,some H',op,ty,none,he,ho,by subst hp;subst hH;exact⟨h,hs⟩⟩
def zn {t:Tmp} {d:D} {op:Op} {ty:TypeId} {j:Nat} {want:Bool} {s:Tmp} (he:nth ens k=some (t,d,none)) (ho:opAt ops k=some (some t,op,ty,some (j,want))) {pre:List Nat} (hp:zM ops k=pre) (hj:zW ops j=some s) (hs:Nat.blt s N=true) (hb:zI (kpre ens K pre) s=some (.v (.bool want))) (h:Qu P op ty (kpre ens K pre) Hs d):StepA P N ops K Hs H0 ens k:=
 ⟨t,d,none,op,ty,some (j,want),he,ho,s,.bool want,hj,hs,by subst hp;exact hb,λ_=>by subst hp;exact h,λhne=>aH rfl hne⟩
def sa_s {t:Tmp} {op:Op} {ty:TypeId} {j:Nat} {want:Bool} {s:Tmp} {u:Value} (he:nth ens k=some (t,.v undef,none)) (ho:opAt ops k=some (some t,op,ty,some (j,want))) {pre:List Nat} (hp:zM ops k=pre) (hj:zW ops j=some s) (hs:Nat.blt s N=true) (hb:zI (kpre ens K pre) s=some (.v u)) (hu:nb u≠some want):StepA P N ops K Hs H0 ens k:=
 ⟨t,.v undef,none,op,ty,some (j,want),he,ho,s,u,hj,hs,by subst hp;exact hb,λh=>aH h hu,λ_=>⟨rfl,rfl⟩⟩
def zfO (P:Program) (N:Nat) (ops:List Oper) (K:Kd) (Hs H0:List Hp) (ens:List En):Nat->Nat->Prop
 | _,0=>True
 | k,todo+1=>StepA P N ops K Hs H0 ens k/\zfO P N ops K Hs H0 ens (k+1) todo
def zfO.get:∀ (todo k:Nat),zfO P N ops K Hs H0 ens k todo->∀ i,k<=i->i<k+todo->StepA P N ops K Hs H0 ens i
 | 0,k,_,i,h1,h2=>by omega
 | todo+1,k,⟨h,hr⟩,i,h1,h2=>by
  rcases cZ k i with h3 | h3
  · exact zfO.get todo (k+1) hr i h3 (by omega)
  have:i=k:=by omega
  subst this;exact h
def pB:∀ (ens:List En) (H0:List Hp) (k:Nat),isEf ens k=false->hof H0 ens (k+1)=hof H0 ens k
 | [],H0,k,_=>by cases k<;>rfl
 | (t,d,e)::r,H0,0,h=>by
  cases e with
  | none=>show hof (none.getD H0) r 0=H0;cases r<;>rfl
  | some x=>simp[isEf,nth] at h
 | (t,d,e)::r,H0,k+1,h=>pB r (e.getD H0) k (by simpa [isEf,nth] using h)
def zd1:∀ (ens:List En) (H0:List Hp) (k:Nat) (t:Tmp) (d:D) (H':List Hp),nth ens k=some (t,d,some H')->hof H0 ens (k+1)=H'
 | [],_,k,_,_,_,h=>by simp[nth] at h
 | (t,d,e)::r,H0,0,t',d',H',h=>by
  simp[nth] at h;obtain ⟨rfl,rfl,rfl⟩:=h;show hof H' r 0=H';cases r<;>rfl
 | (t,d,e)::r,H0,k+1,t',d',H',h=>zd1 r (e.getD H0) k t' d' H' (by simpa [nth] using h)
def zd2 (p:Nat):∀ k,p<=k->(∀ i,p<=i->i<k->isEf ens i=false)->hof H0 ens k=hof H0 ens p
 | 0,h,_=>by rw[show p=0 by omega]
 | k+1,h,hn=>by
  rcases cZ p (k+1) with h1 | h1
  · rw[pB ens H0 k (hn k (by omega) (by omega))];exact zd2 p k (by omega) (λi a b=>hn i a (by omega))
  rw[show p=k+1 by omega]
def eX:∀ (k i:Nat),i<k->isEf ens i=true->∃ l,zes ens k=some l/\i<=l/\l<k/\isEf ens l=true
 | 0,i,h,_=>by omega
 | k+1,i,h,he=>by
  unfold zes;cases hk:isEf ens k with
  | true=>exact⟨k,rfl,by omega,by omega,hk⟩
  | false=>
   have:i<k:=by
    rcases cZ i k with h1 | h1
    · exact h1
    rw[show i=k by omega] at he;rw[he] at hk;cases hk
   obtain ⟨l,h1,h2,h3,h4⟩:=eX k i this he;exact⟨l,h1,h2,by omega,h4⟩
def zfT {w:World} {F:Nat->Prop} {ρ:Env} (hk:KOk w F ρ K):∀ (pre:List Nat),(∀ j∈pre,∀ t d e,nth ens j=some (t,d,e)->D.rep w F d (ρ t))->KOk w F ρ (kpre ens K pre)
 | [],_=>hk
 | j::r,h=>by
  have ih:=zfT hk r (λx hx=>h x (cV _ hx));unfold kpre;cases hj:nth ens j with
  | none=>exact ih
  | some e=>
   obtain ⟨t,d,x⟩:=e;intro s u hu;simp only[zI] at hu;by_cases e:s=t
   · subst e;rw[show Nat.beq s s=true from jT s] at hu;simp only[cond_true,cX] at hu;subst hu;exact h j cR s _ x hj
   rw[zbx e] at hu;simp only[cond_false] at hu;exact ih s u hu
def zgx {w:World} {F:Nat->Prop} {ρ:Env}:∀ (ens:List En) (K:Kd),KOk w F ρ K->(∀ j:Nat,∀ t d e,nth ens j=some (t,d,e)->D.rep w F d (ρ t))->KOk w F ρ (enK ens K)
 | [],K,hk,_=>hk
 | (t,d,x)::r,K,hk,h=>by
  refine zgx r ((t,d)::K) ?_ (λj t' d' e hj=>h (j+1) t' d' e (by simpa [nth] using hj));intro s u hu;simp only[zI] at hu;by_cases e:s=t
  · subst e;rw[show Nat.beq s s=true from jT s] at hu;simp only[cond_true,cX] at hu;subst hu;exact h 0 s _ x (by simp[nth])
  rw[zbx e] at hu;simp only[cond_false] at hu;exact hk s u hu
def fH {K:Kd} {t:Nat} (h:(keys (K.map λx=>(x.1,Value.nilFunc))).contains t=false):zI K t=none:=by
 induction K with
 | nil=>rfl
 | cons x r ih=>
  obtain ⟨d,v⟩:=x;simp only[keys,jS,List.contains_cons,jE] at h;have hne:¬t=d:=by intro e;rw[e] at h;simp at h
  simp only[zI,zbx hne,cond_false];exact ih h.2
def KOk.other {w:World} {F:Nat->Prop} {ρ:Env} {K:Kd} (hk:KOk w F ρ K) {t:Nat} {v:Value} (ht:zI K t=none):KOk w F (Lp.upd ρ (some t) v) K:=by
 intro s u hu;have:s≠t:=by rintro rfl;rw[ht] at hu;cases hu
 simpa [Lp.upd,this] using hk s u hu
def iF (H0:List Hp) (ens:List En):hof H0 ens 0=H0:=by cases ens<;>rfl
def aRh {C:Ctx} {c:Code} {H:List Hp} {Q:zbB} (n:Nat) (ens:List En) (Hs:List Hp) {Hn:List Hp} (hm:P.follows .mixedOrders=true) (hc:zcU c=some true) (hlen:Nat.beq ens.length n=true) (hB:aQ4 (zaL c) n N (K.map λx=>(x.1,Value.nilFunc))=true) (hch:zgf (zaL c) ens=true) (hs0:HSub H Hs) (hHn:hof H ens n=Hn)
 (hsteps:zfO P N (zaL c) K Hs H ens 0 n) (next:OpsD P N C (zaL c) n (enK ens K) Hn (λρ w F=>Q .normal ρ w F)):JD P N C c K H Q:=by
 cases c<;>simp[zcU] at hc
 rename_i id opsA draw;subst hc;subst hHn;simp only[zaL] at hB hsteps hch next
 generalize hops:opsA.toList=ops at hB hsteps hch next
 have hA:opsA=ops.toArray:=by rw[<-hops]
 subst hA;have hlen:=dM hlen;unfold aQ4 at hB;simp only[cU] at hB;obtain ⟨⟨hback,htail⟩,hfresh⟩:=hB;unfold aOx at hfresh;simp only[cU] at hfresh;obtain ⟨hnl,hfr⟩:=hfresh;have hnl:=dE hnl;rw[c8] at hfr;have hpre:∀ k,k<ops.length->∀ j∈zM ops k,j<k:=by
  intro k hk j hj;unfold zfF at hback;rw[c8] at hback;have:=hback k (dO.2 hk);rw[c8] at this;exact zaE.1 (this j hj)
 have hstep:∀ i,i<n->StepA P N ops K Hs H ens i:=λi hi=>zfO.get n 0 hsteps i (cT _) (by omega)
 have hd:∀ i t d e,i<n->nth ens i=some (t,d,e)->zW ops i=some t/\Nat.blt t N=true/\zI K t=none/\∀ j,j<i->zW ops j≠some t:=by
  intro i t d e hi hn;obtain ⟨t',d',e',op,ty,g,h1,h2,_⟩:=(hstep i hi).out;rw[hn] at h1;cases h1;have hdst:zW ops i=some t:=by
   obtain ⟨o,q1,q2,_⟩:=za0 h2;have:nth ops i=some o:=(by rw[zaH];simpa using q1);simp[zW,this,q2]
  have hf:=hfr i (dO.2 hi);rw[hdst] at hf;simp only[cU,uA] at hf;refine⟨hdst,hf.1.1,fH hf.1.2,λj hj=>?_⟩;have:=hf.2;rw[c8] at this;have:=this j (dO.2 hj);simpa using this
 have hne:∀ i j t d e t' d' e',i<n->j<n->i≠j->nth ens i=some (t,d,e)->nth ens j=some (t',d',e')->t≠t':=by
  intro i j t d e t' d' e' hi hj hij h1 h2 heq;obtain ⟨f1,_,_,f4⟩:=hd i t d e hi h1;obtain ⟨g1,_,_,g4⟩:=hd j t' d' e' hj h2;rcases vZ hij with hlt | hlt
  · exact g4 i hlt (by rw[f1,heq])
  exact f4 j hlt (by rw[g1,heq])
 have hen:∀ i,i<n->∃ t d e,nth ens i=some (t,d,e):=λi hi=>by
  obtain ⟨t,d,e,_,_,_,h1,_⟩:=(hstep i hi).out;exact⟨t,d,e,h1⟩
 have hchain:∀ k l,k<n->isEf ens k=true->zes ens k=some l->l∈zM ops k:=by
  intro k l hk he hl;unfold zgf at hch;rw[c8] at hch;have:=hch k (dO.2 (by omega));rw[he,hl] at this;exact xY (by simpa using this)
 have hsub:∀ k,k<=n->HSub (hof H ens k) Hs:=by
  intro k
  induction k with
  | zero=>intro _;rw[iF];exact hs0
  | succ k ih=>
   intro hk;cases he:isEf ens k with
   | false=>rw[pB ens H k he];exact ih (by omega)
   | true=>
    obtain ⟨t,d,e,op,ty,g,h1,h2,h3⟩:=(hstep k (by omega)).out;cases e with
    | none=>simp[isEf,h1] at he
    | some H'=>
     rw[zd1 ens H k t d H' h1];cases g with
     | none=>exact h3.2
     | some jw=>
      obtain ⟨j,want⟩:=jw;obtain ⟨s,u,_,_,_,h7,h8⟩:=h3;by_cases hb:nb u=some want
      · exact(h7 hb).2
      have:=(h8 hb).2;cases this
 refine⟨λa w F ok hk g=>?_⟩;apply wp_region_any hm;have final:∀ (a:Act) (w':World) (F':Nat->Prop) (p:Nat),Ok N a->KOk w' F' (zF a) K->p<=n->Good C (hof H ens p) w' F'->(∀ i,p<=i->i<n->isEf ens i=false)->(∀ i t d e,i<n->nth ens i=some (t,d,e)->D.rep w' F' d (zF a t))->
  wpOps P ops.toArray (λe a' w'=>Ok N a'/\∃ F',Q e (zF a') w' F') (List.range' n (ops.length-n)) a w':=by
  intro a w' F' p ok hk hp g hno hrep;rw[<-zd2 (H0:=H) p n hp hno] at g;have hK:=zgx ens K hk (λj t d e hj=>hrep j t d e (by rw[zaH] at hj;rw[<-hlen];exact(cQ.1 hj).1) hj);refine zaQ ?_ _ _ _ (next.out a w' F' ok hK g);rintro e a' w'' ⟨rfl,h1,h2⟩;exact⟨h1,h2⟩
 have key:∀ (fuel:Nat) (listed:Array Bool) (a:Act) (w':World) (F':Nat->Prop) (p:Nat),listed.size=ops.length->cnt ops.length listed<=fuel->Ok N a->KOk w' F' (zF a) K->p<=n->Good C (hof H ens p) w' F'->
  (∀ i,i<p->isEf ens i=true->listed.getD i true=true)->(∀ i,p<=i->i<n->isEf ens i=true->listed.getD i true=false)->
  (∀ i t d e,i<n->listed.getD i true=true->nth ens i=some (t,d,e)->D.rep w' F' d (zF a t))->(∀ i,i<n->listed.getD i true=true->∀ j∈zM ops i,listed.getD j true=true)->(∀ i,n<=i->i<ops.length->listed.getD i true=false)->
  wpAny P .any ops.toArray (λe a' w'=>Ok N a'/\∃ F',Q e (zF a') w' F') fuel listed a w':=by
  intro fuel
  induction fuel with
  | zero=>
   intro listed a w' F' p hs hcnt ok hk hp g hdone hnot hh hdn ht;have hall:∀ i,i<ops.length->listed.getD i true=true:=by
    intro i hi;cases hc:listed.getD i true with
    | true=>rfl
    | false=>have:=zeh hi hs hc;omega
   have hn:ops.length=n:=by
    rcases cZ n ops.length with h' | h'
    · have h1:=ht n (cW _) h';rw[hall n h'] at h1;cases h1
    omega
   refine zbT (n:=n) hback htail 0 n listed a w' (by omega) (cW _) hnl hs (λi hi=>by rw[hall i hi];simp;omega) ?_ 0 (by omega);refine final a w' F' p ok hk hp g (λi h1 h2=>?_) (λi t d e hi hn=>hh i t d e hi (hall i (by omega)) hn);cases he:isEf ens i with
   | false=>rfl
   | true=>have:=hnot i h1 h2 he;rw[hall i (by omega)] at this;cases this
  | succ fuel ih=>
   intro listed a w' F' p hs hcnt ok hk hp g hdone hnot hh hdn ht;by_cases hall:∀ i,i<n->listed.getD i true=true
   · refine zbT (n:=n) hback htail (ops.length-n) n listed a w' rfl (cW _) hnl hs (λi hi=>?_) ?_ (fuel+1) ?_
     · rcases cZ i n with h' | h'
       · rw[hall i h'];simp[h']
       rw[ht i h' hi];simp;omega
     · refine final a w' F' p ok hk hp g (λi h1 h2=>?_) (λi t d e hi hn=>hh i t d e hi (hall i hi) hn);cases he:isEf ens i with
       | false=>rfl
       | true=>have:=hnot i h1 h2 he;rw[hall i h2] at this;cases this
     refine jM ?_ hcnt;unfold cnt;have hsplit:List.range ops.length=List.range n++List.range' n (ops.length-n):=by
      rw[j7,j7];have:=@List.range'_append 0 n (ops.length-n) 1;simp only[vT,dS] at this;rw[this];congr 1;omega
     rw[hsplit,u7];have:(List.range' n (ops.length-n)).countP (λi=>!listed.getD i true)=ops.length-n:=by
      rw[vL.2]
      · simp
      intro i hi;have:=wE.1 hi;rw[ht i (by omega) (by omega)];rfl
     omega
   obtain ⟨i0,hi0⟩:=Classical.not_forall.1 hall;obtain ⟨hi0n,hi0u⟩:=Classical.not_imp.1 hi0;have hi0u:listed.getD i0 true=false:=(by cases hx:listed.getD i0 true with | false=>rfl | true=>exact aH hx hi0u);refine⟨λhe=>aH he (zdR hs hback i0 (by omega) hi0u),λi hi=>?_⟩;obtain ⟨hu,hil,hps⟩:=zc8.1 hi;have hin:i<n:=by
    rcases cZ i n with h' | h'
    · exact h'
    exfalso;have hpm:i0∈ancS ops i (zM ops i):=by
     have ht':=htail;unfold zgj at ht';rw[c8] at ht';have:=ht' i (dO.2 hil);rw[jJ] at this;rcases this with h'' | h''
     · have:=zaE.1 h'';omega
     rw[c8] at h'';exact zdo (h'' i0 (dO.2 (by omega)))
    have:=zd7 (p:=λj=>j<ops.length/\listed.getD j true=true) (λk hk j hj=>by
     have hkn:k<n:=by
      rcases cZ k n with hh | hh
      · exact hh
      have:=ht k hh hk.1;rw[hk.2] at this;cases this
     exact⟨by have:=hpre k hk.1 j hj;omega,hdn k hkn hk.2 j hj⟩) i _ (λj hj=>by
     have hjl:j<ops.length:=(by have:=hpre i hil j hj;omega);exact⟨hjl,by rw[zdg hs hjl];exact hps j hj⟩) i0 hpm
    rw[hi0u] at this;cases this.2
   obtain ⟨t,d,e,op,ty,gd,h1,h2,h3⟩:=(hstep i hin).out;obtain ⟨hdst,htN,htK,htne⟩:=hd i t d e hin h1;have hpl:∀ j∈zM ops i,listed.getD j true=true:=λj hj=>by
    have hjl:j<ops.length:=(by have:=hpre i hil j hj;omega);rw[zdg hs hjl];exact hps j hj
   have hkp:KOk w' F' (zF a) (kpre ens K (zM ops i)):=zfT hk _ (λj hj t' d' e' hn'=>hh j t' d' e' (by have:=hpre i hil j hj;omega) (hpl j hj) hn');obtain ⟨o,o1,o2,o3,o4,o5⟩:=za0 h2;have hdok:dok N (some t)=true:=htN;have after:∀ v w'' F'' q,q<=n->Good C (hof H ens q) w'' F''->Keep w' F' w'' F''->D.rep w'' F'' d v->(∀ k,k<q->isEf ens k=true->(listed.setIfInBounds i true).getD k true=true)->(∀ k,q<=k->k<n->isEf ens k=true->(listed.setIfInBounds i true).getD k true=false)->
    wpAny P .any ops.toArray (λe a' w'=>Ok N a'/\∃ F',Q e (zF a') w' F') fuel (listed.setIfInBounds i true) (a.put o.dst v) w'':=by
    intro v w'' F'' q hq g' kp hv hdone' hnot';have henv:zF (a.put o.dst v)=upd (zF a) (some t) v:=(by rw[o2];exact zcB ok hdok v);refine ih _ _ _ F'' q (by simp[hs]) ?_ (ok.put _ _) ?_ hq g' hdone' hnot' ?_ ?_ ?_
    · have:=zeh hil hs hu;omega
    · rw[henv];exact(hk.keep kp).other htK
    · intro j t' d' e' hj hl hn';rw[henv];by_cases hij:i=j
      · subst hij;rw[h1] at hn';cases hn';simpa [upd] using hv
      have hne':t'≠t:=λh'=>hne j i t' d' e' t d e hj hin (λx=>hij x.symm) hn' h1 h'
      rw[getD_set_ne true hij] at hl;simp only[upd,hne',if_false];exact D.keep kp _ _ (hh j t' d' e' hj hl hn')
    · intro j hj hl k hk';by_cases hij:i=j
      · subst hij;have:=hpl k hk';have hki:i≠k:=(by have:=hpre i hil k hk';omega);rw[getD_set_ne true hki];exact this
      rw[getD_set_ne true hij] at hl;have:=hdn j hj hl k hk';by_cases hik:i=k
      · subst hik;rw[hu] at this;cases this
      rw[getD_set_ne true hik];exact this
    intro j hj hjl;rw[getD_set_ne true (by omega)];exact ht j hj hjl
   have hset:(listed.setIfInBounds i true).getD i true=true:=by
    have:i<listed.size:=(by omega);simp[this]
   have stay:isEf ens i=false->(∀ k,k<p->isEf ens k=true->(listed.setIfInBounds i true).getD k true=true)/\(∀ k,p<=k->k<n->isEf ens k=true->(listed.setIfInBounds i true).getD k true=false):=by
    intro hq;refine⟨λk h1 h2=>?_,λk h1 h2 h3=>?_⟩
    · by_cases hik:i=k
      · subst hik;exact hset
      rw[getD_set_ne true hik];exact hdone k h1 h2
    by_cases hik:i=k
    · subst hik;rw[hq] at h3;cases h3
    rw[getD_set_ne true hik];exact hnot k h1 h2 h3
   have gs:=(hsub p hp).out _ _ _ g;have run:aSv P op ty (kpre ens K (zM ops i)) Hs (hof H ens i) d e->EOp P op ty (zF a) w' (λv w''=>wpAny P .any ops.toArray (λe a' w'=>Ok N a'/\∃ F',Q e (zF a') w' F') fuel (listed.setIfInBounds i true) (a.put o.dst v) w''):=by
    intro hrun;cases e with
    | none=>
     have hq:isEf ens i=false:=(by simp[isEf,h1]);refine(hrun.out _ w' F' hkp g.flt gs.h.ok).mono ?_;rintro v w'' ⟨E,hrep⟩;obtain ⟨g',kp⟩:=Good.fn g E;exact after v w'' _ p hp g' kp hrep (stay hq).1 (stay hq).2
    | some H'=>
     have hq:isEf ens i=true:=(by simp[isEf,h1]);obtain ⟨hef,_⟩:=hrun;have hpi:p<=i:=by
      rcases cZ i p with h' | h'
      · have:=hdone i h' hq;rw[hu] at this;cases this
      exact h'
     have hno:∀ k,p<=k->k<i->isEf ens k=false:=by
      intro k hk1 hk2;cases hke:isEf ens k with
      | false=>rfl
      | true=>
       obtain ⟨l,l1,l2,l3,l4⟩:=eX i k hk2 hke;have:=hpl l (hchain i l hin hq l1);rw[hnot l (by omega) (by omega) l4] at this;cases this
     have gi:Good C (hof H ens i) w' F':=(by rw[zd2 (H0:=H) p i hpi hno];exact g);refine(hef.out C _ w' F' hkp gi).mono ?_;rintro v w'' ⟨F'',d',H'',⟨rfl,rfl⟩,hrep,g',kp⟩;refine after v w'' F'' (i+1) (by omega) (by rw[zd1 ens H i t _ _ h1];exact g') kp hrep (λk hk1 hk2=>?_) (λk hk1 hk2 hk3=>?_)
     · by_cases hik:i=k
       · subst hik;exact hset
       rw[getD_set_ne true hik];rcases cZ k p with h' | h'
       · exact hdone k h' hk2
       have:=hno k h' (by omega);rw[hk2] at this;cases this
     rw[getD_set_ne true (by omega)];exact hnot k (by omega) hk2 hk3
   unfold wpOp;rw[o1];simp only;subst o5;cases hgo:o.guard with
   | none=>
    rw[hgo] at h3;rw[aB (by unfold Region.wanted;rw[hgo])];left;apply zcw;rw[o3,o4];exact run h3
   | some jw=>
    obtain ⟨j,want⟩:=jw;rw[hgo] at h3;obtain ⟨s,u,t1,t2,t3,t4,t5⟩:=h3;have hyv:yielded ops.toArray a.tmps j=nb u:=by
     have he:zF a s=u:=hkp s _ t3;have hts:s<a.tmps.size:=(by rw[ok.1];exact zaE.1 t2);have hg':a.tmps[s]?=some u:=by
      simp only[zF,jG] at he;rw[uS hts] at he ⊢;simpa using he
     unfold yielded;unfold zW at t1;cases hn:nth ops j with
     | none=>rw[hn] at t1;cases t1
     | some oj=>
      rw[hn] at t1;have:ops.toArray[j]?=some oj:=(by rw[zaH] at hn;simpa using hn);rw[this];simp only[wL,t1,hg'];cases u<;>rfl
    by_cases hb:nb u=some want
    · rw[aB (by unfold Region.wanted;rw[hgo];simp[hyv,hb])];left;apply zcw;rw[o3,o4];exact run (t4 hb)
    rw[aA (by unfold Region.wanted;rw[hgo];simp[hyv,hb])];obtain ⟨rfl,rfl⟩:=t5 hb;have hq:isEf ens i=false:=(by simp[isEf,h1]);exact after undef w' F' p hp g wU rfl (stay hq).1 (stay hq).2
 have gd:=(Good.fn g (Ext.drew w)).1;have hkd:=hk.keep (Good.fn g (Ext.drew w)).2;refine key ops.toArray.size (Array.replicate ops.toArray.size false) a _ _ 0 (by simp) ?_ ok hkd (cT _) (by rw[iF];exact gd) (λi hi _=>by omega) (λi _ hi _=>?_) ?_ ?_ ?_
 · unfold cnt;refine jM (vM) (by simp)
 · have:i<ops.length:=(by omega);simp[this]
 · intro i t d e hi hl;have:i<ops.length:=(by omega);simp[this] at hl
 · intro i hi hl;have:i<ops.length:=(by omega);simp[this] at hl
 intro i _ hi;simp[hi]
end
end Lp
namespace Lp
open Go Go.RowKit
structure ResO (P:Program) (K:Kd) (H:List Hp) (r:ResultVar) (d:D):Prop where
 out:∀ w F ρ,KOk w F ρ K->(∀ h∈H,h.ok w F)->∃ u,D.rep w F d u/\match r with
  | .tmp t=>ρ t=u
  | .cell a t=>∃ b o,ρ a=.pointer (some ⟨b,o,none⟩)/\(loadVar t ⟨b,o,none⟩).run P w=.ok u w
inductive ResOs (P:Program) (K:Kd) (H:List Hp):List ResultVar->List D->Prop
 | nil:ResOs P K H [] []
 | cons {r:ResultVar} {d:D} {rs:List ResultVar} {ds:List D}:ResO P K H r d->ResOs P K H rs ds->ResOs P K H (r::rs) (d::ds)
def zgI:List D->D
 | [d]=>d
 | ds=>.tup ds
section
variable {P:Program} {K:Kd} {H:List Hp}
def za {t:Tmp} {d:D} (h:zI K t=some d):ResO P K H (.tmp t) d:=⟨λw F ρ hk _=>⟨_,hk t d h,rfl⟩⟩
def zc {r:ResultVar} {d d':D} (h:ResO P K H r d) (c:Cv d d'):ResO P K H r d':=⟨λw F ρ hk hH=>by obtain ⟨u,h1,h2⟩:=h.out w F ρ hk hH;exact⟨u,c.out _ _ _ h1,h2⟩⟩
def zu {a:Tmp} {t:TypeId} {g o n i:Nat} {T:TypeId} {X d:D} (hx:zI K a=some (.v (.pointer (some ⟨g,o,none⟩)))) (hm:nth H i=some (.bx g T X)) (hg:∀ w,(isAgg t).run P w=.ok true w) (hs:∀ w,(Go.sizeOf t).run P w=.ok n w) (hn:Nat.ble (o+n) X.cells.length=true) (hd:zfE X o n=d):ResO P K H (.cell a t) d:=⟨λw F ρ hk hH=>by
 obtain ⟨u,hr,h1,hat⟩:=aMc (hH _ (zU hm));have hl:=wZ hr h1;have hlen:=zbl hl;have hn:=dE hn;have hat':=hat.sub o n;rw[dS] at hat';have hn':(((vcs u).drop o).take n).length=n:=by simp only[cY,c7,hlen];omega
 subst hd;exact⟨_,⟨_,rfl,zdE n (zdF o hl)⟩,g,o,hk a _ hx,lK hg (by rw[hn'];exact hs) hat'⟩⟩
def sL {w:World} {F:Nat->Prop} {ρ:Env} (hk:KOk w F ρ K) (hH:∀ h∈H,h.ok w F) (tmps:Array Value) (ht:∀ t,tmps.getD t undef=ρ t) (f:ResultVar->Sem Value) (f1:∀ t,f (.tmp t)=pure (tmps.getD t undef))
 (f2:∀ a t,f (.cell a t)=(asAddr (tmps.getD a undef) >>=λx=>loadVar t x)) {rs:List ResultVar} {ds:List D} (h:ResOs P K H rs ds):∃ vs,(rs.mapM f).run P w=.ok vs w/\D.repA w F ds vs:=by
 induction h with
 | nil=>exact⟨[],by simp,rfl⟩
 | cons hd _ ih=>
  obtain ⟨vs,e1,e2⟩:=ih;obtain ⟨u,hu,hm⟩:=hd.out w F ρ hk hH;rename_i r d rs ds _;refine⟨u::vs,?_,u,vs,rfl,hu,e2⟩;rw[List.mapM_cons];cases r with
  | tmp t=>
   rw[f1];have:tmps.getD t undef=u:=(by rw[ht];exact hm);simp only[jG] at this;simp[e1,this]
  | cell a t=>
   rw[f2];obtain ⟨b,o,h1,h2⟩:=hm;have:tmps.getD a undef=.pointer (some ⟨b,o,none⟩):=(by rw[ht];exact h1);simp only[jG] at this;simp[e1,this,asAddr,h2]
def fW {fn:Func} {rs:List ResultVar} {ds:List D} {w:World} {F:Nat->Prop} {ρ:Env} (hr:fn.results=rs.toArray) (h:ResOs P K H rs ds) (hk:KOk w F ρ K) (hH:∀ h∈H,h.ok w F) (tmps:Array Value) (ht:∀ t,tmps.getD t undef=ρ t):∃ v,(results fn tmps).run P w=.ok v w/\D.rep w F (zgI ds) v:=by
 have key:∃ vs,(results fn tmps).run P w=.ok (aHz vs) w/\D.repA w F ds vs:=by
  unfold results;rw[hr,List.mapM_toArray];simp only[Sem.run_bind,Sem.run_map,Sem.run_pure];generalize hf:(λx:ResultVar=>(match x with
   | .tmp t=>pure (tmps.getD t undef)
   | .cell a t=>do loadVar t (<-asAddr (tmps.getD a undef)):Sem Value))=f
  obtain ⟨vs,e1,e2⟩:=sL (P:=P) hk hH tmps ht f (λ_=>by rw[<-hf]) (λ_ _=>by rw[<-hf]) h;refine⟨vs,?_,e2⟩;rw[e1];simp only[Result.andThen_ok];congr 1
  match vs with
  | []=>rfl
  | [v]=>rfl
  | u::v::r=>simp[aHz]
 obtain ⟨vs,e1,e2⟩:=key;refine⟨aHz vs,e1,?_⟩;cases h with
 | nil=>rw[show vs=[] from e2];exact⟨[],rfl,rfl⟩
 | cons h1 h2=>
  cases h2 with
  | nil=>obtain ⟨u,us,rfl,h3,h4⟩:=e2;rw[show us=[] from h4];exact h3
  | cons h3 h4=>obtain ⟨u,us,rfl,h5,u',us',rfl,h6⟩:=e2;exact⟨_,rfl,u,_,rfl,h5,u',us',rfl,h6⟩
def aRj {C:Ctx} {fn:Func} {R:D->List Hp->Prop} {rs:List ResultVar} {ds:List D} {d:D} {H':List Hp} (hr:fn.results=rs.toArray) (h:ResOs P K H rs ds) (hp:zgI ds=d) (hs:HSub H H') (hR:R d H'):PD C (qret P fn C R) .ret K H:=
 ⟨λρ w F hk g tmps ht=>by
  obtain ⟨v,e1,e2⟩:=fW hr h hk g.h.ok tmps ht;exact⟨v,e1,F,d,H',hR,hp ▸ e2,hs.out _ _ _ g⟩⟩
def aTs {C:Ctx} {fn:Func} {R:D->List Hp->Prop} {rs:List ResultVar} {ds:List D} {d:D} {H':List Hp} (hr:fn.results=rs.toArray) (h:ResOs P K H rs ds) (hp:zgI ds=d) (hs:HSub H H') (hR:R d H'):PD C (qret P fn C R) .normal K H:=
 ⟨λρ w F hk g tmps ht=>by
  obtain ⟨v,e1,e2⟩:=fW hr h hk g.h.ok tmps ht;exact⟨v,e1,F,d,H',hR,hp ▸ e2,hs.out _ _ _ g⟩⟩
mutual
def D.bd:D->Prop
 | .s b=>b.size<=9223372036854775807
 | .sh _ xs=>xs.length<=9223372036854775807/\D.bdL xs
 | .agg cs=>D.bdL cs
 | .tup cs=>D.bdL cs
 | .ifc _ d=>D.bd d
 | .el x _=>D.bd x
 | _=>True
def D.bdL:List D->Prop
 | []=>True
 | d::r=>D.bd d/\D.bdL r
end
section
variable {w:World} {F:Nat->Prop}
mutual
def mL:∀ (d:D) (a:Value),D.rep w F d a->D.bd d
 | .v _,_,_=>trivial
 | .ov _,_,_=>trivial
 | .s _,_,h=>h.2
 | .agg cs,_,⟨vs,e,h⟩=>D.repL_bd cs vs h
 | .tup cs,_,⟨vs,e,h⟩=>D.repA_bd cs vs h
 | .ifc _ d,_,⟨u,e,h⟩=>mL d u h
 | .fn _ p q,_,_=>trivial
 | .sh z xs,_,⟨A,c,e,h1,h2,h3⟩=>⟨h2,by
  cases hxs:xs with
  | nil=>exact trivial
  | cons x r=>
   obtain ⟨b,o,_,_,hc⟩:=h3 (by rw[hxs];simp);rw[<-hxs];exact D.repC_bd z b xs o hc⟩
 | .el x _,_,⟨b,p,u,e,h1,h2,h3,h4⟩=>mL x u h2
 | .shr _ _ _,_,_=>trivial
 | .any,_,_=>trivial
def D.repL_bd:∀ (ds:List D) (vs:List Value),D.repL w F ds vs->D.bdL ds
 | [],_,_=>trivial
 | d::r,_,⟨u,us,e,h1,h2,h3⟩=>⟨mL d u h2,D.repL_bd r us h3⟩
def D.repA_bd:∀ (ds:List D) (vs:List Value),D.repA w F ds vs->D.bdL ds
 | [],_,_=>trivial
 | d::r,_,⟨u,us,e,h2,h3⟩=>⟨mL d u h2,D.repA_bd r us h3⟩
def D.repC_bd (z b:Nat):∀ (xs:List D) (o:Nat),D.repC w F z b xs o->D.bdL xs
 | [],_,_=>trivial
 | x::r,o,⟨⟨u,h1,h2,h3,h4⟩,h5⟩=>⟨mL x u h1,D.repC_bd z b r (o+z) h5⟩
end
end
def zy {α:Type} {f:α->D} {l:List α} {z:Nat} (h:D.bd (.sh z (l.map f))):l.length<=9223372036854775807:=by have:=h.1;simpa using this
end
abbrev dI (n:Int):D:=.v (.int .i64 n)
abbrev dB (b:Bool):D:=.v (.bool b)
abbrev isR (d:D):D->List Hp->Prop:=λr H=>r=d/\H=[]
abbrev zcA (z:Nat) (T:TypeId) (xs:List D):D->List Hp->Prop:=λr H=>∃ v,r=.ov v/\H=[.sl v z T xs]
abbrev D.ls {α:Type} (z:Nat) (f:α->D) (l:List α):D:=.sh z (l.map f)
def sk {K:Kd} {t:Nat} {d:D} (h:zI K t=some d):∃ d',zI K t=some d'/\Cv d' d:=⟨d,h,w5⟩
def sc {K:Kd} {t:Nat} {d d':D} (h:zI K t=some d) (c:Cv d d'):∃ d,zI K t=some d/\Cv d d':=⟨d,h,c⟩
section
variable {P:Program} {K:Kd} {H:List Hp} {N:Nat} {C:Ctx}
def zc9 {H:List Hp} {i:Nat} {h:Hp} (e:nth H i=some h):H.Perm (h::(H.take i++H.drop (i+1))):=by
 rw[zaH] at e;obtain ⟨hl,e⟩:=cQ.1 e;have:H=H.take i++h::H.drop (i+1):=by rw[<-e,wG,dF]
 conv=>lhs;rw[this]
 exact vC
def CvL.repE {w:World} {F:Nat->Prop} {z:Nat} {ds ds':List D} (h:CvL ds ds'):∀ {vs:List Value},RepE w F z ds vs->RepE w F z ds' vs:=by
 induction h with
 | nil=>exact λh=>h
 | cons hd _ ih=>rintro _ ⟨u,us,rfl,h2,h3,h4,h5⟩;exact⟨u,us,rfl,hd.out _ _ _ h2,h3,h4,ih h5⟩
def CvL.repC {w:World} {F:Nat->Prop} {z b:Nat} {ds ds':List D} (h:CvL ds ds'):∀ {o:Nat},D.repC w F z b ds o->D.repC w F z b ds' o:=by
 induction h with
 | nil=>exact λh=>h
 | cons hd _ ih=>rintro o ⟨⟨u,h1,h2⟩,h3⟩;exact⟨⟨u,hd.out _ _ _ h1,h2⟩,ih h3⟩
def CvL.len {ds ds':List D} (h:CvL ds ds'):ds'.length=ds.length:=by
 induction h with
 | nil=>rfl
 | cons _ _ ih=>simp[ih]
def mM {v:Value} {z:Nat} {T:TypeId} {xs xs':List D} (h:CvL xs xs'):∀ w F,(Hp.sl v z T xs).ok w F->(Hp.sl v z T xs').ok w F:=λ_ _ ⟨us,h1,h2⟩=>⟨us,h.repE h1,h2⟩
def mN {z:Nat} {xs xs':List D} (h:CvL xs xs'):Cv (.sh z xs) (.sh z xs'):=⟨λw F u ⟨A,c,h1,h2,h3,h4⟩=>⟨A,c,by rw[h.len];exact h1,by rw[h.len];exact h2,by rw[h.len];exact h3,λhn=>by
 obtain ⟨b,o,h5,h6,h7⟩:=h4 (by rintro rfl;cases h;exact hn rfl);exact⟨b,o,h5,h6,h.repC h7⟩⟩⟩
def oW (s:Ba) (k:Nat) (h:k<s.size):∃ u:UInt8,s[k]?=some u:=⟨s[k],by simp[h]⟩
def HSub.none {H:List Hp}:HSub H []:=w9 (List.nil_sublist _)
def mO {H:List Hp} (n:Nat) {H':List Hp} (e:H.take n=H'):HSub H H':=e ▸ w9 (List.take_sublist n H)
def mP {H:List Hp} (n:Nat) {H':List Hp} (e:H.drop n=H'):HSub H H':=e ▸ w9 (List.drop_sublist n H)
def zaJ {H:List Hp} {i:Nat} {h:Hp} (e:nth H i=some h):[h].Sublist H:=List.singleton_sublist.2 (zU e)
def zdY {H:List Hp}:∀ h∈([]:List Hp),h∈H:=λ_ h=>by cases h
def kF {α:Type} {f:α->D} (h:∀ x,(f x).flat=true):∀ l:List α,D.flat.flatL (l.map f)=true
 | []=>rfl
 | x::r=>by simp[D.flat.flatL,h x,kF h r]
def oB {z:Nat} {T:TypeId} {xs:List D} (h:D.flat.flatL xs=true):∀ d H',zcA z T xs d H'->d.flat=true/\∀ h∈H',h.flat=true:=λ_ _ ⟨v,h1,h2⟩=>by
 subst h1;subst h2;exact⟨rfl,λx hx=>by rw[dQ.1 hx];exact h⟩
def zaf {e:D}:∀ d' H',isR e d' H'->ArgC H' d' e:=λ_ _ ⟨h1,h2⟩=>by subst h1;subst h2;exact mJ
def zb3 {z:Nat} {T:TypeId} {xs:List D}:∀ d' H',zcA z T xs d' H'->ArgC H' d' (.sh z xs):=λ_ _ ⟨v,h1,h2⟩=>by subst h1;subst h2;exact mK (j:=0) rfl rfl
variable {ty:TypeId} {α:Type} {f:α->D}
def zG {t:TypeId} {x y:Operand} {z bytes i:Nat} {v zv:Value} {T:TypeId} {l l':List α} {d:D} (hx:opO K x=some v) (hm:nth H i=some (.sl v z T (l.map f))) (hy:opD K y=some d) (hsrc:SrcD H z d (l'.map f)) (ht:P.underlying t=some (.slice T))
 (hi':∃ i,P.info? T=some i/\i.zero=some zv/\i.size=z/\i.bytes=bytes) (hzs:zv.cells.size=z) (hsz:Nat.blt 0 z=true) (hlen:l.length+l'.length<=maxLen) (hbytes:(l.length+l'.length)*bytes<=140737488355328):
 Ef P (.call { callee:=.builtin .append,args:=#[x,y],argTypes:=#[t,t] }) ty K H (λd H'=>∃ v',d=.ov v'/\H'=H.set i (.sl v' z T ((l++l').map f))):=by
 have:=gH (ty:=ty) hx hm hy hsrc ht hi' hzs hsz (by simpa using hlen) (by simpa using hbytes);rw[<-u9] at this;exact this
def zb4 {t:TypeId} {x y:Operand} {z bytes:Nat} {zv:Value} {T:TypeId} {l':List α} {d:D} (hx:opD K x=some (.v (.slice none 0 0))) (hy:opD K y=some d) (hsrc:SrcD (.sl (.slice none 0 0) z T []::H) z d (l'.map f)) (ht:P.underlying t=some (.slice T))
 (hi':∃ i,P.info? T=some i/\i.zero=some zv/\i.size=z/\i.bytes=bytes) (hzs:zv.cells.size=z) (hsz:Nat.blt 0 z=true) (hlen:l'.length<=maxLen) (hbytes:l'.length*bytes<=140737488355328):
 Ef P (.call { callee:=.builtin .append,args:=#[x,y],argTypes:=#[t,t] }) ty K H (λd H'=>∃ v',d=.ov v'/\H'=.sl v' z T (l'.map f)::H):=by
 have:=gH (ty:=ty) (i:=0) (xs:=[]) (by unfold opO;rw[hx];rfl) rfl hy hsrc ht hi' hzs hsz (by simpa using hlen) (by simpa using hbytes);exact Ef.preH (HSub.nil z T) (by simpa using this)
def zY {t:TypeId} {x y:Operand} {v:Value} {z k o n i:Nat} {T:TypeId} {l:List α} {a a':α} {d:D} (hx:opD K x=some (.v (.pointer (some ⟨bl v,k*z+o,none⟩)))) (hm:nth H i=some (.sl v z T (l.map f))) (ha:l[k]?=some a) (hy:opD K y=some d) (hc:CellD H d)
 (hs:∀ w,(Go.sizeOf t).run P w=.ok n w) (hn:Nat.beq d.cells.length n=true) (ho:Nat.ble (o+n) (f a).cells.length=true) (hX:splD (f a) o d=some (f a')):Ef P (.store t x y) ty K H (λr H'=>r=.v undef/\H'=H.set i (.sl v z T ((l.set k a').map f))):=by
 have:=yW (ty:=ty) hx hm (zd ha) hy hc hs hn ho hX;rw[<-List.map_set] at this;exact this
def iO {t t':TypeId} {x:Operand} {z:Nat} {xs:List D} (hx:opD K x=some (.sh z xs)) (hr:∀ A n c w,(do eqGuard .eql t x (.const (.slice none 0 0)) (.slice A n c) (.slice none 0 0);binOp .eql t (.slice A n c) (.slice none 0 0):Sem Value).run P w=.ok (.bool A.isNone) w):
 Ef P (.binOp .eql t x (.const (.slice none 0 0)) t') ty K H (λd H'=>∃ b,d=.v (.bool b)/\H'=H/\(b=true->xs=[])):=
 ⟨λC ρ w F hk gd=>by
  obtain ⟨A,c,h,h1,h2,h3⟩:=hk.op hx;refine zcb (zo ρ [x]) (opv1 ρ h) rfl (λw=>hr A xs.length c w) ⟨F,_,_,⟨A.isNone,rfl,rfl,λhn=>?_⟩,rfl,gd,wU⟩;rcases uE xs.length with h0 | h0
  · exact dC h0
  obtain ⟨b,o,e,_⟩:=h3 (by intro e;rw[e] at h0;simp at h0);rw[e] at hn;cases hn⟩
end
def iE {w:World} {F:Nat->Prop} {z:Nat} {T:TypeId} {v:Value} {us:List Value} (h:Own vcs z T w 0 v us):us.length<=maxLen:=by
 rcases h.1.2 with ⟨_,h0⟩ | ⟨g,cap,cur,_,_,_,h3,h4,_⟩
 · rw[h0];exact cT _
 omega
def mQ {L:List Hp} {j g o:Nat} {T:TypeId} {X X':D} (hm:nth L j=some (.bx g T X)) (hX:ArgC L X X'):ArgC L (.v (.pointer (some ⟨g,o,none⟩))) (.el X' o):=⟨λw F u hF hL hr=>by
 obtain ⟨u',h1,h2,h3⟩:=aMc (hL _ (zU hm));have:u=_:=hr;subst this;exact⟨g,0,u',by rw[dS],.inr ⟨_,zU hm,rfl⟩,hX.out _ _ _ hF hL h1,h2,h3⟩⟩
abbrev FA (w:World):Nat->Prop:=λb=>b<w.heap.size
section
variable {H:Type} {enc:TypeId×Value->H} {P:Program} {w:World} {held:Bool} {sp:Nat->Bool}
def InD (w:World) (z:Nat) (d:D) (cs:List Value):Prop:=∃ u,cs=vcs u/\D.rep w (FA w) d u/\One u/\cs.length=z
def aB1 {α:Type} [Inhabited α] (f:α->D) {z:Nat} {t e:TypeId} {fuel:Nat} {vs:List Value} {x:DataW H×List MemPlace} (ht:P.underlying t=some (.slice e)) (hz:P.cellsOf e=z) (hz0:0<z)
 (h:DataW.trod enc P w 0 sp held fuel t vs=some x)
 (el:∀ n cs' y,DataW.trod enc P w 0 sp held n e cs'=some y->∃ d:α,InD w z (f d) cs'):
 ∃ (v:Value) (xs:List α),vs=[v]/\D.rep w (FA w) (.sh z (xs.map f)) v:=by
 haveI:Inhabited (α×Value):=⟨(default,undef)⟩
 obtain ⟨v,xs,h1,h2,h3,h4⟩:=aRv (α:=α×Value) (cs:=λp=>vcs p.2) (z:=z) (λp=>D.rep w (FA w) (f p.1) p.2/\One p.2/\(vcs p.2).length=z) ht hz hz0 h (λn cs' y hy=>by
  obtain ⟨d,u,e1,e2,e3,e4⟩:=el n cs' y hy;exact⟨(d,u),e1,by rw[<-e1];exact e4,e2,e3,by rw[<-e1];exact e4⟩)
 refine⟨v,xs.map (·.1),h1,?_⟩;have hE:∀ ys:List (α×Value),(∀ p∈ys,D.rep w (FA w) (f p.1) p.2/\One p.2/\(vcs p.2).length=z)->RepE w (FA w) z ((ys.map (·.1)).map f) (ys.map (·.2)):=by
  intro ys
  induction ys with
  | nil=>intro _;exact rfl
  | cons p r ih=>
   intro hp;have h0:=hp p cR;exact⟨p.2,r.map (·.2),rfl,h0.1,h0.2.1,by simpa [vcs] using h0.2.2,ih (λq hq=>hp q (cV _ hq))⟩
 have hsl:SlT vcs z w 0 w.heap.size v (xs.map (·.2)):=by
  show Sl w 0 w.heap.size z v ((xs.map (·.2)).map vcs);rw[List.map_map];exact h2
 refine w4 (hE xs h3) hsl (λhn g hg=>?_) (by simpa using h4);obtain ⟨A,c,e1,e2,e3,e4,e5⟩:=hsl;obtain ⟨b,o,e6,_,e7,_⟩:=e4 (by simpa using hn);rw[e1,e6] at hg;cases hg;exact e7
def InD.one {d:D} {v:Value} (h:D.rep w (FA w) d v) (h1:v.oneCell'=true):InD w 1 d [v]:=⟨v,(aHp h1).symm,h,One.one h1,rfl⟩
end
end Lp
namespace Lp
open Go Go.RowKit
open Go.Lib (strCells strCells_eq byteCells byteCells_length run_append_own_string)
section
variable {P:Program} {ty:TypeId} {K:Kd} {H:List Hp}
def zd6 {x:Operand} {t:TypeId} {s:Ba} (hx:opS K x=some s) (ht:∀ w,(underlying t).run P w=.ok .string w):Ef P (.range t x) ty K H (λd H'=>∃ g,d=.v (.pointer (some ⟨g,0,none⟩))/\H'=.it g s 0::H):=
 ⟨λC ρ w F hk gd=>by
  have e:=hk.opS hx;refine wS (v:=.pointer (some ⟨w.heap.size,0,none⟩)) (w':=w.alloc (.stringIter s 0)) (by simp[execOp,zao,e,Instr.range,ht]) ?_;have E:=Ext.alloc w (.stringIter s 0);have g':=gd.ext E;refine⟨F,_,_,⟨w.heap.size,rfl,rfl⟩,rfl,g'.more (heap_alloc_new w _) (λb hb=>?_),Keep.ext E⟩;cases hb;exact⟨gd.size,λhF=>by have:=gd.flt _ hF;omega,λhB=>by have:=zf1 gd.h hB;omega⟩⟩
def decR (s:Ba) (p:Nat):Nat:=(Utf8.decode s p).1
def decW (s:Ba) (p:Nat):Nat:=(Utf8.decode s p).2
def zde {x:Operand} {s:Ba} {g p i:Nat} (hx:opD K x=some (.v (.pointer (some ⟨g,0,none⟩)))) (hm:nth H i=some (.it g s p)) (hp:p<s.size):
 Ef P (.next x true) ty K H (λd H'=>d=.tup [.v (.bool true),.v (.int .i64 (p:Int)),.v (.int .i32 (decR s p:Int))]/\H'=H.set i (.it g s (p+decW s p))):=
 ⟨λC ρ w F hk gd=>by
  have e:ev ρ x=_:=hk.op hx;have hb:w.heap[g]?=some (.stringIter s p):=gd.h.ok _ (zU hm);have hlt:=(jI.1 hb).1;refine wS (v:=.tuple #[.bool true,.int .i64 (p:Int),.int .i32 (decR s p:Int)]) (w':={ w with heap:=w.heap.setIfInBounds g (.stringIter s (p+decW s p)) }) ?_ ?_
  · simp[execOp,zao,e,Instr.next,getObj,setObj,Sem.run,hb,hp,decR,decW,goInt]
  have:=gd.turn (h':=.it g s (p+decW s p)) (w':={ w with heap:=w.heap.setIfInBounds g (.stringIter s (p+decW s p)) }) hm (λb _ hn=>by
   have:¬g=b:=hn;simp only[Array.getElem?_setIfInBounds];rw[aA this]) (by simp) rfl rfl rfl (Dr.of (cW _)) (λb hb=>.inl hb) (λ_=>by
   show _=_;simp only[Array.getElem?_setIfInBounds,if_true,hlt])
  exact⟨F,_,_,⟨rfl,rfl⟩,⟨_,rfl,_,_,rfl,rfl,_,_,rfl,rfl,_,_,rfl,rfl,rfl⟩,this.1,this.2⟩⟩
def zdW {x:Operand} {s:Ba} {g p i:Nat} (hx:opD K x=some (.v (.pointer (some ⟨g,0,none⟩)))) (hm:nth H i=some (.it g s p)) (hp:s.size<=p):Pu P (.next x true) ty K H (.tup [.v (.bool false)]):=
 ⟨λρ w F hk _ hH=>by
  have e:ev ρ x=_:=hk.op hx;have hb:w.heap[g]?=some (.stringIter s p):=hH _ (zU hm);refine wS (v:=.tuple #[.bool false]) (w':=w) ?_ ⟨rfl,_,rfl,_,_,rfl,rfl,rfl⟩;simp[execOp,zao,e,Instr.next,getObj,Sem.run,hb,show ¬p<s.size by omega]⟩
def z6 (s:Ba) (p:Nat):1<=decW s p:=by
 unfold decW Utf8.decode;simp only
 (repeat' split)<;>simp
def zaK (s:Ba) (p:Nat) (h:p<s.size):p+decW s p<=s.size:=by
 unfold decW Utf8.decode;simp only[cU,aI]
 (repeat' split)<;>simp<;>omega
def za8 (s:Ba) (p:Nat):List Int:=if h:p<s.size then(decR s p:Int)::za8 s (p+decW s p) else []
termination_by s.size-p
decreasing_by have:=z6 s p;omega
def zaw {s:Ba} {p:Nat} (h:p<s.size):za8 s p=(decR s p:Int)::za8 s (p+decW s p):=by
 conv=>lhs;unfold za8
 rw[dif_pos h]
def za2 {s:Ba} {p:Nat} (h:s.size<=p):za8 s p=[]:=by
 unfold za8;rw[dif_neg (by omega)]
def zaI (s:Ba):List Int:=za8 s 0
def zcW (s:Ba) (p:Nat):decR s p<1114112:=by
 unfold decR Utf8.decode;simp only[cU,aI];have hv:∀ c,Utf8.valid c=true->c<1114112:=by
  intro c;unfold Utf8.valid;simp;intros;omega
 (repeat' split)
 all_goals first
  | (simp only[Utf8.runeError];omega)
  | (simp only;omega)
  | (rename_i h;have:=hv _ h.2;simp only;omega)
end
end Lp
