import Derived.Test.YtheccaeefigajaaGreatDoorDA
set_option linter.unusedSimpArgs false
set_option linter.unusedVariables false
namespace Lp
open Go Go.RowKit
abbrev Kd:=List (Nat×D)
def zX:Kd->Nat->Option D
 | [],_=>none
 | (d,v)::r,t=>bif Nat.beq t d then some v else zX r t
def KOk (w:World) (F:Nat->Prop) (ρ:Env) (K:Kd):Prop:=∀ t d,zX K t=some d->D.rep w F d (ρ t)
def upK (K:Kd):Option Tmp->D->Kd
 | some t,d=>(t,d)::K
 | none,_=>K
theorem KOk.upd {w:World} {F:Nat->Prop} {ρ:Env} {K:Kd} (h:KOk w F ρ K) (t:Option Tmp) {d:D} {v:Value} (hr:D.rep w F d v):KOk w F (upd ρ t v) (upK K t d):=by
 cases t with
 | none=>exact h
 | some t=>
  intro s u hu;simp only[upK,zX] at hu;by_cases e:s=t
  · subst e;rw[show Nat.beq s s=true from j0 s] at hu;simp only[cond_true,c6] at hu;subst hu;simpa [Lp.upd] using hr
  rw[zcL e] at hu;simp only[cond_false] at hu;simpa [Lp.upd,e] using h s u hu
theorem KOk.keep {w w':World} {F F':Nat->Prop} {ρ:Env} {K:Kd} (h:KOk w F ρ K) (k:Keep w F w' F'):KOk w' F' ρ K:=λt d hd=>D.keep k _ _ (h t d hd)
def opD (K:Kd):Operand->Option D
 | .tmp t=>zX K t
 | .const v=>some (.v v)
 | .global g=>some (.v (.pointer (some ⟨g,0,none⟩)))
 | .func f=>some (.fn f [] [])
theorem KOk.op {w:World} {F:Nat->Prop} {ρ:Env} {K:Kd} (h:KOk w F ρ K) {x:Operand} {d:D} (hx:opD K x=some d):D.rep w F d (ev ρ x):=by
 cases x with
 | tmp t=>exact h t d hx
 | const c=>simp only[opD,c6] at hx;subst hx;rfl
 | global g=>simp only[opD,c6] at hx;subst hx;rfl
 | func f=>simp only[opD,c6] at hx;subst hx;exact⟨[],[],rfl,rfl,rfl⟩
structure Cv (d d':D):Prop where
 out:∀ w F u,D.rep w F d u->D.rep w F d' u
theorem w7 {d:D}:Cv d d:=⟨λ_ _ _ h=>h⟩
theorem Cv.nil {z:Nat}:Cv (.v (.slice none 0 0)) (.sh z []):=⟨λ_ _ u h=>by have h:u=_:=h;subst h;exact⟨none,0,rfl,by simp,by simp,by simp⟩⟩
theorem Cv.str {b:ByteArray} (h:b.size<=maxLen):Cv (.v (.string b)) (.s b):=⟨λ_ _ _ e=>⟨e,h⟩⟩
theorem Cv.ov {u:Value} (h:u.oneCell'=true):Cv (.v u) (.ov u):=⟨λ_ _ _ e=>⟨e,h⟩⟩
theorem Cv.eq {d d':D} (h:d=d'):Cv d d':=⟨λ_ _ _ e=>h ▸ e⟩
theorem Cv.trans {a b c:D} (h:Cv a b) (k:Cv b c):Cv a c:=⟨λw F u x=>k.out w F u (h.out w F u x)⟩
inductive CvL:List D->List D->Prop
 | nil:CvL [] []
 | cons {d d':D} {r r':List D}:Cv d d'->CvL r r'->CvL (d::r) (d'::r')
theorem CvL.repL {w:World} {F:Nat->Prop} {ds ds':List D} (h:CvL ds ds'):∀ {vs:List Value},D.repL w F ds vs->D.repL w F ds' vs:=by
 induction h with
 | nil=>exact λh=>h
 | cons hd _ ih=>rintro _ ⟨u,us,rfl,h1,h2,h3⟩;exact⟨u,us,rfl,h1,hd.out _ _ _ h2,ih h3⟩
theorem CvL.repA {w:World} {F:Nat->Prop} {ds ds':List D} (h:CvL ds ds'):∀ {vs:List Value},D.repA w F ds vs->D.repA w F ds' vs:=by
 induction h with
 | nil=>exact λh=>h
 | cons hd _ ih=>rintro _ ⟨u,us,rfl,h2,h3⟩;exact⟨u,us,rfl,hd.out _ _ _ h2,ih h3⟩
theorem Cv.agg {cs cs':List D} (h:CvL cs cs'):Cv (.agg cs) (.agg cs'):=⟨λ_ _ _ ⟨vs,e,hl⟩=>⟨vs,e,h.repL hl⟩⟩
theorem Cv.tup {cs cs':List D} (h:CvL cs cs'):Cv (.tup cs) (.tup cs'):=⟨λ_ _ _ ⟨vs,e,hl⟩=>⟨vs,e,h.repA hl⟩⟩
theorem Cv.ifc {t:TypeId} {d d':D} (h:Cv d d'):Cv (.ifc t d) (.ifc t d'):=⟨λ_ _ _ ⟨vs,e,hl⟩=>⟨vs,e,h.out _ _ _ hl⟩⟩
theorem w8 {a:Array Value} (h:∀ c∈a.toList,c.oneCell'=true):Cv (.v (.agg a)) (.agg (a.toList.map .v)):=⟨λ_ _ u e=>by
 have e:u=_:=e;subst e;exact⟨a.toList,by simp,aDe _ h⟩⟩
def SubK:Kd->Kd->Prop
 | [],_=>True
 | (t,d')::r,K=>(∃ d,zX K t=some d/\Cv d d')/\SubK r K
theorem SubK.out:∀ {K' K:Kd},SubK K' K->∀ {w:World} {F:Nat->Prop} {ρ:Env},KOk w F ρ K->KOk w F ρ K'
 | [],_,_,_,_,_,_=>λ_ _ h=>by simp[zX] at h
 | (t,d')::r,K,⟨⟨d,h1,h2⟩,hr⟩,w,F,ρ,hk=>by
  intro s u hu;simp only[zX] at hu;by_cases e:s=t
  · subst e;rw[show Nat.beq s s=true from j0 s] at hu;simp only[cond_true,c6] at hu;subst hu;exact h2.out _ _ _ (hk s d h1)
  rw[zcL e] at hu;simp only[cond_false] at hu;exact SubK.out hr hk s u hu
structure HSub (H H':List Hp):Prop where
 out:∀ C w F,Good C H w F->Good C H' w F
theorem w9 {H:List Hp}:HSub H H:=⟨λ_ _ _ h=>h⟩
theorem HSub.trans {a b c:List Hp} (h:HSub a b) (k:HSub b c):HSub a c:=⟨λC w F x=>k.out C w F (h.out C w F x)⟩
theorem mA {H H':List Hp} (h:H'.Sublist H):HSub H H':=⟨λ_ _ _ g=>g.sub h⟩
theorem mB {H H':List Hp} (h:H.Perm H'):HSub H H':=⟨λ_ _ _ g=>{ g with h:=⟨(h.pairwise_iff (by intro a b hab g hg hg';exact hab g hg' hg)).1 g.h.apart,λx hx=>g.h.ok x (h.mem_iff.2 hx),λb ⟨x,hx,e⟩=>g.h.mine b ⟨x,h.mem_iff.2 hx,e⟩⟩ }⟩
theorem HSub.nil {H:List Hp} (z:Nat) (T:TypeId):HSub H (.sl (.slice none 0 0) z T []::H):=⟨λ_ w F g=>{ g with h:=⟨vR.2 ⟨λ_ _ _ hg=>(by cases hg),g.h.apart⟩,λx hx=>by
 cases hx with
 | head=>exact⟨[],rfl,Own.nil _ _⟩
 | tail _ hm=>exact g.h.ok x hm,
 λb ⟨x,hx,e⟩=>by
  cases hx with
  | head=>cases e
  | tail _ hm=>exact g.h.mine b ⟨x,hm,e⟩⟩ }⟩
theorem mC {H:List Hp} {h h':Hp} (hb:h'.blk=h.blk) (ho:∀ w F,h.ok w F->h'.ok w F):HSub (h::H) (h'::H):=⟨λ_ w F g=>{ g with h:=⟨by
 have:=vR.1 g.h.apart;exact vR.2 ⟨λx hx b e=>this.1 x hx b (hb ▸ e),this.2⟩,λx hx=>by
 cases hx with
 | head=>exact ho _ _ (g.h.ok h cW)
 | tail _ hm=>exact g.h.ok x (dA _ hm),
 λb ⟨x,hx,e⟩=>by
  cases hx with
  | head=>exact g.h.mine b ⟨h,cW,hb ▸ e⟩
  | tail _ hm=>exact g.h.mine b ⟨x,dA _ hm,e⟩⟩ }⟩
theorem mD {g:Nat} {T:TypeId} {x x':D} (h:Cv x x'):∀ w F,(Hp.bx g T x).ok w F->(Hp.bx g T x').ok w F:=λw F ⟨u,h1,h2,h3⟩=>⟨u,h.out _ _ _ h1,h2,h3⟩
theorem mE {v:Value} {z:Nat} {T:TypeId} {xs xs':List D} (h:xs=xs'):∀ w F,(Hp.sl v z T xs).ok w F->(Hp.sl v z T xs').ok w F:=λ_ _ k=>h ▸ k
abbrev zb0:=Exit->Env->World->(Nat->Prop)->Prop
structure JD (P:Program) (N:Nat) (C:Ctx) (c:Code) (K:Kd) (H:List Hp) (Q:zb0):Prop where
 out:∀ a w F,Ok N a->KOk w F (zZ a) K->Good C H w F->c.wp P (λe a' w'=>Ok N a'/\∃ F',Q e (zZ a') w' F') a w
structure PD (C:Ctx) (Q:zb0) (e:Exit) (K:Kd) (H:List Hp):Prop where
 out:∀ ρ w F,KOk w F ρ K->Good C H w F->Q e ρ w F
section code
variable {P:Program} {N:Nat} {C:Ctx} {K:Kd} {H:List Hp} {Q:zb0} {c:Code} {p:List Bool}
theorem JD.fact {c:Code} {φ:Prop} (hf:∀ w F ρ,KOk w F ρ K->Good C H w F->φ) (h:φ->JD P N C c K H Q):JD P N C c K H Q:=⟨λa w F ok hk g=>(h (hf w F _ hk g)).out a w F ok hk g⟩
def qseq (P:Program) (N:Nat) (b:Code) (Q:zb0):zb0
 | .normal,ρ,w,_=>∀ a,Ok N a->zZ a=ρ->b.wp P (λe a' w'=>Ok N a'/\∃ F',Q e (zZ a') w' F') a w
 | e,ρ,w,F=>Q e ρ w F
theorem a0u (pa pb:List Bool) (hk:aYv (cd c p)=true) (ha:p++[false]=pa) (hb:p++[true]=pb) (h:JD P N C (cd c pa) K H (qseq P N (cd c pb) Q)):JD P N C (cd c p) K H Q:=by
 subst ha;subst hb;rw[zfB,zfB] at h;cases hc:cd c p<;>rw[hc] at hk h<;>simp[aYv] at hk
 rename_i a b;simp only[cd,cond_true,cond_false,zgb] at h;refine⟨λa0 w F hok hk g=>?_⟩;refine wp_seq (wp_mono (h.out a0 w F hok hk g) ?_);rintro e a' w' ⟨ok,F',hq⟩;cases e with
 | normal=>exact hq a' ok rfl
 | exit id=>exact⟨ok,F',hq⟩
 | goto k=>exact⟨ok,F',hq⟩
 | ret=>exact⟨ok,F',hq⟩
 | panic ch=>exact⟨ok,F',hq⟩
 | outgrown=>exact⟨ok,F',hq⟩
theorem yK (pa pb:List Bool) {x:Operand} {t:Bool} (hk:zgr (cd c p)=some x) (ha:p++[false]=pa) (hb:p++[true]=pb) (hx:opD K x=some (.v (.bool t))) (ht:t=true->JD P N C (cd c pa) K H Q) (hf:t=false->JD P N C (cd c pb) K H Q):JD P N C (cd c p) K H Q:=by
 subst ha;subst hb;rw[zfB] at ht hf;cases hc:cd c p<;>rw[hc] at hk ht hf<;>simp[zgr] at hk
 simp only[cd,cond_true,cond_false,zgb] at ht hf;subst hk;refine⟨λa w F ok hk g=>?_⟩;refine wp_cond_split (t:=t) ?_ (λe=>(ht e).out a w F ok hk g) (λe=>(hf e).out a w F ok hk g);rw[aCr];exact hk.op hx
theorem aJk (pa:List Bool) {x:Operand} (hk:zgr (cd c p)=some x) (ha:p++[false]=pa) (hx:opD K x=some (.v (.bool true))) (ht:JD P N C (cd c pa) K H Q):JD P N C (cd c p) K H Q:=
 yK pa _ hk ha rfl hx (λ_=>ht) (λe=>by cases e)
theorem aJ1 (pb:List Bool) {x:Operand} (hk:zgr (cd c p)=some x) (hb:p++[true]=pb) (hx:opD K x=some (.v (.bool false))) (hf:JD P N C (cd c pb) K H Q):JD P N C (cd c p) K H Q:=
 yK _ pb hk rfl hb hx (λe=>by cases e) (λ_=>hf)
def aLo (id:Nat) (Q:zb0):zb0
 | .exit id',ρ,w,F=>if id'=id then Q .normal ρ w F else Q (.exit id') ρ w F
 | e,ρ,w,F=>Q e ρ w F
theorem aO8 (pa:List Bool) {id:Nat} (hk:aF9 (cd c p)=some id) (ha:p++[false]=pa) (h:JD P N C (cd c pa) K H (aLo id Q)):JD P N C (cd c p) K H Q:=by
 subst ha;rw[zfB] at h;cases hc:cd c p<;>rw[hc] at hk h<;>simp[aF9] at hk
 simp only[cd,zgb] at h;subst hk;refine⟨λa w F ok hk g=>?_⟩;refine wp_block (wp_mono (h.out a w F ok hk g) ?_);rintro e a' w' ⟨ok',F',hq⟩;cases e with
 | exit id'=>
  simp only[Exit.inBlock,aLo] at hq ⊢;split
  · rename_i e;rw[aB e] at hq;exact⟨ok',F',hq⟩
  rename_i e;rw[aA e] at hq;exact⟨ok',F',hq⟩
 | normal=>exact⟨ok',F',hq⟩
 | goto k=>exact⟨ok',F',hq⟩
 | ret=>exact⟨ok',F',hq⟩
 | panic ch=>exact⟨ok',F',hq⟩
 | outgrown=>exact⟨ok',F',hq⟩
def a2c {G:Type} (C:Ctx) (L:G->Kd) (HI:G->List Hp) (I:G->Prop) (μ:G->Nat) (g:G) (Q:zb0):zb0
 | .normal,ρ,w,F=>∃ g',KOk w F ρ (L g')/\Good C (HI g') w F/\I g'/\μ g'<μ g
 | e,ρ,w,F=>Q e ρ w F
theorem aTk {G:Type} (L:G->Kd) (HI:G->List Hp) (I:G->Prop) (μ:G->Nat) (pa:List Bool) (g:G) (hk:aBz (cd c p)=true) (ha:p++[false]=pa) (hs:SubK (L g) K) (hH:HSub H (HI g)) (hI:I g)
 (h:∀ g,I g->JD P N C (cd c pa) (L g) (HI g) (a2c C L HI I μ g Q)):JD P N C (cd c p) K H Q:=by
 subst ha;rw[zfB] at h;cases hc:cd c p<;>rw[hc] at hk h<;>simp[aBz] at hk
 rename_i c';simp only[cd,zgb] at h;refine⟨λa w F ok hk gd=>?_⟩;have key:∀ n,∀ a w F,Ok N a->(∃ g,KOk w F (zZ a) (L g)/\Good C (HI g) w F/\I g/\μ g=n)->∀ (b:Frame) (k:List Item) (cs:List Frame),
  ∃ e a' w',(Ok N a'/\∃ F',Q e (zZ a') w' F')/\Arrives P (lone (b.at a (.code c'::.inLoop c'::k)) cs w) b k cs e a' w':=by
  intro n
  induction n using Nat.strongRecOn with
  | _ n ih=>
   rintro a w F ok ⟨g,hk,gd,hI,hμ⟩ b k cs;obtain ⟨e,a1,w1,hq,harr⟩:=(h g hI).out a w F ok hk gd b (.inLoop c'::k) cs;cases e with
   | normal=>
    obtain ⟨ok1,F1,g',hk',gd',hI',hlt⟩:=hq;obtain ⟨e2,a2,w2,hq2,harr2⟩:=ih (μ g') (hμ ▸ hlt) a1 w1 F1 ok1 ⟨g',hk',gd',hI',rfl⟩ b k cs;exact⟨e2,a2,w2,hq2,.of_steps (Steps.trans harr (.one step_inLoop)) harr2⟩
   | exit id=>exact⟨_,a1,w1,hq,.pass (x:=.inLoop c') rfl (λ_ _=>.inl (by simp)) harr⟩
   | goto l=>exact⟨_,a1,w1,hq,.pass (x:=.inLoop c') rfl (λ_ _=>.inl (by simp)) harr⟩
   | ret=>exact⟨_,a1,w1,hq,.pass (x:=.inLoop c') rfl (λ_ _=>.inl (by simp)) harr⟩
   | panic ch=>exact⟨_,a1,w1,hq,.pass (x:=.inLoop c') rfl (λ_ _=>.inl (by simp)) harr⟩
   | outgrown=>exact⟨_,a1,w1,hq,.pass (x:=.inLoop c') rfl (λ_ _=>.inl (by simp)) harr⟩
 intro b k cs;obtain ⟨e,a',w',hq,harr⟩:=key (μ g) a w F ok ⟨g,hs.out hk,hH.out _ _ _ gd,hI,rfl⟩ b k cs;exact⟨e,a',w',hq,.of_steps (.one step_loop) harr⟩
end code
structure Pu (P:Program) (op:Op) (ty:TypeId) (K:Kd) (H:List Hp) (d:D):Prop where
 out:∀ ρ w F,KOk w F ρ K->(∀ b,F b->b<w.heap.size)->(∀ h∈H,h.ok w F)->EOp P op ty ρ w (λu w'=>w'=w/\D.rep w F d u)
structure Ef (P:Program) (op:Op) (ty:TypeId) (K:Kd) (H:List Hp) (R:D->List Hp->Prop):Prop where
 out:∀ C ρ w F,KOk w F ρ K->Good C H w F->EOp P op ty ρ w (λu w'=>∃ F' d H',R d H'/\D.rep w' F' d u/\Good C H' w' F'/\Keep w F w' F')
section ops
variable {P:Program} {N:Nat} {C:Ctx} {K:Kd} {H:List Hp} {ops:List Oper} {i:Nat} {Kt:Env->World->(Nat->Prop)->Prop}
structure OpsD (P:Program) (N:Nat) (C:Ctx) (ops:List Oper) (i:Nat) (K:Kd) (H:List Hp) (Kt:Env->World->(Nat->Prop)->Prop):Prop where
 out:∀ a w F,Ok N a->KOk w F (zZ a) K->Good C H w F->wpOps P ops.toArray (λe a' w'=>e=.normal/\Ok N a'/\∃ F',Kt (zZ a') w' F') (List.range' i (ops.length-i)) a w
theorem OpsD.fact {φ:Prop} (hf:∀ w F ρ,KOk w F ρ K->Good C H w F->φ) (h:φ->OpsD P N C ops i K H Kt):OpsD P N C ops i K H Kt:=⟨λa w F ok hk g=>(h (hf w F _ hk g)).out a w F ok hk g⟩
theorem xN {t:Option Tmp} {op:Op} {ty:TypeId} {R:D->List Hp->Prop} (ho:opAt ops i=some (t,op,ty,none)) (hd:dok N t=true) (h:Ef P op ty K H R)
 (next:∀ d H',R d H'->OpsD P N C ops (i+1) (upK K t d) H' Kt):OpsD P N C ops i K H Kt:=by
 refine⟨λa w F ok hk g=>?_⟩;obtain ⟨o,h1,h2,h3,h4,h5⟩:=zbT ho;have hlt:i<ops.length:=by
  rcases c8 i ops.length with hl | hl
  · exact hl
  simp[j5 hl] at h1
 rw[show ops.length-i=(ops.length-(i+1))+1 by omega,wJ];simp only[wpOps,h1];rw[aB (by unfold Region.wanted;rw[h5])];left;apply zc8;rw[h3,h4,h2];refine(h.out C _ w F hk g).mono ?_;rintro v w' ⟨F',d,H',hR,hrep,g',k⟩;exact(next d H' hR).out _ w' F' (ok.put t v) (by rw[zdi ok hd];exact(hk.keep k).upd t hrep) g'
theorem Pu.ef {op:Op} {ty:TypeId} {d:D} (h:Pu P op ty K H d):Ef P op ty K H (λd' H'=>d'=d/\H'=H):=
 ⟨λ_ ρ w F hk g=>(h.out ρ w F hk g.flt g.h.ok).mono λ_ _ ⟨e,hr⟩=>by subst e;exact⟨F,d,H,⟨rfl,rfl⟩,hr,g,wW⟩⟩
theorem Ef.mono {op:Op} {ty:TypeId} {R R':D->List Hp->Prop} (h:Ef P op ty K H R) (hR:∀ d H',R d H'->R' d H'):Ef P op ty K H R':=
 ⟨λC ρ w F hk g=>(h.out C ρ w F hk g).mono λ_ _ ⟨F',d,H',h1,h2⟩=>⟨F',d,H',hR _ _ h1,h2⟩⟩
theorem zgM {t:Tmp} {op:Op} {ty:TypeId} {d:D} (ho:opAt ops i=some (some t,op,ty,none)) (hd:Nat.blt t N=true) (h:Pu P op ty K H d)
 (next:OpsD P N C ops (i+1) ((t,d)::K) H Kt):OpsD P N C ops i K H Kt:=
 xN ho hd h.ef λ_ _ ⟨e1,e2⟩=>by subst e1;subst e2;exact next
theorem aNa {j:Nat} {want:Bool} {u:Value} {t:Option Tmp} {op:Op} {ty:TypeId} {s:Tmp} {R:D->List Hp->Prop}
 (ho:opAt ops i=some (t,op,ty,some (j,want))) (hd:dok N t=true) (hj:zax ops j=some s) (hs:Nat.blt s N=true) (hb:zX K s=some (.v u)) (h:Ef P op ty K H R)
 (hrun:nb u=some want->∀ d H',R d H'->OpsD P N C ops (i+1) (upK K t d) H' Kt)
 (hskip:nb u≠some want->OpsD P N C ops (i+1) (upK K t (.v undef)) H Kt):OpsD P N C ops i K H Kt:=by
 refine⟨λa w F ok hk g=>?_⟩;obtain ⟨o,h1,h2,h3,h4,h5⟩:=zbT ho;have hlt:i<ops.length:=by
  rcases c8 i ops.length with hl | hl
  · exact hl
  simp[j5 hl] at h1
 have hy:yielded ops.toArray a.tmps j=nb u:=by
  have he:zZ a s=u:=hk s _ hb;have hts:s<a.tmps.size:=by rw[ok.1];exact zaS.1 hs
  have hg:a.tmps[s]?=some u:=by
   simp only[zZ,jM] at he;rw[uW hts] at he ⊢;simpa using he
  unfold yielded;unfold zax at hj;cases hn:nth ops j with
  | none=>rw[hn] at hj;cases hj
  | some oj=>
   rw[hn] at hj;have:ops.toArray[j]?=some oj:=(by rw[zbp] at hn;simpa using hn);rw[this];simp only[wK,hj,hg];cases u<;>rfl
 rw[show ops.length-i=(ops.length-(i+1))+1 by omega,wJ];simp only[wpOps,h1];by_cases e:nb u=some want
 · rw[aB (by unfold Region.wanted;rw[h5];simp[hy,e])];left;apply zc8;rw[h3,h4,h2];refine(h.out C _ w F hk g).mono ?_;rintro v w' ⟨F',d,H',hR,hrep,g',k⟩;exact(hrun e d H' hR).out _ w' F' (ok.put t v) (by rw[zdi ok hd];exact(hk.keep k).upd t hrep) g'
 rw[aA (by unfold Region.wanted;rw[h5];simp[hy,e]),h2];exact(hskip e).out _ w F (ok.put t undef) (by rw[zdi ok hd];exact hk.upd t rfl) g
theorem aIt {j:Nat} {want:Bool} {t:Option Tmp} {op:Op} {ty:TypeId} {s:Tmp} {R:D->List Hp->Prop} (ho:opAt ops i=some (t,op,ty,some (j,want))) (hd:dok N t=true) (hj:zax ops j=some s) (hs:Nat.blt s N=true) (hb:zX K s=some (.v (.bool want))) (h:Ef P op ty K H R)
 (next:∀ d H',R d H'->OpsD P N C ops (i+1) (upK K t d) H' Kt):OpsD P N C ops i K H Kt:=
 aNa ho hd hj hs hb h (λ_=>next) (λhne=>aH rfl hne)
theorem qJ {j:Nat} {want:Bool} {t:Option Tmp} {op:Op} {ty:TypeId} {s:Tmp} {u:Value} (ho:opAt ops i=some (t,op,ty,some (j,want))) (hd:dok N t=true) (hj:zax ops j=some s) (hs:Nat.blt s N=true) (hb:zX K s=some (.v u)) (hu:nb u≠some want)
 (next:OpsD P N C ops (i+1) (upK K t (.v undef)) H Kt):OpsD P N C ops i K H Kt:=by
 refine⟨λa w F ok hk g=>?_⟩;obtain ⟨o,h1,h2,h3,h4,h5⟩:=zbT ho;have hlt:i<ops.length:=by
  rcases c8 i ops.length with hl | hl
  · exact hl
  simp[j5 hl] at h1
 have hy:yielded ops.toArray a.tmps j=nb u:=by
  have he:zZ a s=u:=hk s _ hb;have hts:s<a.tmps.size:=by rw[ok.1];exact zaS.1 hs
  have hg:a.tmps[s]?=some u:=by
   simp only[zZ,jM] at he;rw[uW hts] at he ⊢;simpa using he
  unfold yielded;unfold zax at hj;cases hn:nth ops j with
  | none=>rw[hn] at hj;cases hj
  | some oj=>
   rw[hn] at hj;have:ops.toArray[j]?=some oj:=(by rw[zbp] at hn;simpa using hn);rw[this];simp only[wK,hj,hg];cases u<;>rfl
 rw[show ops.length-i=(ops.length-(i+1))+1 by omega,wJ];simp only[wpOps,h1];rw[aA (by unfold Region.wanted;rw[h5];simp[hy,hu]),h2];exact next.out _ w F (ok.put t undef) (by rw[zdi ok hd];exact hk.upd t rfl) g
theorem aF1 {c:Code} {Q:zb0} (hc:zdY c=some false) (h:OpsD P N C (zbw c) 0 K H (λρ w F=>Q .normal ρ w F)):JD P N C c K H Q:=by
 cases c<;>simp[zdY] at hc
 rename_i id ops draw;subst hc;refine⟨λa w F ok hk g=>?_⟩;have:=h.out a w F ok hk g;simp only[zbw,Array.toArray_toList,Nat.sub_zero,vN] at this;refine wp_region ?_;rw[uK];refine zbd ?_ _ _ _ this;rintro e a' w' ⟨rfl,h1,h2⟩;exact⟨h1,h2⟩
end ops
structure CD (P:Program) (f:FuncId) (H:List Hp) (ds:List D) (R:D->List Hp->Prop):Prop where
 out:∀ w F vs,D.repA w F ds vs->(∀ b,F b->b<w.heap.size)->HOk w F (λ_=>True) H->
  Calls P f vs.toArray w (Ret λres w'=>∃ F' r H',R r H'/\D.rep w' F' r res/\Good ⟨w,blks H,F⟩ H' w' F')
def qret (P:Program) (fn:Func) (C:Ctx) (R:D->List Hp->Prop):zb0
 | .normal,ρ,w,_=>∀ tmps:Array Value,(∀ t,tmps.getD t undef=ρ t)->∃ v,(results fn tmps).run P w=.ok v w/\∃ F' r H',R r H'/\D.rep w F' r v/\Good C H' w F'
 | .ret,ρ,w,_=>∀ tmps:Array Value,(∀ t,tmps.getD t undef=ρ t)->∃ v,(results fn tmps).run P w=.ok v w/\∃ F' r H',R r H'/\D.rep w F' r v/\Good C H' w F'
 | _,_,_,_=>False
def zgI (i:Nat):List D->Kd
 | []=>[]
 | v::r=>(i,v)::zgI (i+1) r
theorem lX {w:World} {F:Nat->Prop}:∀ (ds:List D) (vs:List Value) (i t:Nat) (d:D),D.repA w F ds vs->zX (zgI i ds) t=some d->i<=t/\∃ u,vs[t-i]?=some u/\D.rep w F d u
 | [],_,i,t,d,_,h=>by simp[zgI,zX] at h
 | x::r,_,i,t,d,⟨u,us,rfl,hr,hrs⟩,h=>by
  simp only[zgI,zX] at h;by_cases e:t=i
  · subst e;rw[show Nat.beq t t=true from j0 t] at h;simp only[cond_true,c6] at h;subst h;exact⟨cU _,u,by simp,hr⟩
  rw[zcL e] at h;obtain ⟨h1,v,h2,h3⟩:=lX r us (i+1) t d hrs h;refine⟨by omega,v,?_,h3⟩;rw[show t-i=(t-(i+1))+1 by omega];simpa using h2
theorem mF {H:List Hp} {w:World} {F:Nat->Prop} (hF:∀ b,F b->b<w.heap.size) (h:HOk w F (λ_=>True) H):Good ⟨w,blks H,F⟩ H w F where
 size:=cU _
 os:=rfl
 tape:=rfl
 output:=rfl
 drawn:=Dr.rfl' _
 frame:=λ_ _ _=>rfl
 fsub:=λ_ h=>h
 fnew:=λ_ h=>.inl h
 flt:=hF
 h:=⟨h.apart,h.ok,λg hg=>⟨.inr hg,(h.mine g hg).2⟩⟩
theorem aOf {P:Program} {f:FuncId} {fn:Func} {N:Nat} {H:List Hp} {ds:List D} {R:D->List Hp->Prop} (hf:P.funcs[f]?=some fn) (hb:fn.body.isSome=true) (hN:fn.ntmps=N) (hs:Nat.ble ds.length N=true)
 (h:∀ C,JD P N C (cd (zaH fn) []) (zgI 0 ds) H (qret P fn C R)):CD P f H ds R:=by
 refine⟨λw F vs hvs hF hH=>?_⟩;cases hbody:fn.body with
 | none=>rw[hbody] at hb;cases hb
 | some c=>
  have hs':=dV hs;have hl:=hZ hvs;refine calls_of_wp hf hbody ?_;have hc:cd (zaH fn) []=c:=by
   have:zaH fn=c:=(by unfold zaH;rw[hbody];rfl);rw[this];cases c<;>rfl
  have h':=h ⟨w,blks H,F⟩;rw[hc] at h';refine wp_mono (h'.out _ w F ⟨by simp[hN];omega,rfl⟩ ?_ (mF hF hH)) ?_
  · intro t d hd;obtain ⟨_,u,h2,h3⟩:=lX ds vs 0 t d hvs hd;have:zZ { tmps:=vs.toArray++Array.replicate (fn.ntmps-vs.toArray.size) undef,defers:=[] } t=u:=by
     simp only[zZ,jM];rw[Array.getElem?_append_left (by simpa using (dJ.1 h2).1)];simp only[Nat.sub_zero] at h2;simp[h2]
    first | exact this ▸ h3 | (rw[show zZ _ t=u from this];exact h3)
  rintro e a' w' ⟨ok,F',hq⟩;cases e with
  | normal=>
   obtain ⟨v,h1,F2,r,H',h2⟩:=hq a'.tmps (λ_=>rfl);exact⟨ok.2,v,h1,v,rfl,F2,r,H',h2⟩
  | ret=>
   obtain ⟨v,h1,F2,r,H',h2⟩:=hq a'.tmps (λ_=>rfl);exact⟨ok.2,v,h1,v,rfl,F2,r,H',h2⟩
  | _=>exact hq.elim
end Lp
