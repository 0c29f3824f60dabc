import Derived.Test.YtheccaeefigajaaGreatDoorRows
import Derived.ProofKit
import Derived.LaidMore
import Derived.OpenShut
import Derived.Stop.Joined
import Derived.Test.YtheccaeefigajaaGreatDoorProg
import Derived.Test.YtheccaeefigajaaGreatDoorDT3
set_option linter.unusedSimpArgs false
set_option linter.unusedVariables false
namespace Lp
open Go Go.RowKit Go.Proofs
theorem aFv {H:Type} {enc:TypeId×Value->H} {P:Program} {w:World} {base:Nat} {spare:Nat->Bool} {held:Bool} {fuel n:Nat} {t e:TypeId} {k:IntKind} {cs:List Value} {zs:List Int} {q:List MemPlace}
 (hu:P.underlying t=some (.array n e)) (he:P.underlying e=some (.int k)) (hc:P.cellsOf e=1) (hct:P.cellsOf t=n) (h:DataW.trod enc P w base spare held fuel t cs=some (.agg (zs.map λz=>.lit (.int k z)),q)):cs=zs.map (Value.int k):=by
 obtain ⟨xs,m,rfl,hx,hlen,hn,hel⟩:=DataW.trod_array hu h;have hx1:zs.map (λz=>(DataW.lit (.int k z):DataW H))=xs.map (λx=>x.1):=by
  have:=aG Prod.fst hx;injection this
 have hl:=aG List.length hx1;rw[cV,cV] at hl;apply List.ext_getElem?;intro i;rcases c8 i n with hi | hi
 · have h1:=hel i hi;rw[hc,Nat.mul_one,dO (by omega)] at h1;obtain ⟨z,e1,e2,_⟩:=DataW.trod_int he h1;have a1:cs[i]?=some (.int k z):=by
    have:=aG (λl=>l[0]?) e1;simp only[List.getElem?_take,uU] at this;simpa using this
   have a2:zs[i]?=some z:=by
    have:=aG (λl=>l[i]?) hx1;simp only[uE] at this;rw[dO (show i<xs.length by omega),e2] at this;cases e3:zs[i]? with
    | none=>rw[e3] at this;cases this
    | some y=>rw[e3] at this;injection this with this;injection this with this;injection this with _ this;rw[this]
   rw[a1,uE,a2];rfl
 rw[j5 (by omega),j5 (by rw[cV];omega)]
theorem nM {H:Type} {enc:TypeId×Value->H} {P:Program} {w:World} {base:Nat} {spare:Nat->Bool} {held:Bool} {fuel:Nat} {t:TypeId} {cs:List Value} {x:DataW H×List MemPlace} {ms:TypeDesc}
 (hu:P.underlying t=some ms) (hm:∃ mm,ms=.interface mm) (h:DataW.trod enc P w base spare held fuel t cs=some x):∃ ev,cs=[ev]/\EvOk ev:=by
 obtain ⟨mm,rfl⟩:=hm;cases fuel with
 | zero=>exact aH h (by show ¬(none=some x);simp)
 | succ fuel=>
  rw[DataW.trod_step] at h;unfold DataW.trodStep at h;rw[hu] at h;split at h<;>simp_all [EvOk]
theorem pM {P:Program} {w:World} {name:String} {g:Nat} {cs:Array Value} (hg:P.globalNamed name=some g) (h:World.var? P w name=some cs):∃ T fr,w.heap[g]?=some (.cells cs T fr):=by
 unfold World.var? at h;rw[hg] at h;have h:(match w.heap[g]? with | some (.cells cs _ _)=>some cs | _=>none)=some cs:=h;split at h
 · rename_i a b c e;injection h with h;subst h;exact⟨_,_,e⟩
 cases h
theorem aW0 {W:World} (h:laidMetH Tryz.prog Go.Proofs.YtheccaeefigajaaGreatDoor.Rows.kindTellsRow.laid W):∃ ev es,EvOk ev/\EvOk es/\(∃ T fr,W.heap[0]?=some (.cells ze1 T fr))/\(∃ T fr,W.heap[2]?=some (.cells #[ev] T fr))/\(∃ T fr,W.heap[1]?=some (.cells #[es] T fr)):=by
 rw[MakeChecks.laidMetH_plain _ _ _ (by kernel_rfl)] at h;obtain ⟨ps,⟨g0,t0,cs0,f0,p0,q0,hg0,ht0,hv0,hd0,⟨g1,t1,cs1,f1,p1,q1,hg1,ht1,hv1,hd1,⟨g2,t2,cs2,f2,p2,q2,hg2,ht2,hv2,hd2,⟨g3,t3,cs3,f3,p3,q3,hg3,ht3,hv3,hd3,⟨g4,t4,cs4,f4,p4,q4,hg4,ht4,hv4,hd4,_⟩,_⟩,_⟩,_⟩,_⟩,_,_⟩:=h;obtain rfl:0=g2:=u7 ((show Tryz.prog.globalNamed _=some 0 by kernel_rfl).symm.trans hg2);obtain rfl:2=g3:=u7 ((show Tryz.prog.globalNamed _=some 2 by kernel_rfl).symm.trans hg3);obtain rfl:1=g4:=u7 ((show Tryz.prog.globalNamed _=some 1 by kernel_rfl).symm.trans hg4);have a4:Tryz.prog.globals[1]?.map (·.type)=some t4:=ht4;obtain rfl:=u7 ((show Tryz.prog.globals[1]?.map (·.type)=some 202 by kernel_rfl).symm.trans a4);obtain ⟨es,e4,hes⟩:=nM Tryz.underlying202 ⟨_,rfl⟩ hd4;have a2:Tryz.prog.globals[0]?.map (·.type)=some t2:=ht2;have a3:Tryz.prog.globals[2]?.map (·.type)=some t3:=ht3;obtain rfl:=u7 ((show Tryz.prog.globals[0]?.map (·.type)=some 240 by kernel_rfl).symm.trans a2);obtain rfl:=u7 ((show Tryz.prog.globals[2]?.map (·.type)=some 202 by kernel_rfl).symm.trans a3);obtain ⟨ev,e3,hev⟩:=nM Tryz.underlying202 ⟨_,rfl⟩ hd3;have e2:=aFv (n:=20) (e:=222) (zs:=Lib.pow10Tab) (by kernel_rfl) (by kernel_rfl) (by kernel_rfl) (by kernel_rfl) hd2;refine⟨ev,es,hev,hes,?_,?_,?_⟩
 · have:=pM hg2 hv2
   rwa [show cs2=ze1 from jW.1 (by rw[e2];simp[ze1])] at this
 · have:=pM hg3 hv3
   rwa [show cs3=#[ev] from jW.1 (by rw[e3])] at this
 have:=pM hg4 hv4
 rwa [show cs4=#[es] from jW.1 (by rw[e4])] at this
theorem CD.lawT {f:FuncId} {ds:List D} {ev es:Value} (h:CD Tryz.prog f [HPow,HErr ev,HSyn es] ds (λr H'=>r=.v (.bool true)/\H'=[HPow,HErr ev,HSyn es])) {W:World} {vs:List Value} (hr:D.repA W (FA W) ds vs)
 (h1:∃ T fr,W.heap[0]?=some (.cells ze1 T fr)) (h2:∃ T fr,W.heap[2]?=some (.cells #[ev] T fr)) (h3:∃ T fr,W.heap[1]?=some (.cells #[es] T fr)):
 Calls Tryz.prog f vs.toArray W (Ret λu w'=>Ext W w'/\u=.bool true):=by
 have hno:∀ b,¬blks [HPow,HErr ev,HSyn es] b:=λb ⟨x,hx,hb⟩=>by
  rcases dH.1 hx with rfl | hx
  · exact hb
  rcases dH.1 hx with rfl | hx
  · exact hb
  rw[jJ.1 hx] at hb;exact hb
 have hlt:∀ {g:Nat} {o:Obj},W.heap[g]?=some o->g<W.heap.size:=λh=>by
  rcases c8 _ W.heap.size with h' | h'
  · exact h'
  rw[wG h'] at h;cases h
 obtain ⟨T1,f1,e1⟩:=h1;obtain ⟨T2,f2,e2⟩:=h2;obtain ⟨T3,f3,e3⟩:=h3;have hk:HOk W (FA W) (λ_=>True) [HPow,HErr ev,HSyn es]:=⟨by
  refine List.Pairwise.cons (λy _ g hg=>?_) (List.Pairwise.cons (λy _ g hg=>?_) (List.Pairwise.cons (λy hy=>aH hy (by simp)) .nil))
  · exact aH hg (λe=>e)
  · exact aH hg (λe=>e),λx hx=>by
  rcases dH.1 hx with rfl | hx
  · exact⟨hlt e1,T1,f1,e1⟩
  rcases dH.1 hx with rfl | hx
  · exact⟨hlt e2,T2,f2,e2⟩
  rw[jJ.1 hx];exact⟨hlt e3,T3,f3,e3⟩,λg hg=>aH hg (hno g)⟩
 refine(h.out W (FA W) vs hr (λ_ h=>h) hk).mono ?_;rintro e w' ⟨u,rfl,F',d',H',⟨rfl,rfl⟩,hrep,g⟩;have hrep:u=.bool true:=hrep;exact⟨u,rfl,⟨g.os,g.tape,g.output,g.size,λb hb _=>g.frame b hb (hno b),g.drawn⟩,hrep⟩
section
variable {H:Type} {enc:TypeId×Value->H} {w:World} {held:Bool} {sp:Nat->Bool} {n:Nat}
theorem aQv {cs:List Value} {y:DataW H×List MemPlace} (h:DataW.trod enc Tryz.prog w 0 sp held n 9 cs=some y):∃ d:ByteArray,InD w 1 (.s d) cs:=by
 obtain ⟨s0,e0,_,k0⟩:=DataW.trod_string (by kernel_rfl) h;exact⟨s0,by rw[e0];exact InD.one ⟨rfl,k0⟩ rfl⟩
end
end Lp
namespace Lp
open Go Go.RowKit
section
variable {P:Program} {N:Nat} {C:Ctx} {K K2:Kd} {H:List Hp} {ops:List Oper} {i:Nat} {Kt:Env->World->(Nat->Prop)->Prop}
def inL:List Nat->Nat->Bool
 | [],_=>false
 | k::r,t=>bif Nat.beq t k then true else inL r t
def ksK (K:Kd):List Nat:=K.map Prod.fst
theorem aK5:∀ {K:Kd} {t:Nat},inL (ksK K) t=false->zX K t=none
 | [],_,_=>rfl
 | (d,v)::r,t,h=>by
  have h:(bif Nat.beq t d then true else inL (ksK r) t)=false:=h;show (bif Nat.beq t d then some v else zX r t)=none;cases e:Nat.beq t d with
  | true=>rw[e] at h;cases h
  | false=>rw[e] at h;exact aK5 h
def KX (K K2:Kd):Prop:=∀ t d,zX K t=some d->zX K2 t=some d
theorem KX.cons {t:Nat} {d:D} (h:KX K K2) (hf:zX K t=none):KX K ((t,d)::K2):=λq x hq=>by
 show (bif Nat.beq q t then some d else zX K2 q)=some x;cases e:Nat.beq q t with
 | true=>rw[dS e] at hq;rw[hf] at hq;cases hq
 | false=>exact h q x hq
theorem KX.both {t:Nat} {d:D} (h:KX K K2):KX ((t,d)::K) ((t,d)::K2):=λq x hq=>by
 have hq:(bif Nat.beq q t then some d else zX K q)=some x:=hq;show (bif Nat.beq q t then some d else zX K2 q)=some x;cases e:Nat.beq q t with
 | true=>rw[e] at hq;exact hq
 | false=>rw[e] at hq;exact h q x hq
theorem m5 (h:KX K K2) (n:OpsD P N C ops i K H Kt):OpsD P N C ops i K2 H Kt:=⟨λa w F ok hk g=>n.out a w F ok (λt d e=>hk t d (h t d e)) g⟩
theorem kx:∀ (m:Nat) {K K2:Kd},K2.drop m=K->(K2.take m).all (λx=>!inL (ksK K) x.1)=true->KX K K2
 | 0,K,K2,h,_=>λt d e=>by rw[<-h] at e;exact e
 | m+1,K,[],h,_=>λt d e=>by rw[<-h] at e;cases e
 | m+1,K,(t,d)::K2,h,hf=>by
  rw[vO,List.all_cons,cY] at hf;exact(kx m h hf.2).cons (aK5 (by simpa using hf.1))
def skB (ops:List Oper) (N j:Nat) (want:Bool) (ks:List Nat):Nat->Nat->Bool
 | _,0=>true
 | i,n+1=>(match opAt ops i with
  | some (some t,_,_,some (j',w))=>Nat.beq j' j&&(w==want)&&Nat.blt t N&&!inL ks t
  | _=>false)&&skB ops N j want ks (i+1) n
theorem pQ {j s:Nat} {b want:Bool} (hj:zax ops j=some s) (hs:Nat.blt s N=true) (hb:zX K s=some (.v (.bool b))) (hne:b≠want):∀ (n i:Nat),skB ops N j want (ksK K) i n=true->OpsD P N C ops (i+n) K H Kt->OpsD P N C ops i K H Kt
 | 0,i,_,h=>h
 | n+1,i,hk,h=>by
  unfold skB at hk;rw[cY] at hk;obtain ⟨h1,h2⟩:=hk;split at h1
  · rename_i t op ty j' w ho;simp only[cY,vH,beq_iff_eq] at h1;obtain ⟨⟨⟨a1,a2⟩,a3⟩,a4⟩:=h1;have a1:=dS a1;subst a1;subst a2;exact qJ ho a3 hj hs hb (λe=>hne (by injection e)) (m5 (KX.cons (λ_ _ e=>e) (aK5 a4)) (pQ hj hs hb hne n (i+1) h2 (by rw[show i+1+n=i+(n+1) by omega];exact h)))
  cases h1
theorem KX.same {s:Nat} {d:D} (h:zX K s=some d):KX ((s,d)::K) K:=λq x hq=>by
 have hq:(bif Nat.beq q s then some d else zX K q)=some x:=hq;cases e:Nat.beq q s with
 | true=>rw[e] at hq;rw[dS e,h];exact hq
 | false=>rw[e] at hq;exact hq
theorem KX.tail {s:Nat} {d d':D} (h:KX ((s,d)::K) K2) (e:zX K s=some d):KX K K2:=λq x hq=>h q x (by
 show (bif Nat.beq q s then some d else zX K q)=some x;cases e':Nat.beq q s with
 | true=>rw[dS e',e] at hq;exact hq
 | false=>exact hq)
theorem a3s {b c:Bool} (j n:Nat) {s t:Tmp} {y:Operand} {ty:TypeId} (hp:opAt ops (i+n)=some (some t,.pick (.tmp s) (.const (.bool true)) y,ty,none)) (ht:Nat.blt t N=true) (hj:zax ops j=some s) (hs:Nat.blt s N=true) (hb:zX K s=some (.v (.bool b))) (hk:skB ops N j false (ksK K) i n=true)
 (run:b=false->(∀ K2,zX K2 s=some (.v (.bool false))->opD K2 y=some (.v (.bool c))->KX ((s,.v (.bool false))::K) K2->OpsD P N C ops (i+n) K2 H Kt)->OpsD P N C ops i ((s,.v (.bool false))::K) H Kt)
 (next:OpsD P N C ops (i+n+1) ((t,.v (.bool (b||c)))::K) H Kt):OpsD P N C ops i K H Kt:=by
 cases b with
 | true=>exact pQ hj hs hb (by simp) n i hk (zgM hp ht (zeo hb rfl) next)
 | false=>exact m5 (KX.same hb) (run rfl λK2 h1 h2 hx=>zgM hp ht (zdp h1 h2) (m5 (hx.tail (d':=.any) hb).both next))
theorem aYq {b c:Bool} (j n:Nat) {s t:Tmp} {x:Operand} {ty:TypeId} (hp:opAt ops (i+n)=some (some t,.pick (.tmp s) x (.const (.bool false)),ty,none)) (ht:Nat.blt t N=true) (hj:zax ops j=some s) (hs:Nat.blt s N=true) (hb:zX K s=some (.v (.bool b))) (hk:skB ops N j true (ksK K) i n=true)
 (run:b=true->(∀ K2,zX K2 s=some (.v (.bool true))->opD K2 x=some (.v (.bool c))->KX ((s,.v (.bool true))::K) K2->OpsD P N C ops (i+n) K2 H Kt)->OpsD P N C ops i ((s,.v (.bool true))::K) H Kt)
 (next:OpsD P N C ops (i+n+1) ((t,.v (.bool (b&&c)))::K) H Kt):OpsD P N C ops i K H Kt:=by
 cases b with
 | false=>exact pQ hj hs hb (by simp) n i hk (zgM hp ht (zdp hb rfl) next)
 | true=>exact m5 (KX.same hb) (run rfl λK2 h1 h2 hx=>zgM hp ht (zeo h1 h2) (m5 (hx.tail (d':=.any) hb).both next))
end
theorem orF {a b:Bool} (h:(a||b)=false):a=false/\b=false:=by cases a<;>cases b<;>simp at h ⊢
theorem andT {a b:Bool} (h:(a&&b)=true):a=true/\b=true:=by cases a<;>cases b<;>simp at h ⊢
theorem notT {a:Bool} (h:(!a)=true):a=false:=by cases a<;>simp at h ⊢
theorem notF {a:Bool} (h:(!a)=false):a=true:=by cases a<;>simp at h ⊢
end Lp
namespace Lp
open Go Go.RowKit Go.Proofs
theorem mixed:Tryz.prog.follows .mixedOrders=true:=by kernel_rfl
abbrev T':Bool:=true
abbrev F':Bool:=false
abbrev dZ:D:=.v (.slice none 0 0)
abbrev dP (g o:Nat):D:=.v (.pointer (some ⟨g,o,none⟩))
abbrev vS (g n c:Nat):Value:=.slice (some ⟨g,0,none⟩) n c
def cpF {α:Type}:List α->Option (List α)
 | []=>some []
 | x::r=>match cpF r with
  | some l=>some (x::l)
  | none=>none
theorem aRd {α:Type}:∀ {l l':List α},cpF l=some l'->l=l'
 | [],_,h=>by injection h
 | x::r,l',h=>by
  unfold cpF at h;split at h
  · rename_i l hl;injection h with h;rw[<-h,aRd hl]
  cases h
def kpF:List Nat->Kd->Option Kd
 | [],_=>some []
 | t::r,K=>match zX K t with
  | some d=>match kpF r K with
   | some l=>some ((t,d)::l)
   | none=>none
  | none=>none
theorem aGa:∀ {ts:List Nat} {K K':Kd},kpF ts K=some K'->SubK K' K
 | [],_,_,h=>by injection h with h;subst h;trivial
 | t::r,K,K',h=>by
  unfold kpF at h;split at h
  · rename_i d hd;split at h
    · rename_i l hl;injection h with h;subst h;exact⟨⟨d,hd,w7⟩,aGa hl⟩
    cases h
  cases h
theorem sa:∀ {K' K:Kd},K'.map (λp=>zX K p.1)=K'.map (λp=>some p.2)->SubK K' K
 | [],_,_=>trivial
 | (t,d)::r,K,h=>by
  simp only[jS,List.cons.injEq] at h;exact⟨⟨d,h.1,w7⟩,sa h.2⟩
def snF:List Bool->Bool->Option (List Bool)
 | [],b=>some [b]
 | x::r,b=>match snF r b with
  | some l=>some (x::l)
  | none=>none
theorem zec:∀ {p q:List Bool} {b:Bool},snF p b=some q->p++[b]=q
 | [],_,_,h=>by injection h
 | x::r,q,b,h=>by
  unfold snF at h;split at h
  · rename_i l hl;injection h with h;rw[<-h,d9,zec hl]
  cases h
def zgB (K:Kd):Op->Option D
 | .move x=>opD K x
 | .assign x=>opD K x
 | .extract x n=>match opD K x with
  | some (.tup ds)=>nth ds n
  | _=>none
 | .pick c x y=>match opD K c with
  | some (.v (.bool true))=>opD K x
  | some (.v (.bool false))=>opD K y
  | _=>none
 | .unOp .not _ x=>match opD K x with
  | some (.v (.bool true))=>some (.v (.bool false))
  | some (.v (.bool false))=>some (.v (.bool true))
  | _=>none
 | .nilCheck x=>match opD K x with
  | some (.v (.pointer (some a)))=>some (.v (.pointer (some a)))
  | some (.el X o)=>some (.el X o)
  | _=>none
 | _=>none
theorem aN6 {P:Program} {ty:TypeId} {K:Kd} {H:List Hp} {op:Op} {d:D} (h:zgB K op=some d):Pu P op ty K H d:=by
 unfold zgB at h;split at h
 · exact zk h
 · exact aQc h
 · split at h
   · rename_i hx;exact aKp hx h
   cases h
 · split at h
   · rename_i hc;exact zeo hc h
   · rename_i hc;exact zdp hc h
   cases h
 · split at h
   · rename_i hx;injection h with h;subst h;exact zgf (q:=true) hx
   · rename_i hx;injection h with h;subst h;exact zgf (q:=false) hx
   cases h
 · split at h
   · rename_i hx;injection h with h;subst h;exact zN hx
   · rename_i hx;injection h with h;subst h;exact zcI hx
   cases h
 cases h
def oneC (N:Nat) (t:Tmp):Option D->Option (Tmp×D)
 | some d=>bif Nat.blt t N then some (t,d) else none
 | none=>none
def aYj (K:Kd) (want:Bool) (op:Op):Option D->Option D
 | some (.v u)=>match nb u,want with
  | some true,true=>zgB K op
  | some false,false=>zgB K op
  | some true,false=>some (.v undef)
  | some false,true=>some (.v undef)
  | none,_=>some (.v undef)
 | _=>none
def oneD (ops:List Oper) (i N:Nat) (K:Kd):Option (Tmp×D):=
 match opAt ops i with
 | some (some t,op,_,none)=>oneC N t (zgB K op)
 | some (some t,op,_,some (j,want))=>match zax ops j with
  | some s=>bif Nat.blt s N then oneC N t (aYj K want op (zX K s)) else none
  | none=>none
 | _=>none
def opP (ops:List Oper) (i N:Nat):Option (Tmp×Op×TypeId):=match opAt ops i with
 | some (some t,op,ty,none)=>bif Nat.blt t N then some (t,op,ty) else none
 | _=>none
def opE (ops:List Oper) (i N:Nat):Option (Option Tmp×Op×TypeId):=match opAt ops i with
 | some (t,op,ty,none)=>bif dok N t then some (t,op,ty) else none
 | _=>none
def gdF (ops:List Oper) (N:Nat) (K:Kd) (j:Nat) (want:Bool):Bool:=match zax ops j with
 | some s=>match zX K s with
  | some (.v (.bool b))=>Nat.blt s N&&(b==want)
  | _=>false
 | none=>false
def opG (ops:List Oper) (i N:Nat) (K:Kd):Option (Option Tmp×Op×TypeId):=match opAt ops i with
 | some (t,op,ty,some (j,want))=>match dok N t,gdF ops N K j want with
  | true,true=>some (t,op,ty)
  | _,_=>none
 | _=>none
section
variable {P:Program} {N:Nat} {C:Ctx} {K:Kd} {H:List Hp} {ops:List Oper} {i:Nat} {Kt:Env->World->(Nat->Prop)->Prop}
theorem nb_b {u:Value} {b:Bool} (h:nb u=some b):u=.bool b:=by cases u<;>simp[nb] at h;rw[h]
theorem aSd {t:Tmp} {op:Op} {ty:TypeId} (h:opP ops i N=some (t,op,ty)):opAt ops i=some (some t,op,ty,none)/\Nat.blt t N=true:=by
 unfold opP at h;split at h
 · rename_i t' op' ty' ho;cases hb:Nat.blt t' N
   · simp[hb] at h
   simp[hb] at h;obtain ⟨h1,h2,h3⟩:=h;subst h1;subst h2;subst h3;exact⟨ho,hb⟩
 cases h
theorem aSr {t:Option Tmp} {op:Op} {ty:TypeId} (h:opE ops i N=some (t,op,ty)):opAt ops i=some (t,op,ty,none)/\dok N t=true:=by
 unfold opE at h;split at h
 · rename_i t' op' ty' ho;cases hb:dok N t'
   · simp[hb] at h
   simp[hb] at h;obtain ⟨h1,h2,h3⟩:=h;subst h1;subst h2;subst h3;exact⟨ho,hb⟩
 cases h
theorem aZz {t:Option Tmp} {op:Op} {ty:TypeId} (h:opG ops i N K=some (t,op,ty)):∃ j want s,opAt ops i=some (t,op,ty,some (j,want))/\dok N t=true/\zax ops j=some s/\Nat.blt s N=true/\zX K s=some (.v (.bool want)):=by
 unfold opG at h;split at h
 · rename_i t' op' ty' j want ho;split at h
   · rename_i h1 h2;injection h with h;injection h with e1 h;injection h with e2 e3;subst e1;subst e2;subst e3;unfold gdF at h2;split at h2
     · rename_i s hs;split at h2
       · rename_i b hb;simp only[cY,beq_iff_eq] at h2;obtain ⟨h3,h4⟩:=h2;subst h4;exact⟨j,b,s,ho,h1,hs,h3,hb⟩
       cases h2
     cases h2
   cases h
 cases h
theorem oP {t:Tmp} {op:Op} {ty:TypeId} {d:D} (ho:opP ops i N=some (t,op,ty)) (h:Pu P op ty K H d) (k:OpsD P N C ops (i+1) ((t,d)::K) H Kt):OpsD P N C ops i K H Kt:=zgM (aSd ho).1 (aSd ho).2 h k
theorem oE {t:Option Tmp} {op:Op} {ty:TypeId} {R:D->List Hp->Prop} (ho:opE ops i N=some (t,op,ty)) (h:Ef P op ty K H R) (k:∀ d H',R d H'->OpsD P N C ops (i+1) (upK K t d) H' Kt):OpsD P N C ops i K H Kt:=xN (aSr ho).1 (aSr ho).2 h k
theorem oF {t:Option Tmp} {op:Op} {ty:TypeId} {R:D->List Hp->Prop} (ho:opG ops i N K=some (t,op,ty)) (h:Ef P op ty K H R) (k:∀ d H',R d H'->OpsD P N C ops (i+1) (upK K t d) H' Kt):OpsD P N C ops i K H Kt:=by
 obtain ⟨j,want,s,h1,h2,h3,h4,h5⟩:=aZz ho;exact aIt h1 h2 h3 h4 h5 h k
theorem oG {t:Tmp} {op:Op} {ty:TypeId} {d:D} (ho:opG ops i N K=some (some t,op,ty)) (h:Pu P op ty K H d) (k:OpsD P N C ops (i+1) ((t,d)::K) H Kt):OpsD P N C ops i K H Kt:=
 oF ho h.ef λ_ _ ⟨e1,e2⟩=>by subst e1;subst e2;exact k
theorem acs {L:List Hp}:∀ {ds:List D},ArgCs L ds ds
 | []=>.nil
 | _::_=>.cons mJ acs
end
section
variable {P:Program} {N:Nat} {C:Ctx} {K:Kd} {H:List Hp} {ops:List Oper} {i:Nat} {Kt:Env->World->(Nat->Prop)->Prop} {Q:zb0}
end
theorem cS {b:ByteArray} (h:b.size<=maxLen:=by first | decide | (unfold maxLen;omega)):Cv (.v (.string b)) (.s b):=Cv.str h
theorem cB {a b:Bool} (h:a=b):Cv (.v (.bool a)) (.v (.bool b)):=Cv.eq (aG (λb=>D.v (.bool b)) h)
abbrev FaP (P:Program) (t:TypeId) (f k:Nat):Prop:=∀ (b o:Nat) w,(Instr.fieldAt t (.pointer (some ⟨b,o,none⟩)) f).run P w=.ok (.pointer (some ⟨b,o+k,none⟩)) w
abbrev IzP (P:Program) (t:TypeId) (z:Value) (n b:Nat):Prop:=∃ i,P.info? t=some i/\i.zero=some z/\i.size=n/\i.bytes=b
abbrev BdP (P:Program) (fs:Array Field) (l:List (Nat×Nat)):Prop:=∀ w,((fs.mapM λf=>do pure (f.offset,<-Go.sizeOf f.type):Sem (Array (Nat×Nat)))).run P w=.ok l.toArray w
section
variable {P:Program} {N:Nat} {C:Ctx} {K:Kd} {H:List Hp} {Q:zb0} {c:Code} {p pa pb:List Bool}
def cnF (c:Code) (p:List Bool) (K:Kd):Option (List Bool×List Bool×D):=match zgr (cd c p),snF p false,snF p true with
 | some x,some a,some b=>match opD K x with
  | some d=>some (a,b,d)
  | none=>none
 | _,_,_=>none
theorem jC {t:Bool} (h:cnF c p K=some (pa,pb,.v (.bool t))) (ht:t=true->JD P N C (cd c pa) K H Q) (hf:t=false->JD P N C (cd c pb) K H Q):JD P N C (cd c p) K H Q:=by
 unfold cnF at h;split at h
 · rename_i x a b h1 h2 h3;split at h
   · rename_i d hd;injection h with h;injection h with e1 h;injection h with e2 e3;subst e1;subst e2;subst e3;exact yK _ _ h1 (zec h2) (zec h3) hd ht hf
   cases h
 cases h
theorem jD {φ:Prop} {_:Decidable φ} (h:cnF c p K=some (pa,pb,.v (.bool (decide φ)))) (ht:φ->JD P N C (cd c pa) K H Q) (hf:¬φ->JD P N C (cd c pb) K H Q):JD P N C (cd c p) K H Q:=
 jC h (λe=>ht (aF e)) (λe=>hf (aC e))
def lpF (c:Code) (p:List Bool):Option (List Bool):=match aBz (cd c p),snF p false with
 | true,some a=>some a
 | _,_=>none
theorem aR4 (h:lpF c p=some pa):aBz (cd c p)=true/\p++[false]=pa:=by
 unfold lpF at h;split at h
 · rename_i h1 h2;injection h with h;subst h;exact⟨h1,zec h2⟩
 cases h
end
theorem bA (a b:Bool):((a&&b)=true)=(a=true/\b=true):=cY a b
theorem bB (a b:Bool):((a||b)=true)=(a=true\/b=true):=d7 a b
theorem bC (b:Bool):((!b)=true)=(b=false):=vH b
theorem bD (b:Bool):((!b)=false)=(b=true):=Bool.not_eq_false' b
theorem bE (a b:Bool):((a&&b)=false)=(a=false\/b=false):=by cases a<;>cases b<;>simp
theorem bF (a b:Bool):((a||b)=false)=(a=false/\b=false):=by cases a<;>cases b<;>simp
theorem bG (p:Prop) [Decidable p]:(decide p=true)=p:=aI
theorem bH (p:Prop) [Decidable p]:(decide p=false)=¬p:=by simp
theorem bI (p:Prop) [Decidable p]:(¬¬p)=p:=by simp
theorem bJ {α:Sort _} (a b:α):(a≠b)=¬a=b:=rfl
theorem bX:(∀ a b:Bool,((a&&b)=true)=(a=true/\b=true))/\(∀ a b:Bool,((a||b)=true)=(a=true\/b=true))/\(∀ a:Bool,((!a)=true)=(a=false))/\(∀ a:Bool,((!a)=false)=(a=true))/\(∀ a b:Bool,((a&&b)=false)=(a=false\/b=false))/\(∀ a b:Bool,((a||b)=false)=(a=false/\b=false))/\(∀ (p:Prop) [Decidable p],(decide p=true)=p)/\(∀ (p:Prop) [Decidable p],(decide p=false)=¬p)/\(∀ (p:Prop) [Decidable p],(¬ ¬p)=p):=
 ⟨bA,bB,bC,bD,bE,bF,bG,bH,bI⟩
theorem la {α:Type} {a b:List α}:(a++b).length=a.length+b.length:=c7
theorem lc {α:Type} {a:α} {b:List α}:(a::b).length=b.length+1:=dD
theorem ln {α:Type}:([]:List α).length=0:=jE
theorem lm {α β:Type} {a:List α} {f:α->β}:(a.map f).length=a.length:=cV f
theorem lt' {α:Type} {n:Nat} {a:List α}:(a.take n).length=min n a.length:=d6
theorem ld {α:Type} {n:Nat} {a:List α}:(a.drop n).length=a.length-n:=cZ
theorem ls {α:Type} {n:Nat} {a:List α} {x:α}:(a.set n x).length=a.length:=vT
theorem lr {α:Type} {n:Nat} {x:α}:(List.replicate n x).length=n:=List.length_replicate
theorem O {α:Sort _} {a:α}:a=a:=rfl
theorem ga {L:List Hp} {a b:List D} {d:D} (h:ArgCs L a b):ArgCs L (d::a) (d::b):=.cons mJ h
theorem gc {a b:List D} {d:D} (h:CvL a b):CvL (d::a) (d::b):=.cons w7 h
abbrev cC:D:=.v (.string ByteArray.empty)
abbrev cD:Value:=.agg #[(.int .i64 0),(.int .i64 0),(.string ByteArray.empty)]
abbrev cE:Value:=.agg #[(.string ByteArray.empty),(.string ByteArray.empty),(.int .i64 0),(.int .i64 0),(.slice none 0 0),(.slice none 0 0),(.slice none 0 0),(.int .i64 0),(.int .i64 0),(.int .i64 0)]
abbrev cF:Value:=.agg #[(.bool false),(.bool false),(.slice none 0 0)]
abbrev cG:Value:=.agg #[(.bool false),(.bool false),(.slice none 0 0),(.bool false),(.int .i64 0),(.int .i64 0)]
abbrev cH:Value:=.agg #[(.string ByteArray.empty),(.int .i64 0),(.string ByteArray.empty),(.pointer none)]
abbrev cI:Value:=.agg #[(.int .i64 0),(.int .i32 0),(.slice none 0 0),(.slice none 0 0),(.bool false),(.int .i64 0),(.int .i64 0),(.int .i64 0),(.bool false)]
abbrev cJ:Value:=.agg #[.nilIface,(.bool false),(.bool false)]
abbrev cK:Value:=.agg #[(.int .i64 0)]
abbrev cL:Value:=.agg #[(.pointer none),(.slice none 0 0)]
abbrev cM:Value:=.agg #[.nilFunc]
abbrev cN:D:=.agg [cC,cC,dI 0,dI 0,dZ,dZ,dZ,dI 0,dI 0,dI 0]
abbrev cO:D:=.agg [.any,.any,.any,.any,.any,.any,.any,.any,.any]
abbrev cP:D:=.agg [dB false,dB false,dZ]
abbrev aK:=@Tryz.runUnderlying9
abbrev aL:=@Tryz.runUnderlying23
abbrev aM:=@Tryz.runUnderlying25
abbrev aN:=@Tryz.sizeOf27
abbrev aO:=@Tryz.runUnderlying67
abbrev aP:=@Tryz.sizeOf135
abbrev aQ:=@Tryz.runUnderlying135
abbrev aR:=@Tryz.zeroValue135
abbrev aS:=@Tryz.runUnderlying103
abbrev aT:=@Tryz.sizeOf9
abbrev aU:=@Tryz.runUnderlying24
abbrev aV:=@Tryz.runUnderlying130
abbrev aW:=@Tryz.isAgg27
abbrev aX:=@Tryz.zeroValue9
abbrev aY:=@Tryz.isAgg135
abbrev aZ:=@Tryz.zeroValue27
abbrev bK:=@Tryz.runUnderlying27
abbrev bL:=@Tryz.runUnderlying310
abbrev bM:=@Tryz.isAgg9
abbrev bN:=@Tryz.zeroValue5
abbrev bO:=@Tryz.sizeOf5
abbrev bP:=@Tryz.runUnderlying304
abbrev bQ:=@Tryz.sizeOf65
abbrev bR:=@Tryz.runUnderlying29
abbrev bS:=@Tryz.isAgg4
abbrev bT:=@Tryz.runUnderlying306
abbrev bU:=@Tryz.runUnderlying315
abbrev bV:=@Tryz.runUnderlying308
abbrev bW:=@Tryz.isAgg3
abbrev bY:=@Tryz.sizeOf21
abbrev bZ:=@Tryz.zeroValue308
abbrev eB:=@Tryz.sizeOf29
abbrev eC:=@Tryz.zeroValue29
abbrev eD:=@Tryz.runUnderlying271
abbrev eE:=@Tryz.isAgg130
abbrev eF:=@Tryz.isAgg29
abbrev eG:=@Tryz.zeroValue306
abbrev eH:=@Tryz.zeroValue315
abbrev eI:=@Tryz.sizeOf20
end Lp
