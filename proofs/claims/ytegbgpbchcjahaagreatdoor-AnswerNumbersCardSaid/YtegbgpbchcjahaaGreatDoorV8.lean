import Derived.Lib.MakeNoZero
import Derived.Test.YtegbgpbchcjahaaGreatDoorDV
set_option linter.all false
namespace Lp
open Go Go.RowKit Go.Proofs Tryz
section
variable {P:Program} {fn:Func} {C:Ctx} {κ:Kc} {K:Kd} {H:List Hp} {p pa pb:List Bool} {i:Nat}
abbrev ops' (fn:Func) (p:List Bool):List Oper:=zaL (cd (zap fn) p)
def tP {t:Tmp} {op:Op} {ty:TypeId} {d:D} (ho:opP (ops' fn p) i fn.ntmps=some (t,op,ty)) (h:Pu P op ty K H d) (k:T P fn C (.o p (i+1)) κ ((t,d)::K) H):T P fn C (.o p i) κ K H:=⟨oP ho h k.out⟩
def tG {t:Tmp} {op:Op} {ty:TypeId} {d:D} (ho:opG (ops' fn p) i fn.ntmps K=some (some t,op,ty)) (h:Pu P op ty K H d) (k:T P fn C (.o p (i+1)) κ ((t,d)::K) H):T P fn C (.o p i) κ K H:=⟨oG ho h k.out⟩
def tE {t:Option Tmp} {op:Op} {ty:TypeId} {R:D->List Hp->Prop} (ho:opE (ops' fn p) i fn.ntmps=some (t,op,ty)) (h:Ef P op ty K H R) (k:∀ d H',R d H'->T P fn C (.o p (i+1)) κ (upK K t d) H'):T P fn C (.o p i) κ K H:=⟨oE ho h λd H' r=>(k d H' r).out⟩
def tF {t:Option Tmp} {op:Op} {ty:TypeId} {R:D->List Hp->Prop} (ho:opG (ops' fn p) i fn.ntmps K=some (t,op,ty)) (h:Ef P op ty K H R) (k:∀ d H',R d H'->T P fn C (.o p (i+1)) κ (upK K t d) H'):T P fn C (.o p i) κ K H:=⟨oF ho h λd H' r=>(k d H' r).out⟩
def cpK:Kd->Option Kd
 | []=>some []
 | (t,d)::r=>match cpK r with
  | some l=>some ((t,d)::l)
  | none=>none
def aP6:∀ {l l':Kd},cpK l=some l'->l=l'
 | [],_,h=>by injection h
 | (t,d)::r,l',h=>by
  unfold cpK at h;split at h
  · rename_i l hl;injection h with h;rw[<-h,aP6 hl]
  cases h
def tK {t:Tk} {K':Kd} (h:cpK K=some K') (k:T P fn C t κ K' H):T P fn C t κ K H:=aP6 h ▸ k
def tZ {f:FuncId} {ds:List D} {R:D->List Hp->Prop} (hf:P.funcs[f]?=some fn) (hb:(fn.body.isSome&&Nat.ble ds.length fn.ntmps)=true) (hK:cpF (zgL 0 ds)=some K) (h:∀ C,T P fn C (.c []) (.fin (qret P fn C R)) K H):CD P f H ds R:=by
 rw[cU] at hb;exact aKk hf hb.1 O hb.2 λC=>by rw[aPc hK];exact(h C).out
def tRs {x:Exit} {R:D->List Hp->Prop} {rs:List ResultVar} {ds:List D} {d:D} {H':List Hp} (hx:(match x with | .ret=>true | .normal=>true | _=>false)=true) (hr:fn.results=rs.toArray) (h:ResOs P K H rs ds) (hp:zgI ds=d) (hs:HSub H H') (hR:R d H'):T P fn C (.e x) (.fin (qret P fn C R)) K H:=by
 refine⟨⟨λρ w F hk g=>?_⟩⟩;cases x<;>simp at hx
 · exact⟨F,(aTs hr h hp hs hR).out ρ w F hk g⟩
 exact⟨F,(aRj hr h hp hs hR).out ρ w F hk g⟩
def rsF (K:Kd):List ResultVar->Option (List D)
 | []=>some []
 | .tmp t::r=>match zI K t,rsF K r with
  | some d,some l=>some (d::l)
  | _,_=>none
 | _::_=>none
def aPt:∀ {rs:List ResultVar} {ds:List D},rsF K rs=some ds->ResOs P K H rs ds
 | [],ds,h=>by simp[rsF] at h;subst h;exact .nil
 | .tmp t::r,ds,h=>by
  simp only[rsF] at h;split at h
  · rename_i d l h1 h2;injection h with h;subst h;exact .cons (za h1) (aPt h2)
  cases h
 | .cell a t::r,ds,h=>by simp[rsF] at h
def rtF (fn:Func) (K:Kd) (x:Exit):Option D:=match x with
 | .ret=>match rsF K fn.results.toList with
  | some [d]=>some d
  | some ds=>some (.tup ds)
  | none=>none
 | .normal=>match rsF K fn.results.toList with
  | some [d]=>some d
  | some ds=>some (.tup ds)
  | none=>none
 | _=>none
def tR {x:Exit} {R:D->List Hp->Prop} {d:D} {H':List Hp} (h:rtF fn K x=some d) (hs:HSub H H') (hR:R d H'):T P fn C (.e x) (.fin (qret P fn C R)) K H:=by
 have key:∀ {o:Option (List D)},(match o with | some [d]=>some d | some ds=>some (.tup ds) | none=>none)=some d->∃ ds,o=some ds/\zgI ds=d:=by
  intro o h;split at h
  · injection h with h;subst h;exact⟨_,rfl,rfl⟩
  · rename_i ds hne;injection h with h;subst h;exact⟨ds,rfl,by unfold zgI;split<;>first | (exact aH rfl (hne _)) | rfl⟩
  cases h
 cases x<;>simp only[rtF,reduceCtorEq] at h
 all_goals obtain ⟨ds,h1,h2⟩:=key h
 all_goals exact tRs rfl (by simp) (aPt h1) h2 hs hR
def tC {b:Bool} (h:cnF (zap fn) p K=some (pa,pb,.v (.bool b))) (ht:b=true->T P fn C (.c pa) κ K H) (hf:b=false->T P fn C (.c pb) κ K H):T P fn C (.c p) κ K H:=⟨jC h (λe=>(ht e).out) (λe=>(hf e).out)⟩
def tD {φ:Prop} {_:Decidable φ} (h:cnF (zap fn) p K=some (pa,pb,.v (.bool (decide φ)))) (ht:φ->T P fn C (.c pa) κ K H) (hf:¬φ->T P fn C (.c pb) κ K H):T P fn C (.c p) κ K H:=⟨jD h (λe=>(ht e).out) (λe=>(hf e).out)⟩
def mpF {α β:Type} (f:α->β):List α->Option (List β)
 | []=>some []
 | x::r=>match mpF f r with
  | some l=>some (f x::l)
  | none=>none
def aQb {α β:Type} {f:α->β}:∀ {l:List α} {l':List β},mpF f l=some l'->l'=l.map f
 | [],_,h=>by simp[mpF] at h;subst h;rfl
 | x::r,l',h=>by
  simp only[mpF] at h;split at h
  · rename_i l hl;injection h with h;subst h;rw[aQb hl];rfl
  cases h
def aSi (P:Program) (t:TypeId):Option D:=match P.info? t with
 | some i=>match i.zero with
  | some v=>match v.cells.toList.all Value.oneCell' with
   | true=>match v with
    | .agg a=>match mpF D.v a.toList with
     | some l=>some (.agg l)
     | none=>none
    | v=>some (.v v)
   | false=>none
  | none=>none
 | none=>none
def rS:∀ {l:List Value},l.all Value.oneCell'=true->zcv l
 | [],_=>trivial
 | x::r,h=>by simp only[List.all_cons,cU] at h;exact⟨h.1,rS h.2⟩
def aMx {t:TypeId} {X:D} (h:aSi P t=some X):∃ zv,(∀ w,(zeroValue t).run P w=.ok zv w)/\zcv zv.cells.toList/\Cv (.v zv) X:=by
 unfold aSi at h;split at h
 · rename_i inf hi;split at h
   · rename_i v hz;split at h
     · rename_i hall;have h1:∀ w,(zeroValue t).run P w=.ok v w:=λw=>by simp[zeroValue,aPz hi,hz]
       have h2:=rS hall;split at h
       · rename_i a;split at h
         · rename_i l hl;injection h with h;subst h;refine⟨_,h1,h2,?_⟩;rw[aQb hl];exact w7 (λc hc=>c8.1 hall c (by simpa [Value.cells] using hc))
         cases h
       injection h with h;subst h;exact⟨_,h1,h2,w5⟩
     cases h
   cases h
 cases h
def alF (P:Program) (fn:Func) (p:List Bool) (i:Nat) (K:Kd):Option (Tmp×TypeId×D):=match opAt (ops' fn p) i with
 | some (some dst,.alloc t,_,gd)=>match gdS (ops' fn p) fn.ntmps K gd,Nat.blt dst fn.ntmps,aSi P t with
  | some true,true,some X=>some (dst,t,X)
  | _,_,_=>none
 | some (some dst,.box t x,_,gd)=>match gdS (ops' fn p) fn.ntmps K gd,Nat.blt dst fn.ntmps,opD K x with
  | some true,true,some X=>match zgU X with
   | true=>some (dst,t,X)
   | false=>none
  | _,_,_=>none
 | _=>none
def tA {t:Tmp} {ty:TypeId} {X:D} (h:alF P fn p i K=some (t,ty,X)) (k:∀ g,T P fn C (.o p (i+1)) κ ((t,.v (.pointer (some ⟨g,0,none⟩)))::K) (.bx g ty X::H)):T P fn C (.o p i) κ K H:=by
 refine⟨?_⟩;unfold alF at h;split at h
 · rename_i dst t' ty' gd ho;split at h
   · rename_i Y hg hd hz;simp only[cX,dT] at h;obtain ⟨rfl,rfl,rfl⟩:=h;obtain ⟨zv,h1,h2,h3⟩:=aMx hz;exact zgJ ho hg hd (aB9 h1 h2 h3) λ_ _ ⟨g,e1,e2⟩=>by subst e1;subst e2;exact(k g).out
   cases h
 · rename_i dst t' x ty' gd ho;split at h
   · rename_i Y hg hd hx;split at h
     · rename_i hc;simp only[cX,dT] at h;obtain ⟨rfl,rfl,rfl⟩:=h;exact zgJ ho hg hd (aU5 hx (aCi hc)) λ_ _ ⟨g,e1,e2⟩=>by subst e1;subst e2;exact(k g).out
     cases h
   cases h
 cases h
def rmF {α:Type}:Nat->List α->Option (α×List α)
 | _,[]=>none
 | 0,x::r=>some (x,r)
 | j+1,x::r=>match rmF j r with
  | some (y,l)=>some (y,x::l)
  | none=>none
def aE5 {α:Type}:∀ {j:Nat} {l r:List α} {x:α},rmF j l=some (x,r)->l.Perm (x::r)
 | _,[],_,_,h=>by simp[rmF] at h
 | 0,x::r,_,_,h=>by simp only[rmF,cX,dT] at h;obtain ⟨rfl,rfl⟩:=h;exact List.Perm.refl _
 | j+1,x::r,_,y,h=>by
  simp only[rmF] at h;split at h
  · rename_i z l hz;simp only[cX,dT] at h;obtain ⟨rfl,rfl⟩:=h;exact((aE5 hz).cons x).trans (List.Perm.swap _ _ _)
  cases h
def mY (j:Nat) {t:Tk} {h:Hp} {H':List Hp} (e:rmF j H=some (h,H')) (k:T P fn C t κ K (h::H')):T P fn C t κ K H:=mW (mA (aE5 e)) k
def T.drop {t:Tk} (k:T P fn C t κ K []):T P fn C t κ K H:=mW (w9 (List.nil_sublist _)) k
def pkF:List Nat->List Hp->Option (List Hp×List Hp)
 | [],H=>some ([],H)
 | j::js,H=>match rmF j H with
  | some (h,H1)=>match pkF js H1 with
   | some (L,R)=>some (h::L,R)
   | none=>none
  | none=>none
def aPr:∀ {js:List Nat} {H L R:List Hp},pkF js H=some (L,R)->H.Perm (L++R)
 | [],H,L,R,h=>by simp only[pkF,cX,dT] at h;obtain ⟨rfl,rfl⟩:=h;exact List.Perm.refl _
 | j::js,H,L,R,h=>by
  simp only[pkF] at h;split at h
  · rename_i x H1 h1;split at h
    · rename_i L' R' h2;simp only[cX,dT] at h;obtain ⟨rfl,rfl⟩:=h;exact(aE5 h1).trans ((aPr h2).cons x)
    cases h
  cases h
def gtF (H:List Hp):List Nat->Option (List Hp)
 | []=>some []
 | j::js=>match nth H j,gtF H js with
  | some h,some l=>some (h::l)
  | _,_=>none
def aO9:∀ {js:List Nat} {L:List Hp},gtF H js=some L->∀ h∈L,h∈H
 | [],L,h=>by simp[gtF] at h;subst h;intro x hx;cases hx
 | j::js,L,h=>by
  simp only[gtF] at h;split at h
  · rename_i y l h1 h2;injection h with h;subst h;intro x hx;cases hx with
    | head=>exact zU h1
    | tail _ hm=>exact aO9 h2 x hm
  cases h
def clF (fn:Func) (p:List Bool) (i:Nat) (K:Kd):Option (Option Tmp×FuncId×List D):=match opAt (ops' fn p) i with
 | some (dst,.call { callee:=.value x,args:=xs,argTypes:=_ },_,gd)=>match gdS (ops' fn p) fn.ntmps K gd,dok fn.ntmps dst,opD K x,opsD K xs.toList with
  | some true,true,some (.fn f [] []),some ds=>match dst with
   | some t=>some (some t,f,ds)
   | none=>some (none,f,ds)
  | some true,true,some (.fn f a b),some ds=>some (dst,f,a++ds++b)
  | _,_,_,_=>none
 | _=>none
def aXt {t:Option Tmp} {f:FuncId} {ds0:List D} (h:clF fn p i K=some (t,f,ds0)):∃ x xs ats ty gd a b ds,opAt (ops' fn p) i=some (t,.call { callee:=.value x,args:=xs,argTypes:=ats },ty,gd)/\gdS (ops' fn p) fn.ntmps K gd=some true/\dok fn.ntmps t=true/\opD K x=some (.fn f a b)/\opsD K xs.toList=some ds/\ds0=a++ds++b:=by
 unfold clF at h;split at h
 · rename_i dst x xs ats ty gd ho;split at h
   · rename_i f' ds hg hd hx has;split at h;all_goals
      simp only[cX,dT] at h;obtain ⟨rfl,rfl,rfl⟩:=h;exact⟨_,_,_,_,_,_,_,_,ho,hg,hd,hx,has,by simp⟩
   · rename_i f' a b ds _ hg hd hx has;simp only[cX,dT] at h;obtain ⟨rfl,rfl,rfl⟩:=h;exact⟨_,_,_,_,_,_,_,_,ho,hg,hd,hx,has,O⟩
   cases h
 cases h
def tY (js ls:List Nat) {t:Option Tmp} {f:FuncId} {ds0 ds:List D} {L M Hr:List Hp} {R:D->List Hp->Prop} (ho:clF fn p i K=some (t,f,ds0)) (hp:pkF js H=some (L,Hr)) (hl:gtF Hr ls=some M) (ha:ArgCs M ds0 ds) (hcall:CD P f L ds R) (hfl:M=[]\/∀ d H',R d H'->d.flat=true/\∀ h∈H',h.flat=true)
 (k:∀ d H1,R d H1->T P fn C (.o p (i+1)) κ (upK K t d) (H1++Hr)) (hc:∀ args w,(callFunc f args).run P w=.ok (.enter f args) w:=by intros;kernel_rfl):T P fn C (.o p i) κ K H:=by
 obtain ⟨x,xs,ats,ty,gd,a,b,ds1,h1,h2,h3,h4,h5,rfl⟩:=aXt ho;refine mW (mA (aPr hp)) ⟨zgJ h1 h2 h3 (aAv L Hr M O h4 h5 ha (aO9 hl) hc hcall hfl) ?_⟩;rintro d _ ⟨H1,r,rfl⟩;exact(k d H1 r).out
def tX (js:List Nat) {t:Option Tmp} {f:FuncId} {ds0 ds:List D} {L Hr:List Hp} {R:D->List Hp->Prop} (ho:clF fn p i K=some (t,f,ds0)) (hp:pkF js H=some (L,Hr)) (ha:ArgCs [] ds0 ds) (hcall:CD P f L ds R)
 (k:∀ d H1,R d H1->T P fn C (.o p (i+1)) κ (upK K t d) (H1++Hr)) (hc:∀ args w,(callFunc f args).run P w=.ok (.enter f args) w:=by intros;kernel_rfl):T P fn C (.o p i) κ K H:=tY js [] ho hp rfl ha hcall (.inl rfl) k hc
def tW {t:Option Tmp} {f:FuncId} {ds0 ds:List D} {d:D} (ho:clF fn p i K=some (t,f,ds0)) (ha:ArgCs [] ds0 ds) (hcall:CD P f [] ds (isR d)) (k:T P fn C (.o p (i+1)) κ (upK K t d) H) (hc:∀ args w,(callFunc f args).run P w=.ok (.enter f args) w:=by intros;kernel_rfl):T P fn C (.o p i) κ K H:=
 tX [] ho rfl ha hcall (by rintro _ _ ⟨rfl,rfl⟩;exact k) hc
def tV (ls:List Nat) {t:Option Tmp} {f:FuncId} {ds0 ds:List D} {M:List Hp} {d:D} (ho:clF fn p i K=some (t,f,ds0)) (hl:gtF H ls=some M) (ha:ArgCs M ds0 ds) (hcall:CD P f [] ds (isR d)) (hd:d.flat=true) (k:T P fn C (.o p (i+1)) κ (upK K t d) H) (hc:∀ args w,(callFunc f args).run P w=.ok (.enter f args) w:=by intros;kernel_rfl):T P fn C (.o p i) κ K H:=
 tY [] ls ho rfl hl ha hcall (.inr (by rintro _ _ ⟨rfl,rfl⟩;exact⟨hd,λ_ h=>by cases h⟩)) (by rintro _ _ ⟨rfl,rfl⟩;exact k) hc
def tS (t:Nat) (b:Bool) {tk:Tk} (h:∀ κ':Kc,T P fn C (.e .normal) κ' ((t,.v (.bool b))::K) H->T P fn C tk κ' K H) (next:T P fn C (.e .normal) κ ((t,.v (.bool b))::K) H):T P fn C tk κ K H:=h κ next
def tJ {A:Type} (L:A->Kd) (HI:A->List Hp) (I:A->Prop) {tk:Tk} (h:∀ κ':Kc,(∀ g,I g->T P fn C (.e .normal) κ' (L g) (HI g))->T P fn C tk κ' K H) (next:∀ g,I g->T P fn C (.e .normal) κ (L g) (HI g)):T P fn C tk κ K H:=h κ next
def ddK (l:List Nat):Kd->Kd
 | []=>[]
 | (s,d)::r=>match inL l s with
  | true=>ddK l r
  | false=>(s,d)::ddK (s::l) r
def iG:∀ (K:Kd) {l:List Nat} {s:Nat},inL l s=false->zI (ddK l K) s=zI K s
 | [],_,_,_=>rfl
 | (u,d)::r,l,s,h=>by
  unfold ddK;cases e:inL l u with
  | true=>
   show zI (ddK l r) s=(bif Nat.beq s u then some d else zI r s);cases e2:Nat.beq s u with
   | true=>rw[dM e2,e] at h;cases h
   | false=>exact iG r h
  | false=>
   show (bif Nat.beq s u then some d else zI (ddK (u::l) r) s)=(bif Nat.beq s u then some d else zI r s);cases e2:Nat.beq s u with
   | true=>rfl
   | false=>exact iG r (by show (bif Nat.beq s u then true else inL l s)=false;rw[e2];exact h)
def tqe {K1:Kd} {x:Exit} (hQ:T P fn C (.e x) κ K1 H) (hs:(ddK [] K1).map (λp=>zI K p.1)=(ddK [] K1).map (λp=>some p.2)):T P fn C (.e x) κ K H:=
 T.sub (ddK [] K1) (sa hs) (mV ⟨λC w F ρ hk g=>⟨F,λs d hd=>hk s d (by rw[iG K1 rfl];exact hd),g⟩⟩ hQ)
def tQ {t:Nat} {b b':Bool} {K1:Kd} {x:Exit} (hQ:T P fn C (.e x) κ ((t,.v (.bool b))::K1) H) (h:zI K t=some (.v (.bool b'))) (hs:(ddK [t] K1).map (λp=>zI K p.1)=(ddK [t] K1).map (λp=>some p.2)) (hb:b'=b):T P fn C (.e x) κ K H:=
 T.sub ((t,.v (.bool b))::ddK [t] K1) ⟨⟨_,h,cB hb⟩,sa hs⟩ (mV ⟨λC w F ρ hk g=>⟨F,λs d hd=>hk s d (by
  have hd:(bif Nat.beq s t then some (D.v (.bool b)) else zI K1 s)=some d:=hd;show (bif Nat.beq s t then some (D.v (.bool b)) else zI (ddK [t] K1) s)=some d;cases e:Nat.beq s t with
  | true=>rw[e] at hd;exact hd
  | false=>rw[e] at hd;rw[iG K1 (by show (bif Nat.beq s t then true else false)=false;rw[e];rfl)];exact hd),g⟩⟩ hQ)
def T.loop {A:Type} (L:A->Kd) (HI:A->List Hp) (I:A->Prop) (μ:A->Nat) (g:A) (hk:lpF (zap fn) p=some pa) (hs:SubK (L g) K) (hH:HSub H (HI g)) (hI:I g)
 (h:∀ g,I g->T P fn C (.c pa) (.lp (λK H=>∃ g',K=L g'/\H=HI g'/\I g'/\μ g'<μ g) κ) (L g) (HI g)):T P fn C (.c p) κ K H:=by
 refine⟨aRl L HI I μ pa g (aOn hk).1 (aOn hk).2 hs hH hI λg hg=>?_⟩;have h1:=(h g hg).out;refine⟨λa w F ok hk gd=>?_⟩;refine wp_mono (h1.out a w F ok hk gd) ?_;rintro e a' w' ⟨ok',F',q⟩;refine⟨ok',?_⟩;cases e with
 | normal=>obtain ⟨K',H',⟨g',rfl,rfl,hI',hμ⟩,hk',gd'⟩:=q;exact⟨F',g',hk',gd',hI',hμ⟩
 | exit id=>exact⟨F',q⟩
 | goto k=>exact⟨F',q⟩
 | ret=>exact⟨F',q⟩
 | panic ch=>exact⟨F',q⟩
 | outgrown=>exact⟨F',q⟩
def T.again {J:Kd->List Hp->Prop} {K':Kd} {H':List Hp} (hJ:J K' H') (hs:SubK K' K) (hH:HSub H H'):T P fn C (.e .normal) (.lp J κ) K H:=
 ⟨⟨λρ w F hk g=>⟨F,K',H',hJ,hs.out hk,hH.out _ _ _ g⟩⟩⟩
def T.lpj {J J':Kd->List Hp->Prop} {t:Tk} (h:∀ K H,J K H->J' K H) (k:T P fn C t (.lp J κ) K H):T P fn C t (.lp J' κ) K H:=by
 have hq:∀ e ρ w F,(Kc.lp J κ).q P fn C e ρ w F->(Kc.lp J' κ).q P fn C e ρ w F:=by
  intro e ρ w F q;cases e with
  | normal=>obtain ⟨K,H,a,b⟩:=q;exact⟨K,H,h K H a,b⟩
  | exit id=>exact q
  | goto l=>exact q
  | ret=>exact q
  | panic ch=>exact q
  | outgrown=>exact q
 obtain ⟨k⟩:=k;refine⟨?_⟩;cases t with
 | c p=>exact⟨λa w F ok hk g=>wp_mono (k.out a w F ok hk g) λe a' w' ⟨o,F',q⟩=>⟨o,F',hq _ _ _ _ q⟩⟩
 | o p i=>exact⟨λa w F ok hk g=>zaQ (λe a' w' ⟨e1,o,F',q⟩=>⟨e1,o,F',hq _ _ _ _ q⟩) _ _ _ (k.out a w F ok hk g)⟩
 | e x=>exact⟨λρ w F hk g=>by obtain ⟨F',q⟩:=k.out ρ w F hk g;exact⟨F',hq _ _ _ _ q⟩⟩
def tDr (n:Nat) (ens:List En) (Hs:List Hp) {Hn:List Hp} (hm:P.follows .mixedOrders=true) (hc:zcU (cd (zap fn) p)=some true) (hlen:Nat.beq ens.length n=true) (hB:aQ4 (zaL (cd (zap fn) p)) n fn.ntmps (K.map λx=>(x.1,Value.nilFunc))=true) (hch:zgf (zaL (cd (zap fn) p)) ens=true) (hs0:HSub H Hs) (hHn:hof H ens n=Hn)
 (hsteps:zfO P fn.ntmps (zaL (cd (zap fn) p)) K Hs H ens 0 n) (next:T P fn C (.o p n) κ (enK ens K) Hn):T P fn C (.c p) κ K H:=⟨aRh n ens Hs hm hc hlen hB hch hs0 hHn hsteps next.out⟩
def tDo (n:Nat) (es:List (Tmp×Ex)) (Hs:List Hp) {Hn:Gh->List Hp} (hm:P.follows .mixedOrders=true) (hc:zcU (cd (zap fn) p)=some true) (hlen:Nat.beq es.length n=true) (hB:zeY (zaL (cd (zap fn) p)) n fn.ntmps (K.map λx=>(x.1,Value.nilFunc))=true) (hch:zgf (zaL (cd (zap fn) p)) (gens (λ_=>undef) 0 es)=true) (hrd:aSk (zaL (cd (zap fn) p)) es (gens (λ_=>undef) 0 es)=true) (hs0:HSub H Hs) (hHn:∀ γ,hof H (gens γ 0 es) n=Hn γ)
 (hsteps:∀ γ,zfN P fn.ntmps (zaL (cd (zap fn) p)) K Hs H γ es 0 n) (next:∀ γ,T P fn C (.o p n) κ (enK (gens γ 0 es) K) (Hn γ)):T P fn C (.c p) κ K H:=⟨aM5 n es Hs hm hc hlen hB hch hrd hs0 hHn hsteps λγ=>(next γ).out⟩
def tDx (n:Nat) (es:List (Tmp×Ey)) (Hs:List Hp) (HF:HFn) (Hn:Gh->List Hp) (hm:P.follows .mixedOrders=true) (hc:zcU (cd (zap fn) p)=some true) (hlen:Nat.beq es.length n=true) (hB:zeY (zaL (cd (zap fn) p)) n fn.ntmps (K.map λx=>(x.1,Value.nilFunc))=true) (hs0:∀ D γ,HSub (HF D γ) Hs)
 (h0:∀ γ (D:Nat->Bool),(∀ i,i<n->D i=false)->HF D γ=H) (hHn:∀ γ (D:Nat->Bool),(∀ i,i<n->D i=true)->HF D γ=Hn γ)
 (hsteps:∀ γ,zfM P fn.ntmps n (zaL (cd (zap fn) p)) K Hs HF γ es 0 n) (next:∀ γ,T P fn C (.o p n) κ (enK (geny γ 0 es) K) (Hn γ)):T P fn C (.c p) κ K H:=⟨aLw n es Hs HF Hn hm hc hlen hB hs0 h0 hHn hsteps λγ=>(next γ).out⟩
def tOr {b c:Bool} (j n:Nat) {s t:Tmp} {y:Operand} {ty:TypeId} (hp:opAt (ops' fn p) (i+n)=some (some t,.pick (.tmp s) (.const (.bool true)) y,ty,none)) (ht:Nat.blt t fn.ntmps=true) (hj:zW (ops' fn p) j=some s) (hs:Nat.blt s fn.ntmps=true) (hb:zI K s=some (.v (.bool b))) (hk:skB (ops' fn p) fn.ntmps j false (ksK K) i n=true)
 (run:b=false->(∀ K2,zI K2 s=some (.v (.bool false))->opD K2 y=some (.v (.bool c))->KX ((s,.v (.bool false))::K) K2->T P fn C (.o p (i+n)) κ K2 H)->T P fn C (.o p i) κ ((s,.v (.bool false))::K) H)
 (next:T P fn C (.o p (i+n+1)) κ ((t,.v (.bool (b||c)))::K) H):T P fn C (.o p i) κ K H:=⟨aYr j n hp ht hj hs hb hk (λe h=>(run e λK2 a b c=>⟨h K2 a b c⟩).out) next.out⟩
def tAnd {b c:Bool} (j n:Nat) {s t:Tmp} {x:Operand} {ty:TypeId} (hp:opAt (ops' fn p) (i+n)=some (some t,.pick (.tmp s) x (.const (.bool false)),ty,none)) (ht:Nat.blt t fn.ntmps=true) (hj:zW (ops' fn p) j=some s) (hs:Nat.blt s fn.ntmps=true) (hb:zI K s=some (.v (.bool b))) (hk:skB (ops' fn p) fn.ntmps j true (ksK K) i n=true)
 (run:b=true->(∀ K2,zI K2 s=some (.v (.bool true))->opD K2 x=some (.v (.bool c))->KX ((s,.v (.bool true))::K) K2->T P fn C (.o p (i+n)) κ K2 H)->T P fn C (.o p i) κ ((s,.v (.bool true))::K) H)
 (next:T P fn C (.o p (i+n+1)) κ ((t,.v (.bool (b&&c)))::K) H):T P fn C (.o p i) κ K H:=⟨aX2 j n hp ht hj hs hb hk (λe h=>(run e λK2 a b c=>⟨h K2 a b c⟩).out) next.out⟩
def ts (t':Nat) {t:Tk} {d d':D} (h:zI K t'=some d) (e:d=d') (k:T P fn C t κ ((t',d')::K) H):T P fn C t κ K H:=by
 subst e;refine mV ⟨λC w F ρ hk g=>⟨F,λs u hu=>?_,g⟩⟩ k;simp only[zI] at hu;by_cases e:s=t'
 · subst e;rw[show Nat.beq s s=true from jT s] at hu;simp only[cond_true,cX] at hu;subst hu;exact hk s _ h
 rw[zbx e] at hu;exact hk s u hu
def T.kk {t:Tk} (K':Kd) (h:K=K') (k:T P fn C t κ K' H):T P fn C t κ K H:=h ▸ k
def g' (n:Nat) {t t':Tk} {κ':Kc} {K':Kd} {H':List Hp} (h:run P fn n [] t κ K H [] []=some (t',κ',K',H',[],[])) (k:T P fn C t' κ' K' H'):T P fn C t κ K H:=gQ n [] h rfl k
def J1 {A0:Type} (L:A0->Kd) (HI:A0->List Hp) (I:A0->Prop) (μ:A0->Nat) (n:Nat) (K:Kd) (H:List Hp):Prop:=∃ b0,K=L b0/\H=HI b0/\I b0/\μ b0<n
def tl1 {A0:Type} (L:A0->Kd) (HI:A0->List Hp) (I:A0->Prop) (μ:A0->Nat) (x0:A0) (hk:lpF (zap fn) p=some pa) (hs:SubK (L x0) K) (hH:HSub H (HI x0)) (hI:I x0) (h:∀ b0,I b0->T P fn C (.c pa) (.lp (J1 L HI I μ (μ b0)) κ) (L b0) (HI b0)):T P fn C (.c p) κ K H:=
 T.loop (λg:A0=>L g) (λg:A0=>HI g) (λg:A0=>I g) (λg:A0=>μ g) x0 hk hs hH hI λg hg=>T.lpj (λK H ⟨b0,h⟩=>⟨b0,h⟩) (h g hg)
def tp1 {A0:Type} {L:A0->Kd} {HI:A0->List Hp} {I:A0->Prop} {μ:A0->Nat} {n:Nat} (b0:A0) (hs:SubK (L b0) K) (hH:HSub H (HI b0)) (hI:I b0) (hμ:μ b0<n):T P fn C (.e .normal) (.lp (J1 L HI I μ n) κ) K H:=
 T.again ⟨b0,rfl,rfl,hI,hμ⟩ hs hH
def J2 {A0 A1:Type} (L:A0->A1->Kd) (HI:A0->A1->List Hp) (I:A0->A1->Prop) (μ:A0->A1->Nat) (n:Nat) (K:Kd) (H:List Hp):Prop:=∃ b0 b1,K=L b0 b1/\H=HI b0 b1/\I b0 b1/\μ b0 b1<n
def tl2 {A0 A1:Type} (L:A0->A1->Kd) (HI:A0->A1->List Hp) (I:A0->A1->Prop) (μ:A0->A1->Nat) (x0:A0) (x1:A1) (hk:lpF (zap fn) p=some pa) (hs:SubK (L x0 x1) K) (hH:HSub H (HI x0 x1)) (hI:I x0 x1) (h:∀ b0 b1,I b0 b1->T P fn C (.c pa) (.lp (J2 L HI I μ (μ b0 b1)) κ) (L b0 b1) (HI b0 b1)):T P fn C (.c p) κ K H:=
 T.loop (λg:A0×A1=>L g.1 g.2) (λg:A0×A1=>HI g.1 g.2) (λg:A0×A1=>I g.1 g.2) (λg:A0×A1=>μ g.1 g.2) (x0,x1) hk hs hH hI λg hg=>T.lpj (λK H ⟨b0,b1,h⟩=>⟨(b0,b1),h⟩) (h g.1 g.2 hg)
def tp2 {A0 A1:Type} {L:A0->A1->Kd} {HI:A0->A1->List Hp} {I:A0->A1->Prop} {μ:A0->A1->Nat} {n:Nat} (b0:A0) (b1:A1) (hs:SubK (L b0 b1) K) (hH:HSub H (HI b0 b1)) (hI:I b0 b1) (hμ:μ b0 b1<n):T P fn C (.e .normal) (.lp (J2 L HI I μ n) κ) K H:=
 T.again ⟨b0,b1,rfl,rfl,hI,hμ⟩ hs hH
def J3 {A0 A1 A2:Type} (L:A0->A1->A2->Kd) (HI:A0->A1->A2->List Hp) (I:A0->A1->A2->Prop) (μ:A0->A1->A2->Nat) (n:Nat) (K:Kd) (H:List Hp):Prop:=∃ b0 b1 b2,K=L b0 b1 b2/\H=HI b0 b1 b2/\I b0 b1 b2/\μ b0 b1 b2<n
def tl3 {A0 A1 A2:Type} (L:A0->A1->A2->Kd) (HI:A0->A1->A2->List Hp) (I:A0->A1->A2->Prop) (μ:A0->A1->A2->Nat) (x0:A0) (x1:A1) (x2:A2) (hk:lpF (zap fn) p=some pa) (hs:SubK (L x0 x1 x2) K) (hH:HSub H (HI x0 x1 x2)) (hI:I x0 x1 x2) (h:∀ b0 b1 b2,I b0 b1 b2->T P fn C (.c pa) (.lp (J3 L HI I μ (μ b0 b1 b2)) κ) (L b0 b1 b2) (HI b0 b1 b2)):T P fn C (.c p) κ K H:=
 T.loop (λg:A0×A1×A2=>L g.1 g.2.1 g.2.2) (λg:A0×A1×A2=>HI g.1 g.2.1 g.2.2) (λg:A0×A1×A2=>I g.1 g.2.1 g.2.2) (λg:A0×A1×A2=>μ g.1 g.2.1 g.2.2) (x0,x1,x2) hk hs hH hI λg hg=>T.lpj (λK H ⟨b0,b1,b2,h⟩=>⟨(b0,b1,b2),h⟩) (h g.1 g.2.1 g.2.2 hg)
def tp3 {A0 A1 A2:Type} {L:A0->A1->A2->Kd} {HI:A0->A1->A2->List Hp} {I:A0->A1->A2->Prop} {μ:A0->A1->A2->Nat} {n:Nat} (b0:A0) (b1:A1) (b2:A2) (hs:SubK (L b0 b1 b2) K) (hH:HSub H (HI b0 b1 b2)) (hI:I b0 b1 b2) (hμ:μ b0 b1 b2<n):T P fn C (.e .normal) (.lp (J3 L HI I μ n) κ) K H:=
 T.again ⟨b0,b1,b2,rfl,rfl,hI,hμ⟩ hs hH
def J4 {A0 A1 A2 A3:Type} (L:A0->A1->A2->A3->Kd) (HI:A0->A1->A2->A3->List Hp) (I:A0->A1->A2->A3->Prop) (μ:A0->A1->A2->A3->Nat) (n:Nat) (K:Kd) (H:List Hp):Prop:=∃ b0 b1 b2 b3,K=L b0 b1 b2 b3/\H=HI b0 b1 b2 b3/\I b0 b1 b2 b3/\μ b0 b1 b2 b3<n
def tl4 {A0 A1 A2 A3:Type} (L:A0->A1->A2->A3->Kd) (HI:A0->A1->A2->A3->List Hp) (I:A0->A1->A2->A3->Prop) (μ:A0->A1->A2->A3->Nat) (x0:A0) (x1:A1) (x2:A2) (x3:A3) (hk:lpF (zap fn) p=some pa) (hs:SubK (L x0 x1 x2 x3) K) (hH:HSub H (HI x0 x1 x2 x3)) (hI:I x0 x1 x2 x3) (h:∀ b0 b1 b2 b3,I b0 b1 b2 b3->T P fn C (.c pa) (.lp (J4 L HI I μ (μ b0 b1 b2 b3)) κ) (L b0 b1 b2 b3) (HI b0 b1 b2 b3)):T P fn C (.c p) κ K H:=
 T.loop (λg:A0×A1×A2×A3=>L g.1 g.2.1 g.2.2.1 g.2.2.2) (λg:A0×A1×A2×A3=>HI g.1 g.2.1 g.2.2.1 g.2.2.2) (λg:A0×A1×A2×A3=>I g.1 g.2.1 g.2.2.1 g.2.2.2) (λg:A0×A1×A2×A3=>μ g.1 g.2.1 g.2.2.1 g.2.2.2) (x0,x1,x2,x3) hk hs hH hI λg hg=>T.lpj (λK H ⟨b0,b1,b2,b3,h⟩=>⟨(b0,b1,b2,b3),h⟩) (h g.1 g.2.1 g.2.2.1 g.2.2.2 hg)
def tp4 {A0 A1 A2 A3:Type} {L:A0->A1->A2->A3->Kd} {HI:A0->A1->A2->A3->List Hp} {I:A0->A1->A2->A3->Prop} {μ:A0->A1->A2->A3->Nat} {n:Nat} (b0:A0) (b1:A1) (b2:A2) (b3:A3) (hs:SubK (L b0 b1 b2 b3) K) (hH:HSub H (HI b0 b1 b2 b3)) (hI:I b0 b1 b2 b3) (hμ:μ b0 b1 b2 b3<n):T P fn C (.e .normal) (.lp (J4 L HI I μ n) κ) K H:=
 T.again ⟨b0,b1,b2,b3,rfl,rfl,hI,hμ⟩ hs hH
end
end Lp
set_option maxHeartbeats 4000000
set_option maxRecDepth 100000
namespace Lp
open Go Go.RowKit Go.Proofs Tryz
def aG7:IzP prog 21 (.int .i32 0) 1 4:=zdf (by kernel_rfl)
def aJf:Tryz.prog.underlying 149=some (.slice 21):=by kernel_rfl
def aB6 (r:Int) :
 CD prog 91 [] [.v (.int .i32 r)] (isR (dI (zC r))):=by
 refine tZ func91 O O (λC=>?_);refine g' 12 O ?_;refine tOr 2 2 (c:=decide (r=(65533:Int))) O O O O O O (λhb1 nx2=>?_) ?_
 · have hf3:=aC hb1;refine g' 2 O ?_;exact nx2 _ O O (kx 2 O O)
 refine g' 3 O ?_;refine tC O (λhc4=>?_) (λhc4=>?_)
 · simp only[bX,bJ] at hc4;refine g' 8 O ?_;exact tRs O results91 (.cons (zc (za O) (w6 (aG (λn=>D.v (.int .i64 n)) (by unfold zC;(repeat (any_goals split))<;>omega)))) .nil) O HSub.none ⟨O,O⟩
 simp only[bX,bJ] at hc4;refine g' 1 O ?_;refine tS 10 (((((decide ((97:Int)<=r)&&decide (r<=(122:Int)))||(decide ((65:Int)<=r)&&decide (r<=(90:Int))))||decide (r=(95:Int)))||decide ((128:Int)<=r))) (λ_ hQ5=>?_) ?_
 · by_cases hg6:(97:Int)<=r
   · by_cases hg7:r<=(122:Int)
     · refine g' 2 O (tP O (zas O O (aE hg6)) (g' 2 O (tG O (zbJ O O (aE hg7)) (g' 19 O ?_))));exact tQ hQ5 O O (by first | (simp[hg6,hg7];done) | (simp_all;done))
     by_cases hg8:(65:Int)<=r
     · by_cases hg9:r<=(90:Int)
       · refine g' 2 O (tP O (zas O O (aE hg6)) (g' 2 O (tG O (zbJ O O (aD hg7)) (g' 3 O (tG O (zas O O (aE hg8)) (g' 2 O (tG O (zbJ O O (aE hg9)) (g' 12 O ?_))))))));exact tQ hQ5 O O (by first | (simp[hg6,hg7,hg8,hg9];done) | (simp_all;done))
       by_cases hg10:r=(95:Int)
       · refine g' 2 O (tP O (zas O O (aE hg6)) (g' 2 O (tG O (zbJ O O (aD hg7)) (g' 3 O (tG O (zas O O (aE hg8)) (g' 2 O (tG O (zbJ O O (aD hg9)) (g' 4 O (tG O (zT O O (aE hg10)) (g' 7 O ?_))))))))));exact tQ hQ5 O O (by first | (simp[hg10,hg6,hg7,hg8,hg9];done) | (simp_all;done))
       refine g' 2 O (tP O (zas O O (aE hg6)) (g' 2 O (tG O (zbJ O O (aD hg7)) (g' 3 O (tG O (zas O O (aE hg8)) (g' 2 O (tG O (zbJ O O (aD hg9)) (g' 4 O (tG O (zT O O (aD hg10)) (g' 7 O ?_))))))))));exact tQ hQ5 O O (by first | (simp[hg10,hg6,hg7,hg8,hg9];done) | (simp_all;done))
     by_cases hg11:r=(95:Int)
     · refine g' 2 O (tP O (zas O O (aE hg6)) (g' 2 O (tG O (zbJ O O (aD hg7)) (g' 3 O (tG O (zas O O (aD hg8)) (g' 7 O (tG O (zT O O (aE hg11)) (g' 7 O ?_))))))));exact tQ hQ5 O O (by first | (simp[hg11,hg6,hg7,hg8];done) | (simp_all;done))
     refine g' 2 O (tP O (zas O O (aE hg6)) (g' 2 O (tG O (zbJ O O (aD hg7)) (g' 3 O (tG O (zas O O (aD hg8)) (g' 7 O (tG O (zT O O (aD hg11)) (g' 7 O ?_))))))));exact tQ hQ5 O O (by first | (simp[hg11,hg6,hg7,hg8];done) | (simp_all;done))
   by_cases hg12:(65:Int)<=r
   · by_cases hg13:r<=(90:Int)
     · refine g' 2 O (tP O (zas O O (aD hg6)) (g' 6 O (tG O (zas O O (aE hg12)) (g' 2 O (tG O (zbJ O O (aE hg13)) (g' 12 O ?_))))));exact tQ hQ5 O O (by first | (simp[hg12,hg13,hg6];done) | (simp_all;done))
     by_cases hg14:r=(95:Int)
     · refine g' 2 O (tP O (zas O O (aD hg6)) (g' 6 O (tG O (zas O O (aE hg12)) (g' 2 O (tG O (zbJ O O (aD hg13)) (g' 4 O (tG O (zT O O (aE hg14)) (g' 7 O ?_))))))));exact tQ hQ5 O O (by first | (simp[hg12,hg13,hg14,hg6];done) | (simp_all;done))
     refine g' 2 O (tP O (zas O O (aD hg6)) (g' 6 O (tG O (zas O O (aE hg12)) (g' 2 O (tG O (zbJ O O (aD hg13)) (g' 4 O (tG O (zT O O (aD hg14)) (g' 7 O ?_))))))));exact tQ hQ5 O O (by first | (simp[hg12,hg13,hg14,hg6];done) | (simp_all;done))
   by_cases hg15:r=(95:Int)
   · refine g' 2 O (tP O (zas O O (aD hg6)) (g' 6 O (tG O (zas O O (aD hg12)) (g' 7 O (tG O (zT O O (aE hg15)) (g' 7 O ?_))))));exact tQ hQ5 O O (by first | (simp[hg12,hg15,hg6];done) | (simp_all;done))
   refine g' 2 O (tP O (zas O O (aD hg6)) (g' 6 O (tG O (zas O O (aD hg12)) (g' 7 O (tG O (zT O O (aD hg15)) (g' 7 O ?_))))));exact tQ hQ5 O O (by first | (simp[hg12,hg15,hg6];done) | (simp_all;done))
 refine g' 1 O ?_;refine tC O (λhc16=>?_) (λhc16=>?_)
 · simp only[bX,bJ] at hc16;refine g' 8 O ?_;exact tRs O results91 (.cons (zc (za O) (w6 (aG (λn=>D.v (.int .i64 n)) (by unfold zC;(repeat (any_goals split))<;>omega)))) .nil) O HSub.none ⟨O,O⟩
 simp only[bX,bJ] at hc16;refine g' 5 O ?_;refine tAnd 2 2 (c:=decide (r<=(57:Int))) O O O O O O (λhb17 nx18=>?_) ?_
 · have hf19:=aF hb17;refine g' 2 O ?_;exact nx18 _ O O (kx 2 O O)
 refine g' 3 O ?_;refine tC O (λhc20=>?_) (λhc20=>?_)
 · simp only[bX,bJ] at hc20;refine g' 8 O ?_;exact tRs O results91 (.cons (zc (za O) (w6 (aG (λn=>D.v (.int .i64 n)) (by unfold zC;(repeat (any_goals split))<;>omega)))) .nil) O HSub.none ⟨O,O⟩
 simp only[bX,bJ] at hc20;refine g' 5 O ?_;refine tOr 2 2 (c:=decide (r=(9:Int))) O O O O O O (λhb21 nx22=>?_) ?_
 · have hf23:=aC hb21;refine g' 2 O ?_;exact nx22 _ O O (kx 2 O O)
 refine g' 1 O ?_;refine tOr 6 2 (c:=decide (r=(10:Int))) O O O O O O (λhb24 nx25=>?_) ?_
 · obtain ⟨hf26,hf27⟩:=orF hb24;have hf28:=aC hf26;have hf29:=aC hf27;refine g' 2 O ?_;exact nx25 _ O O (kx 2 O O)
 refine g' 3 O ?_;refine tC O (λhc30=>?_) (λhc30=>?_)
 · simp only[bX,bJ] at hc30;refine g' 8 O ?_;exact tRs O results91 (.cons (zc (za O) (w6 (aG (λn=>D.v (.int .i64 n)) (by unfold zC;(repeat (any_goals split))<;>omega)))) .nil) O HSub.none ⟨O,O⟩
 simp only[bX,bJ] at hc30;refine g' 9 O ?_;exact tRs O results91 (.cons (zc (za O) (w6 (aG (λn=>D.v (.int .i64 n)) (by unfold zC;(repeat (any_goals split))<;>omega)))) .nil) O HSub.none ⟨O,O⟩
def zdG (r:Int) :
 CD prog 67 [] [.v (.int .i32 r)] (isR (dI (zC r))):=by
 refine tZ func67 O O (λC=>?_);refine g' 12 O ?_;refine tOr 2 2 (c:=decide (r=(65533:Int))) O O O O O O (λhb1 nx2=>?_) ?_
 · have hf3:=aC hb1;refine g' 2 O ?_;exact nx2 _ O O (kx 2 O O)
 refine g' 3 O ?_;refine tC O (λhc4=>?_) (λhc4=>?_)
 · simp only[bX,bJ] at hc4;refine g' 8 O ?_;exact tRs O results67 (.cons (zc (za O) (w6 (aG (λn=>D.v (.int .i64 n)) (by unfold zC;(repeat (any_goals split))<;>omega)))) .nil) O HSub.none ⟨O,O⟩
 simp only[bX,bJ] at hc4;refine g' 1 O ?_;refine tS 10 (((((decide ((97:Int)<=r)&&decide (r<=(122:Int)))||(decide ((65:Int)<=r)&&decide (r<=(90:Int))))||decide (r=(95:Int)))||decide ((128:Int)<=r))) (λ_ hQ5=>?_) ?_
 · by_cases hg6:(97:Int)<=r
   · by_cases hg7:r<=(122:Int)
     · refine g' 2 O (tP O (zas O O (aE hg6)) (g' 2 O (tG O (zbJ O O (aE hg7)) (g' 19 O ?_))));exact tQ hQ5 O O (by first | (simp[hg6,hg7];done) | (simp_all;done))
     by_cases hg8:(65:Int)<=r
     · by_cases hg9:r<=(90:Int)
       · refine g' 2 O (tP O (zas O O (aE hg6)) (g' 2 O (tG O (zbJ O O (aD hg7)) (g' 3 O (tG O (zas O O (aE hg8)) (g' 2 O (tG O (zbJ O O (aE hg9)) (g' 12 O ?_))))))));exact tQ hQ5 O O (by first | (simp[hg6,hg7,hg8,hg9];done) | (simp_all;done))
       by_cases hg10:r=(95:Int)
       · refine g' 2 O (tP O (zas O O (aE hg6)) (g' 2 O (tG O (zbJ O O (aD hg7)) (g' 3 O (tG O (zas O O (aE hg8)) (g' 2 O (tG O (zbJ O O (aD hg9)) (g' 4 O (tG O (zT O O (aE hg10)) (g' 7 O ?_))))))))));exact tQ hQ5 O O (by first | (simp[hg10,hg6,hg7,hg8,hg9];done) | (simp_all;done))
       refine g' 2 O (tP O (zas O O (aE hg6)) (g' 2 O (tG O (zbJ O O (aD hg7)) (g' 3 O (tG O (zas O O (aE hg8)) (g' 2 O (tG O (zbJ O O (aD hg9)) (g' 4 O (tG O (zT O O (aD hg10)) (g' 7 O ?_))))))))));exact tQ hQ5 O O (by first | (simp[hg10,hg6,hg7,hg8,hg9];done) | (simp_all;done))
     by_cases hg11:r=(95:Int)
     · refine g' 2 O (tP O (zas O O (aE hg6)) (g' 2 O (tG O (zbJ O O (aD hg7)) (g' 3 O (tG O (zas O O (aD hg8)) (g' 7 O (tG O (zT O O (aE hg11)) (g' 7 O ?_))))))));exact tQ hQ5 O O (by first | (simp[hg11,hg6,hg7,hg8];done) | (simp_all;done))
     refine g' 2 O (tP O (zas O O (aE hg6)) (g' 2 O (tG O (zbJ O O (aD hg7)) (g' 3 O (tG O (zas O O (aD hg8)) (g' 7 O (tG O (zT O O (aD hg11)) (g' 7 O ?_))))))));exact tQ hQ5 O O (by first | (simp[hg11,hg6,hg7,hg8];done) | (simp_all;done))
   by_cases hg12:(65:Int)<=r
   · by_cases hg13:r<=(90:Int)
     · refine g' 2 O (tP O (zas O O (aD hg6)) (g' 6 O (tG O (zas O O (aE hg12)) (g' 2 O (tG O (zbJ O O (aE hg13)) (g' 12 O ?_))))));exact tQ hQ5 O O (by first | (simp[hg12,hg13,hg6];done) | (simp_all;done))
     by_cases hg14:r=(95:Int)
     · refine g' 2 O (tP O (zas O O (aD hg6)) (g' 6 O (tG O (zas O O (aE hg12)) (g' 2 O (tG O (zbJ O O (aD hg13)) (g' 4 O (tG O (zT O O (aE hg14)) (g' 7 O ?_))))))));exact tQ hQ5 O O (by first | (simp[hg12,hg13,hg14,hg6];done) | (simp_all;done))
     refine g' 2 O (tP O (zas O O (aD hg6)) (g' 6 O (tG O (zas O O (aE hg12)) (g' 2 O (tG O (zbJ O O (aD hg13)) (g' 4 O (tG O (zT O O (aD hg14)) (g' 7 O ?_))))))));exact tQ hQ5 O O (by first | (simp[hg12,hg13,hg14,hg6];done) | (simp_all;done))
   by_cases hg15:r=(95:Int)
   · refine g' 2 O (tP O (zas O O (aD hg6)) (g' 6 O (tG O (zas O O (aD hg12)) (g' 7 O (tG O (zT O O (aE hg15)) (g' 7 O ?_))))));exact tQ hQ5 O O (by first | (simp[hg12,hg15,hg6];done) | (simp_all;done))
   refine g' 2 O (tP O (zas O O (aD hg6)) (g' 6 O (tG O (zas O O (aD hg12)) (g' 7 O (tG O (zT O O (aD hg15)) (g' 7 O ?_))))));exact tQ hQ5 O O (by first | (simp[hg12,hg15,hg6];done) | (simp_all;done))
 refine g' 1 O ?_;refine tC O (λhc16=>?_) (λhc16=>?_)
 · simp only[bX,bJ] at hc16;refine g' 8 O ?_;exact tRs O results67 (.cons (zc (za O) (w6 (aG (λn=>D.v (.int .i64 n)) (by unfold zC;(repeat (any_goals split))<;>omega)))) .nil) O HSub.none ⟨O,O⟩
 simp only[bX,bJ] at hc16;refine g' 5 O ?_;refine tAnd 2 2 (c:=decide (r<=(57:Int))) O O O O O O (λhb17 nx18=>?_) ?_
 · have hf19:=aF hb17;refine g' 2 O ?_;exact nx18 _ O O (kx 2 O O)
 refine g' 3 O ?_;refine tC O (λhc20=>?_) (λhc20=>?_)
 · simp only[bX,bJ] at hc20;refine g' 8 O ?_;exact tRs O results67 (.cons (zc (za O) (w6 (aG (λn=>D.v (.int .i64 n)) (by unfold zC;(repeat (any_goals split))<;>omega)))) .nil) O HSub.none ⟨O,O⟩
 simp only[bX,bJ] at hc20;refine g' 5 O ?_;refine tOr 2 2 (c:=decide (r=(9:Int))) O O O O O O (λhb21 nx22=>?_) ?_
 · have hf23:=aC hb21;refine g' 2 O ?_;exact nx22 _ O O (kx 2 O O)
 refine g' 1 O ?_;refine tOr 6 2 (c:=decide (r=(10:Int))) O O O O O O (λhb24 nx25=>?_) ?_
 · obtain ⟨hf26,hf27⟩:=orF hb24;have hf28:=aC hf26;have hf29:=aC hf27;refine g' 2 O ?_;exact nx25 _ O O (kx 2 O O)
 refine g' 3 O ?_;refine tC O (λhc30=>?_) (λhc30=>?_)
 · simp only[bX,bJ] at hc30;refine g' 8 O ?_;exact tRs O results67 (.cons (zc (za O) (w6 (aG (λn=>D.v (.int .i64 n)) (by unfold zC;(repeat (any_goals split))<;>omega)))) .nil) O HSub.none ⟨O,O⟩
 simp only[bX,bJ] at hc30;refine g' 9 O ?_;exact tRs O results67 (.cons (zc (za O) (w6 (aG (λn=>D.v (.int .i64 n)) (by unfold zC;(repeat (any_goals split))<;>omega)))) .nil) O HSub.none ⟨O,O⟩
def zgi (s:Ba) :
 CD prog 132 [] [.s s] (isR (dB (zbR s))):=by
 refine tZ func132 O O (λC=>?_);refine T.bd 0 O (λbd0=>?_);have sz0:s.size<=9223372036854775807:=bd0;refine g' 14 O (tE O (zd6 O aN) ?_);rintro _ _ ⟨g1,rfl,rfl⟩;refine g' 3 O (tl2 (λ(a_:Nat) (b_:Nat)=>[(8,dP g1 0),(3,dN b_)]) (λa_ b_=>[.it g1 s a_]) (λa_ b_=>(a_<=s.size)/\(b_<=a_)/\(zdX 0 (zaI s)=zdX b_ (za8 s a_))) (λa_ b_=>s.size-a_) 0 0 O (sa O) w8 ⟨cT _,cW _,O⟩ ?_);rintro p n ⟨hp,hn,hf⟩;rcases cZ p s.size with hlt | hge
 · have hrune:=zaw hlt;have hrl:=zcW s p;have hdw:=zaK s p hlt;have hdp:=z6 s p;refine g' 2 O (tE O (zde (i:=0) O O hlt) ?_);rintro _ _ ⟨rfl,rfl⟩;refine g' 18 O (tW O acs (aB6 ((decR s p:Nat):Int)) (g' 4 O ?_));refine tS 23 ((decide (zC ((decR s p:Nat):Int)≠(1:Int))&&(decide (zC ((decR s p:Nat):Int)≠(2:Int))||decide (((n:Nat):Int)=(0:Int))))) (λ_ hQ2=>?_) ?_
   · by_cases hg3:zC ((decR s p:Nat):Int)≠(1:Int)
     · by_cases hg4:zC ((decR s p:Nat):Int)≠(2:Int)
       · refine g' 2 O (tP O (zee O O (aE hg3)) (g' 2 O (tG O (zee O O (aE hg4)) (g' 6 O ?_))));exact tQ hQ2 O O (by first | (simp[hg3,hg4];done) | (simp_all;done))
       refine g' 2 O (tP O (zee O O (aE hg3)) (g' 2 O (tG O (zee O O (aD hg4)) (g' 6 O ?_))));exact tQ hQ2 O O (by first | (simp[hg3,hg4];done) | (simp_all;done))
     refine g' 2 O (tP O (zee O O (aD hg3)) (g' 9 O ?_));exact tQ hQ2 O O (by first | (simp[hg3];done) | (simp_all;done))
   refine g' 1 O ?_;refine tC O (λhc5=>?_) (λhc5=>?_)
   · simp only[bX,bJ] at hc5;refine g' 11 O ?_;exact tRs O results132 (.cons (zc (za O) (cB ((by unfold zbR;rw[hf,hrune];rw[lD (by omega)])))) .nil) O HSub.none ⟨O,O⟩
   simp only[bX,bJ] at hc5;refine g' 4 O (tP O (zq (c:=((n+1:Nat):Int)) O O (zh (by omega) (by omega))) (g' 3 O ?_));exact tp2 (p+decW s p) (n+1) (sa O) w8 ⟨by have:=zaK s p hlt;omega,by omega,by rw[hf,hrune,gK (by omega)]⟩ (by have:=z6 s p;omega)
 have hrune:=za2 hge;refine g' 2 O (tP O (zdW (i:=0) O O hge) (g' 15 O ?_));refine tAnd 2 2 (c:=decide (((n:Nat):Int)<=(30:Int))) O O O O O O (λhb6 nx7=>?_) ?_
 · have hf8:=aF hb6;refine g' 2 O ?_;exact nx7 _ O O (kx 2 O O)
 refine g' 4 O ?_;exact tRs O results132 (.cons (zc (za O) (cB ((by unfold zbR;rw[hf,hrune];simp only[zdX];congr 1<;>exact decide_eq_decide.2 (by omega))))) .nil) O HSub.none ⟨O,O⟩
def aDs (s:Ba) (hs:s.size<=1000000000):
 CD prog 135 [] [.s s] (zcA 1 21 ((zaI s).map dR)):=by
 refine tZ func135 O O (λC=>?_);refine T.bd 0 O (λbd0=>?_);have sz0:s.size<=9223372036854775807:=bd0;refine g' 14 O (tE O (zd6 O aN) ?_);rintro _ _ ⟨g1,rfl,rfl⟩;refine g' 3 O (tl3 (λ(a_:Nat) (b_:Value) (c_:List Int)=>[(2,dZ),(7,dP g1 0),(3,.ov b_)]) (λa_ b_ c_=>[.it g1 s a_,.sl b_ 1 21 (c_.map dR)]) (λa_ b_ c_=>(a_<=s.size)/\(c_.length<=a_)/\(zaI s=c_++za8 s a_)) (λa_ b_ c_=>s.size-a_) 0 (.slice none 0 0) [] O ⟨sk O,sk O,sc O (Cv.ov O),trivial⟩ (HSub.trans (HSub.nil 1 21) (mA (List.Perm.swap _ _ _))) ⟨cT _,cW _,O⟩ ?_);rintro p ov l ⟨hp,hn,hf⟩;rcases cZ p s.size with hlt | hge
 · have hrune:=zaw hlt;have hrl:=zcW s p;have hdw:=zaK s p hlt;have hdp:=z6 s p;refine g' 2 O (tE O (zde (i:=0) O O hlt) ?_);rintro _ _ ⟨rfl,rfl⟩;refine g' 17 O (tE O (zw [.tmp 12] O O (.cons (CellD.v O) .nil) O bP sizeOf21 zeroValue21 O O O O) ?_);rintro _ _ ⟨g2,rfl,rfl⟩;refine tE O (zG (f:=dR) (l:=l) (l':=[((decR s p:Nat):Int)]) (i:=2) O O O (mF (j:=0) O O) aJf aG7 O O (by unfold maxLen;(try simp only[la,lc,ln,lm,lt',ld,ls,lr]);omega) (by (try simp only[la,lc,ln,lm,lt',ld,ls,lr]);omega)) ?_;rintro _ _ ⟨v3,rfl,rfl⟩;refine g' 3 O ?_;exact tp3 (p+decW s p) v3 (l++[((decR s p:Nat):Int)]) (sa O) (mP 1 O) ⟨by have:=zaK s p hlt;omega,by rw[cO,jN];omega,by rw[hf,hrune,cP];rfl⟩ (by have:=z6 s p;omega)
 have hrune:=za2 hge;refine g' 2 O (tP O (zdW (i:=0) O O hge) (g' 17 O (mW (w9 (zaJ (i:=1) O)) (mW (mB (h':=.sl ov 1 21 ((zaI s).map dR)) O (mD (show List.map dR l=List.map dR (zaI s) from aG _ (by rw[hf,hrune,jL])))) ?_))));exact tR O w8 ⟨_,O,O⟩
def lF (s:Ba) (hs:s.size<=1000000000):
 CD prog 88 [] [.s s] (isR (dB (zbR s))):=by
 refine tZ func88 O O (λC=>?_);refine T.bd 0 O (λbd0=>?_);have sz0:s.size<=9223372036854775807:=bd0;refine g' 8 O (tX [] O O acs (aDs s (by omega)) ?_);rintro _ _ ⟨v1,rfl,rfl⟩;refine g' 5 O ?_;by_cases hg2:(((zaI s).length:Nat):Int)<(1:Int)
 · refine g' 2 O (tP O (zK (n:=(zaI s).length) (j:=0) O O bP (cN _)) (tP O (zau O O (aE hg2)) (g' 22 O ?_)));exact tRs O results88 (.cons (zc (za O) (cB ((by unfold zbR;rw[zb2];first | (rw[c6 (by omega)] at hw;rw[d6,hx1,hw];simp;omega) | (rw[d6,hx1];simp;omega) | (simp;omega))))) .nil) O HSub.none ⟨O,O⟩
 by_cases hg3:(30:Int)<(((zaI s).length:Nat):Int)
 · refine g' 2 O (tP O (zK (n:=(zaI s).length) (j:=0) O O bP (cN _)) (tP O (zau O O (aD hg2)) (g' 2 O (tG O (zK (n:=(zaI s).length) (j:=0) O O bP (cN _)) (tG O (zan O O (aE hg3)) (g' 18 O ?_))))));exact tRs O results88 (.cons (zc (za O) (cB ((by unfold zbR;rw[zb2];first | (rw[c6 (by omega)] at hw;rw[d6,hx1,hw];simp;omega) | (rw[d6,hx1];simp;omega) | (simp;omega))))) .nil) O HSub.none ⟨O,O⟩
 refine g' 2 O (tP O (zK (n:=(zaI s).length) (j:=0) O O bP (cN _)) (tP O (zau O O (aD hg2)) (g' 2 O (tG O (zK (n:=(zaI s).length) (j:=0) O O bP (cN _)) (tG O (zan O O (aD hg3)) (g' 3 O ?_))))));obtain ⟨x1,hx1⟩:=zi (zaI s) 0 (by omega);refine tG O (ze (k:=0) (j:=0) O O O bP sizeOf21 (by first | rfl | omega) (zd hx1)) (tG O (zaS O (i:=0) O (zd hx1) isAgg21 O) (tW O acs (zdG x1) (g' 4 O ?_)));refine tD O (λhc4=>?_) (λhc4=>?_)
 · refine g' 7 O ?_;exact tRs O results88 (.cons (zc (za O) (cB ((by unfold zbR;rw[zb2];first | (rw[sS hx1 (by omega)];simp;done) | (rw[c6 (by omega)] at hw;rw[d6,hx1,hw];simp;omega) | (rw[d6,hx1];simp;omega) | (simp;omega))))) .nil) O HSub.none ⟨O,O⟩
 refine g' 9 O (tl1 (λ(a_:Nat)=>[(3,.ov v1),(4,dN a_)]) (λa_=>[.sl v1 1 21 ((zaI s).map dR)]) (λa_=>(a_<=(zaI s).length)/\(zea ((zaI s).take a_)=true)) (λa_=>(zaI s).length-a_) 0 O (sa O) w8 ⟨cT _,O⟩ ?_);rintro k ⟨hk,hw⟩;refine g' 5 O (tP O (zK (n:=(zaI s).length) (j:=0) O O bP (cN _)) (g' 3 O ?_));refine tD O (λhc5=>?_) (λhc5=>?_)
 · refine g' 8 O ?_;obtain ⟨x2,hx2⟩:=zi (zaI s) k (by omega);refine tP O (ze (k:=k) (j:=0) O O O bP sizeOf21 (by first | rfl | omega) (zd hx2)) (tP O (zaS O (i:=0) O (zd hx2) isAgg21 O) (tW O acs (zdG x2) (g' 2 O ?_)));refine tAnd 6 6 (c:=decide (zC x2≠(2:Int))) O O O O O O (λhb6 nx7=>?_) ?_
   · have hf8:=aF hb6;refine g' 2 O (tG O (ze (k:=k) (j:=0) O O O bP sizeOf21 (by first | rfl | omega) (zd hx2)) (tG O (zaS O (i:=0) O (zd hx2) isAgg21 O) (tW O acs (zdG x2) (g' 1 O ?_))));exact nx7 _ O O (kx 6 O O)
   refine g' 2 O ?_;refine tC O (λhc9=>?_) (λhc9=>?_)
   · simp only[bX,bJ] at hc9;refine g' 11 O ?_;exact tRs O results88 (.cons (zc (za O) (cB ((by unfold zbR;rw[zb2];first | (rw[sS hx2 (by omega)];simp;done) | (rw[c6 (by omega)] at hw;rw[d6,hx1,hw];simp;omega) | (rw[d6,hx1];simp;omega) | (simp;omega))))) .nil) O HSub.none ⟨O,O⟩
   simp only[bX,bJ] at hc9;refine g' 5 O (tP O (zq (c:=((k+1:Nat):Int)) O O (zh (by omega) (by omega))) (g' 2 O ?_));exact tp1 (k+1) (sa O) w8 ⟨by omega,aDh hx2 hw (by omega)⟩ (by omega)
 refine g' 11 O ?_;exact tRs O results88 (.cons (zc (za O) (cB ((by unfold zbR;rw[zb2];first | (rw[c6 (by omega)] at hw;rw[d6,hx1,hw];simp;omega) | (rw[d6,hx1];simp;omega) | (simp;omega))))) .nil) O HSub.none ⟨O,O⟩
end Lp
namespace Lp
open Go Go.RowKit
def aJy (a n:Nat):Int.fdiv (a:Int) (2 ^ n)=((a / 2 ^ n:Nat):Int):=by
 rw[show (2:Int) ^ n=((2 ^ n:Nat):Int) by push_cast;rfl];rw[Int.fdiv_eq_ediv_of_nonneg _ (Int.natCast_nonneg _)];exact(wM a (2 ^ n)).symm
section
variable {P:Program} {ty:TypeId} {K:Kd} {H:List Hp} {t t':TypeId} {x y:Operand}
def zfd {k k':IntKind} {a n m:Nat} (hx:opD K x=some (.v (.int k (a:Int)))) (hy:opD K y=some (.v (.int k' (n:Int)))) (hn:n<=k.bits) (hm:2 ^ n=m):Pu P (.binOp .shr t x y t') ty K H (.v (.int k ((a / m:Nat):Int))):=
 zgv hx hy (λw=>by
  subst hm;have h1:¬((n:Nat):Int)<0:=by omega
  have h2:min n k.bits=n:=by omega
  simp[eqGuard,binOp,Op.shift,h1,h2,aJy])
def aWl {n:Nat} (h:n<256):IntKind.u8.wrap (n:Int)=(n:Int):=by simp[IntKind.wrap,IntKind.bits,IntKind.signed];omega
end
end Lp
namespace Lp
open Go Go.RowKit Go.Proofs Tryz
def aWa (a:Ba) (b:Ba) :
 CD prog 181 [] [.s a,.s b] (isR (dB (hasP a b))):=by
 refine tZ func181 O O (λC=>?_);refine T.bd 0 O (λbd0=>?_);have sz0:a.size<=9223372036854775807:=bd0;refine T.bd 1 O (λbd1=>?_);have sz1:b.size<=9223372036854775807:=bd1;refine g' 8 O (tP O (zah O aN) (g' 1 O (tP O (zah O aN) (g' 2 O ?_))));refine tAnd 5 6 (c:=decide ((a.extract 0 b.size)=b)) O O O O O O (λhb1 nx2=>?_) ?_
 · have hf3:=aF hb1;refine g' 2 O (tG O (zah O aN) (tG O (z7 (a:=0) (c:=b.size) O O O (by first | rfl | (show _=_;omega)) (by first | rfl | (show _=_;omega)) aN (by omega) (by omega)) (g' 2 O ?_)));exact nx2 _ O O (kx 6 O O)
 refine g' 4 O ?_;exact tRs O results181 (.cons (zc (za O) (cB ((by unfold hasP;simp[*])))) .nil) O HSub.none ⟨O,O⟩
def yT (a:Ba) (b:Ba) :
 CD prog 141 [] [.s a,.s b] (isR (dB (hasP a b))):=by
 refine tZ func141 O O (λC=>?_);refine T.bd 0 O (λbd0=>?_);have sz0:a.size<=9223372036854775807:=bd0;refine T.bd 1 O (λbd1=>?_);have sz1:b.size<=9223372036854775807:=bd1;refine g' 9 O (tW O acs (aWa a b) (g' 4 O ?_));exact tR O HSub.none ⟨O,O⟩
end Lp
