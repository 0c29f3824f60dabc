import Derived.Test.YtpbcckjedaieoaaGreatDoorDV
set_option linter.unusedVariables false
namespace Lp
open Go Go.RowKit Go.Proofs Tryz
section
variable {P:Program} {fn:Func} {C:Ctx} {κ:Kc} {K:Kd} {H:List Hp} {p pa pb:List Bool} {i:Nat}
abbrev ops' (fn:Func) (p:List Bool):List Oper:=zax (cd (zal fn) p)
theorem tP {t:Tmp} {op:Op} {ty:TypeId} {d:D} (ho:opP (ops' fn p) i fn.ntmps=some (t,op,ty)) (h:Pu P op ty K H d) (k:T P fn C (.o p (i+1)) κ ((t,d)::K) H):T P fn C (.o p i) κ K H:=⟨oP ho h k.out⟩
theorem tG {t:Tmp} {op:Op} {ty:TypeId} {d:D} (ho:opG (ops' fn p) i fn.ntmps K=some (some t,op,ty)) (h:Pu P op ty K H d) (k:T P fn C (.o p (i+1)) κ ((t,d)::K) H):T P fn C (.o p i) κ K H:=⟨oG ho h k.out⟩
theorem tE {t:Option Tmp} {op:Op} {ty:TypeId} {R:D->List Hp->Prop} (ho:opE (ops' fn p) i fn.ntmps=some (t,op,ty)) (h:Ef P op ty K H R) (k:∀ d H',R d H'->T P fn C (.o p (i+1)) κ (upK K t d) H'):T P fn C (.o p i) κ K H:=⟨oE ho h λd H' r=>(k d H' r).out⟩
theorem tF {t:Option Tmp} {op:Op} {ty:TypeId} {R:D->List Hp->Prop} (ho:opG (ops' fn p) i fn.ntmps K=some (t,op,ty)) (h:Ef P op ty K H R) (k:∀ d H',R d H'->T P fn C (.o p (i+1)) κ (upK K t d) H'):T P fn C (.o p i) κ K H:=⟨oF ho h λd H' r=>(k d H' r).out⟩
def cpK:Kd->Option Kd
 | []=>some []
 | (t,d)::r=>match cpK r with
  | some l=>some ((t,d)::l)
  | none=>none
theorem cpK_eq:∀ {l l':Kd},cpK l=some l'->l=l'
 | [],_,h=>by injection h
 | (t,d)::r,l',h=>by
  unfold cpK at h;split at h
  · rename_i l hl;injection h with h;rw[<-h,cpK_eq hl]
  cases h
theorem tK {t:Tk} {K':Kd} (h:cpK K=some K') (k:T P fn C t κ K' H):T P fn C t κ K H:=cpK_eq h ▸ k
theorem tZ {f:FuncId} {ds:List D} {R:D->List Hp->Prop} (hf:P.funcs[f]?=some fn) (hb:(fn.body.isSome&&Nat.ble ds.length fn.ntmps)=true) (hK:cpF (zf5 0 ds)=some K) (h:∀ C,T P fn C (.c []) (.fin (qret P fn C R)) K H):CD P f H ds R:=by
 rw[c8] at hb;exact cd_of_JD hf hb.1 O hb.2 λC=>by rw[cpF_eq hK];exact(h C).out
theorem tRs {x:Exit} {R:D->List Hp->Prop} {rs:List ResultVar} {ds:List D} {d:D} {H':List Hp} (hx:(match x with | .ret=>true | .normal=>true | _=>false)=true) (hr:fn.results=rs.toArray) (h:ResOs P K H rs ds) (hp:zf2 ds=d) (hs:HSub H H') (hR:R d H'):T P fn C (.e x) (.fin (qret P fn C R)) K H:=by
 refine⟨⟨λρ w F hk g=>?_⟩⟩;cases x<;>simp at hx
 · exact⟨F,(pd_endH hr h hp hs hR).out ρ w F hk g⟩
 exact⟨F,(pd_retH hr h hp hs hR).out ρ w F hk g⟩
def rsF (K:Kd):List ResultVar->Option (List D)
 | []=>some []
 | .tmp t::r=>match zI K t,rsF K r with
  | some d,some l=>some (d::l)
  | _,_=>none
 | _::_=>none
theorem rsF_ok:∀ {rs:List ResultVar} {ds:List D},rsF K rs=some ds->ResOs P K H rs ds
 | [],ds,h=>by simp[rsF] at h;subst h;exact .nil
 | .tmp t::r,ds,h=>by
  simp only[rsF] at h;split at h
  · rename_i d l h1 h2;injection h with h;subst h;exact .cons (zd h1) (rsF_ok h2)
  cases h
 | .cell a t::r,ds,h=>by simp[rsF] at h
def rtF (fn:Func) (K:Kd) (x:Exit):Option D:=match x with
 | .ret=>match rsF K fn.results.toList with
  | some [d]=>some d
  | some ds=>some (.tup ds)
  | none=>none
 | .normal=>match rsF K fn.results.toList with
  | some [d]=>some d
  | some ds=>some (.tup ds)
  | none=>none
 | _=>none
theorem tR {x:Exit} {R:D->List Hp->Prop} {d:D} {H':List Hp} (h:rtF fn K x=some d) (hs:HSub H H') (hR:R d H'):T P fn C (.e x) (.fin (qret P fn C R)) K H:=by
 have key:∀ {o:Option (List D)},(match o with | some [d]=>some d | some ds=>some (.tup ds) | none=>none)=some d->∃ ds,o=some ds/\zf2 ds=d:=by
  intro o h;split at h
  · injection h with h;subst h;exact⟨_,rfl,rfl⟩
  · rename_i ds hne;injection h with h;subst h;exact⟨ds,rfl,by unfold zf2;split<;>first | (exact absurd rfl (hne _)) | rfl⟩
  cases h
 cases x<;>simp only[rtF,reduceCtorEq] at h
 all_goals obtain ⟨ds,h1,h2⟩:=key h
 all_goals exact tRs rfl (by simp) (rsF_ok h1) h2 hs hR
theorem tC {b:Bool} (h:cnF (zal fn) p K=some (pa,pb,.v (.bool b))) (ht:b=true->T P fn C (.c pa) κ K H) (hf:b=false->T P fn C (.c pb) κ K H):T P fn C (.c p) κ K H:=⟨jC h (λe=>(ht e).out) (λe=>(hf e).out)⟩
theorem tD {φ:Prop} {_:Decidable φ} (h:cnF (zal fn) p K=some (pa,pb,.v (.bool (decide φ)))) (ht:φ->T P fn C (.c pa) κ K H) (hf:¬φ->T P fn C (.c pb) κ K H):T P fn C (.c p) κ K H:=⟨jD h (λe=>(ht e).out) (λe=>(hf e).out)⟩
def mpF {α β:Type} (f:α->β):List α->Option (List β)
 | []=>some []
 | x::r=>match mpF f r with
  | some l=>some (f x::l)
  | none=>none
theorem mpF_ok {α β:Type} {f:α->β}:∀ {l:List α} {l':List β},mpF f l=some l'->l'=l.map f
 | [],_,h=>by simp[mpF] at h;subst h;rfl
 | x::r,l',h=>by
  simp only[mpF] at h;split at h
  · rename_i l hl;injection h with h;subst h;rw[mpF_ok hl];rfl
  cases h
def zeroF (P:Program) (t:TypeId):Option D:=match P.info? t with
 | some i=>match i.zero with
  | some v=>match v.cells.toList.all Value.oneCell' with
   | true=>match v with
    | .agg a=>match mpF D.v a.toList with
     | some l=>some (.agg l)
     | none=>none
    | v=>some (.v v)
   | false=>none
  | none=>none
 | none=>none
theorem allOne_of:∀ {l:List Value},l.all Value.oneCell'=true->zb6 l
 | [],_=>trivial
 | x::r,h=>by simp only[List.all_cons,c8] at h;exact⟨h.1,allOne_of h.2⟩
theorem zeroF_ok {t:TypeId} {X:D} (h:zeroF P t=some X):∃ zv,(∀ w,(zeroValue t).run P w=.ok zv w)/\zb6 zv.cells.toList/\Cv (.v zv) X:=by
 unfold zeroF at h;split at h
 · rename_i inf hi;split at h
   · rename_i v hz;split at h
     · rename_i hall;have h1:∀ w,(zeroValue t).run P w=.ok v w:=λw=>by simp[zeroValue,run_ti hi,hz]
       have h2:=allOne_of hall;split at h
       · rename_i a;split at h
         · rename_i l hl;injection h with h;subst h;refine⟨_,h1,h2,?_⟩;rw[mpF_ok hl];exact mC (λc hc=>dK.1 hall c (by simpa [Value.cells] using hc))
         cases h
       injection h with h;subst h;exact⟨_,h1,h2,mA⟩
     cases h
   cases h
 cases h
def alF (P:Program) (fn:Func) (p:List Bool) (i:Nat) (K:Kd):Option (Tmp×TypeId×D):=match opAt (ops' fn p) i with
 | some (some dst,.alloc t,_,gd)=>match gdS (ops' fn p) fn.ntmps K gd,Nat.blt dst fn.ntmps,zeroF P t with
  | some true,true,some X=>some (dst,t,X)
  | _,_,_=>none
 | some (some dst,.box t x,_,gd)=>match gdS (ops' fn p) fn.ntmps K gd,Nat.blt dst fn.ntmps,opD K x with
  | some true,true,some X=>match zgc X with
   | true=>some (dst,t,X)
   | false=>none
  | _,_,_=>none
 | _=>none
theorem tA {t:Tmp} {ty:TypeId} {X:D} (h:alF P fn p i K=some (t,ty,X)) (k:∀ g,T P fn C (.o p (i+1)) κ ((t,.v (.pointer (some ⟨g,0,none⟩)))::K) (.bx g ty X::H)):T P fn C (.o p i) κ K H:=by
 refine⟨?_⟩;unfold alF at h;split at h
 · rename_i dst t' ty' gd ho;split at h
   · rename_i Y hg hd hz;simp only[dF,d5] at h;obtain ⟨rfl,rfl,rfl⟩:=h;obtain ⟨zv,h1,h2,h3⟩:=zeroF_ok hz;exact zf3 ho hg hd (ef_alloc h1 h2 h3) λ_ _ ⟨g,e1,e2⟩=>by subst e1;subst e2;exact(k g).out
   cases h
 · rename_i dst t' x ty' gd ho;split at h
   · rename_i Y hg hd hx;split at h
     · rename_i hc;simp only[dF,d5] at h;obtain ⟨rfl,rfl,rfl⟩:=h;exact zf3 ho hg hd (ef_box hx (cellB_ok hc)) λ_ _ ⟨g,e1,e2⟩=>by subst e1;subst e2;exact(k g).out
     cases h
   cases h
 cases h
def rmF {α:Type}:Nat->List α->Option (α×List α)
 | _,[]=>none
 | 0,x::r=>some (x,r)
 | j+1,x::r=>match rmF j r with
  | some (y,l)=>some (y,x::l)
  | none=>none
theorem rmF_ok {α:Type}:∀ {j:Nat} {l r:List α} {x:α},rmF j l=some (x,r)->l.Perm (x::r)
 | _,[],_,_,h=>by simp[rmF] at h
 | 0,x::r,_,_,h=>by simp only[rmF,dF,d5] at h;obtain ⟨rfl,rfl⟩:=h;exact vM _
 | j+1,x::r,_,y,h=>by
  simp only[rmF] at h;split at h
  · rename_i z l hz;simp only[dF,d5] at h;obtain ⟨rfl,rfl⟩:=h;exact((rmF_ok hz).cons x).trans (List.Perm.swap _ _ _)
  cases h
theorem kE (j:Nat) {t:Tk} {h:Hp} {H':List Hp} (e:rmF j H=some (h,H')) (k:T P fn C t κ K (h::H')):T P fn C t κ K H:=kC (mF (rmF_ok e)) k
theorem T.drop {t:Tk} (k:T P fn C t κ K []):T P fn C t κ K H:=kC (mE (List.nil_sublist _)) k
def pkF:List Nat->List Hp->Option (List Hp×List Hp)
 | [],H=>some ([],H)
 | j::js,H=>match rmF j H with
  | some (h,H1)=>match pkF js H1 with
   | some (L,R)=>some (h::L,R)
   | none=>none
  | none=>none
theorem pkF_ok:∀ {js:List Nat} {H L R:List Hp},pkF js H=some (L,R)->H.Perm (L++R)
 | [],H,L,R,h=>by simp only[pkF,dF,d5] at h;obtain ⟨rfl,rfl⟩:=h;exact vM _
 | j::js,H,L,R,h=>by
  simp only[pkF] at h;split at h
  · rename_i x H1 h1;split at h
    · rename_i L' R' h2;simp only[dF,d5] at h;obtain ⟨rfl,rfl⟩:=h;exact(rmF_ok h1).trans ((pkF_ok h2).cons x)
    cases h
  cases h
def gtF (H:List Hp):List Nat->Option (List Hp)
 | []=>some []
 | j::js=>match nth H j,gtF H js with
  | some h,some l=>some (h::l)
  | _,_=>none
theorem gtF_ok:∀ {js:List Nat} {L:List Hp},gtF H js=some L->∀ h∈L,h∈H
 | [],L,h=>by simp[gtF] at h;subst h;intro x hx;cases hx
 | j::js,L,h=>by
  simp only[gtF] at h;split at h
  · rename_i y l h1 h2;injection h with h;subst h;intro x hx;cases hx with
    | head=>exact zR h1
    | tail _ hm=>exact gtF_ok h2 x hm
  cases h
def clF (fn:Func) (p:List Bool) (i:Nat) (K:Kd):Option (Option Tmp×FuncId×List D):=match opAt (ops' fn p) i with
 | some (dst,.call { callee:=.value x,args:=xs,argTypes:=_ },_,gd)=>match gdS (ops' fn p) fn.ntmps K gd,dok fn.ntmps dst,opD K x,opsD K xs.toList with
  | some true,true,some (.fn f [] []),some ds=>match dst with
   | some t=>some (some t,f,ds)
   | none=>some (none,f,ds)
  | some true,true,some (.fn f a b),some ds=>some (dst,f,a++ds++b)
  | _,_,_,_=>none
 | _=>none
theorem clF_ok {t:Option Tmp} {f:FuncId} {ds0:List D} (h:clF fn p i K=some (t,f,ds0)):∃ x xs ats ty gd a b ds,opAt (ops' fn p) i=some (t,.call { callee:=.value x,args:=xs,argTypes:=ats },ty,gd)/\gdS (ops' fn p) fn.ntmps K gd=some true/\dok fn.ntmps t=true/\opD K x=some (.fn f a b)/\opsD K xs.toList=some ds/\ds0=a++ds++b:=by
 unfold clF at h;split at h
 · rename_i dst x xs ats ty gd ho;split at h
   · rename_i f' ds hg hd hx has;split at h;all_goals
      simp only[dF,d5] at h;obtain ⟨rfl,rfl,rfl⟩:=h;exact⟨_,_,_,_,_,_,_,_,ho,hg,hd,hx,has,by simp⟩
   · rename_i f' a b ds _ hg hd hx has;simp only[dF,d5] at h;obtain ⟨rfl,rfl,rfl⟩:=h;exact⟨_,_,_,_,_,_,_,_,ho,hg,hd,hx,has,O⟩
   cases h
 cases h
theorem tY (js ls:List Nat) {t:Option Tmp} {f:FuncId} {ds0 ds:List D} {L M Hr:List Hp} {R:D->List Hp->Prop} (ho:clF fn p i K=some (t,f,ds0)) (hp:pkF js H=some (L,Hr)) (hl:gtF Hr ls=some M) (ha:ArgCs M ds0 ds) (hcall:CD P f L ds R) (hfl:M=[]\/∀ d H',R d H'->d.flat=true/\∀ h∈H',h.flat=true)
 (k:∀ d H1,R d H1->T P fn C (.o p (i+1)) κ (upK K t d) (H1++Hr)) (hc:∀ args w,(callFunc f args).run P w=.ok (.enter f args) w:=by intros;kernel_rfl):T P fn C (.o p i) κ K H:=by
 obtain ⟨x,xs,ats,ty,gd,a,b,ds1,h1,h2,h3,h4,h5,rfl⟩:=clF_ok ho;refine kC (mF (pkF_ok hp)) ⟨zf3 h1 h2 h3 (ef_callv L Hr M O h4 h5 ha (gtF_ok hl) hc hcall hfl) ?_⟩;rintro d _ ⟨H1,r,rfl⟩;exact(k d H1 r).out
theorem tX (js:List Nat) {t:Option Tmp} {f:FuncId} {ds0 ds:List D} {L Hr:List Hp} {R:D->List Hp->Prop} (ho:clF fn p i K=some (t,f,ds0)) (hp:pkF js H=some (L,Hr)) (ha:ArgCs [] ds0 ds) (hcall:CD P f L ds R)
 (k:∀ d H1,R d H1->T P fn C (.o p (i+1)) κ (upK K t d) (H1++Hr)) (hc:∀ args w,(callFunc f args).run P w=.ok (.enter f args) w:=by intros;kernel_rfl):T P fn C (.o p i) κ K H:=tY js [] ho hp rfl ha hcall (.inl rfl) k hc
theorem tW {t:Option Tmp} {f:FuncId} {ds0 ds:List D} {d:D} (ho:clF fn p i K=some (t,f,ds0)) (ha:ArgCs [] ds0 ds) (hcall:CD P f [] ds (isR d)) (k:T P fn C (.o p (i+1)) κ (upK K t d) H) (hc:∀ args w,(callFunc f args).run P w=.ok (.enter f args) w:=by intros;kernel_rfl):T P fn C (.o p i) κ K H:=
 tX [] ho rfl ha hcall (by rintro _ _ ⟨rfl,rfl⟩;exact k) hc
theorem tV (ls:List Nat) {t:Option Tmp} {f:FuncId} {ds0 ds:List D} {M:List Hp} {d:D} (ho:clF fn p i K=some (t,f,ds0)) (hl:gtF H ls=some M) (ha:ArgCs M ds0 ds) (hcall:CD P f [] ds (isR d)) (hd:d.flat=true) (k:T P fn C (.o p (i+1)) κ (upK K t d) H) (hc:∀ args w,(callFunc f args).run P w=.ok (.enter f args) w:=by intros;kernel_rfl):T P fn C (.o p i) κ K H:=
 tY [] ls ho rfl hl ha hcall (.inr (by rintro _ _ ⟨rfl,rfl⟩;exact⟨hd,λ_ h=>by cases h⟩)) (by rintro _ _ ⟨rfl,rfl⟩;exact k) hc
theorem tS (t:Nat) (b:Bool) {tk:Tk} (h:∀ κ':Kc,T P fn C (.e .normal) κ' ((t,.v (.bool b))::K) H->T P fn C tk κ' K H) (next:T P fn C (.e .normal) κ ((t,.v (.bool b))::K) H):T P fn C tk κ K H:=h κ next
theorem tJ {A:Type} (L:A->Kd) (HI:A->List Hp) (I:A->Prop) {tk:Tk} (h:∀ κ':Kc,(∀ g,I g->T P fn C (.e .normal) κ' (L g) (HI g))->T P fn C tk κ' K H) (next:∀ g,I g->T P fn C (.e .normal) κ (L g) (HI g)):T P fn C tk κ K H:=h κ next
theorem tJr {A:Type} (L:A->Kd) (HI:A->List Hp) (I:A->Prop) {tk:Tk} (h:∀ κ':Kc,(∀ g,I g->T P fn C (.e .normal) κ' (L g) (HI g))->(∀ K H,T P fn C (.e .ret) κ K H->T P fn C (.e .ret) κ' K H)->T P fn C tk κ' K H) (next:∀ g,I g->T P fn C (.e .normal) κ (L g) (HI g)):T P fn C tk κ K H:=h κ next (λ_ _ k=>k)
def ddK (l:List Nat):Kd->Kd
 | []=>[]
 | (s,d)::r=>match inL l s with
  | true=>ddK l r
  | false=>(s,d)::ddK (s::l) r
theorem ddK_look:∀ (K:Kd) {l:List Nat} {s:Nat},inL l s=false->zI (ddK l K) s=zI K s
 | [],_,_,_=>rfl
 | (u,d)::r,l,s,h=>by
  unfold ddK;cases e:inL l u with
  | true=>
   show zI (ddK l r) s=(bif Nat.beq s u then some d else zI r s);cases e2:Nat.beq s u with
   | true=>rw[dU e2,e] at h;cases h
   | false=>exact ddK_look r h
  | false=>
   show (bif Nat.beq s u then some d else zI (ddK (u::l) r) s)=(bif Nat.beq s u then some d else zI r s);cases e2:Nat.beq s u with
   | true=>rfl
   | false=>exact ddK_look r (by show (bif Nat.beq s u then true else inL l s)=false;rw[e2];exact h)
theorem tqe {K1:Kd} {x:Exit} (hQ:T P fn C (.e x) κ K1 H) (hs:(ddK [] K1).map (λp=>zI K p.1)=(ddK [] K1).map (λp=>some p.2)):T P fn C (.e x) κ K H:=
 T.sub (ddK [] K1) (sa hs) (m9 ⟨λC w F ρ hk g=>⟨F,λs d hd=>hk s d (by rw[ddK_look K1 rfl];exact hd),g⟩⟩ hQ)
theorem tQ {t:Nat} {b b':Bool} {K1:Kd} {x:Exit} (hQ:T P fn C (.e x) κ ((t,.v (.bool b))::K1) H) (h:zI K t=some (.v (.bool b'))) (hs:(ddK [t] K1).map (λp=>zI K p.1)=(ddK [t] K1).map (λp=>some p.2)) (hb:b'=b):T P fn C (.e x) κ K H:=
 T.sub ((t,.v (.bool b))::ddK [t] K1) ⟨⟨_,h,cB hb⟩,sa hs⟩ (m9 ⟨λC w F ρ hk g=>⟨F,λs d hd=>hk s d (by
  have hd:(bif Nat.beq s t then some (D.v (.bool b)) else zI K1 s)=some d:=hd;show (bif Nat.beq s t then some (D.v (.bool b)) else zI (ddK [t] K1) s)=some d;cases e:Nat.beq s t with
  | true=>rw[e] at hd;exact hd
  | false=>rw[e] at hd;rw[ddK_look K1 (by show (bif Nat.beq s t then true else false)=false;rw[e];rfl)];exact hd),g⟩⟩ hQ)
theorem T.loop {A:Type} (L:A->Kd) (HI:A->List Hp) (I:A->Prop) (μ:A->Nat) (g:A) (hk:lpF (zal fn) p=some pa) (hs:SubK (L g) K) (hH:HSub H (HI g)) (hI:I g)
 (h:∀ g,I g->T P fn C (.c pa) (.lp (λK H=>∃ g',K=L g'/\H=HI g'/\I g'/\μ g'<μ g) κ) (L g) (HI g)):T P fn C (.c p) κ K H:=by
 refine⟨jd_loop L HI I μ pa g (lpF_ok hk).1 (lpF_ok hk).2 hs hH hI λg hg=>?_⟩;have h1:=(h g hg).out;refine⟨λa w F ok hk gd=>?_⟩;refine wp_mono (h1.out a w F ok hk gd) ?_;rintro e a' w' ⟨ok',F',q⟩;refine⟨ok',?_⟩;cases e with
 | normal=>obtain ⟨K',H',⟨g',rfl,rfl,hI',hμ⟩,hk',gd'⟩:=q;exact⟨F',g',hk',gd',hI',hμ⟩
 | exit id=>exact⟨F',q⟩
 | goto k=>exact⟨F',q⟩
 | ret=>exact⟨F',q⟩
 | panic ch=>exact⟨F',q⟩
 | outgrown=>exact⟨F',q⟩
theorem T.again {J:Kd->List Hp->Prop} {K':Kd} {H':List Hp} (hJ:J K' H') (hs:SubK K' K) (hH:HSub H H'):T P fn C (.e .normal) (.lp J κ) K H:=
 ⟨⟨λρ w F hk g=>⟨F,K',H',hJ,hs.out hk,hH.out _ _ _ g⟩⟩⟩
theorem T.lpj {J J':Kd->List Hp->Prop} {t:Tk} (h:∀ K H,J K H->J' K H) (k:T P fn C t (.lp J κ) K H):T P fn C t (.lp J' κ) K H:=by
 have hq:∀ e ρ w F,(Kc.lp J κ).q P fn C e ρ w F->(Kc.lp J' κ).q P fn C e ρ w F:=by
  intro e ρ w F q;cases e with
  | normal=>obtain ⟨K,H,a,b⟩:=q;exact⟨K,H,h K H a,b⟩
  | exit id=>exact q
  | goto l=>exact q
  | ret=>exact q
  | panic ch=>exact q
  | outgrown=>exact q
 obtain ⟨k⟩:=k;refine⟨?_⟩;cases t with
 | c p=>exact⟨λa w F ok hk g=>wp_mono (k.out a w F ok hk g) λe a' w' ⟨o,F',q⟩=>⟨o,F',hq _ _ _ _ q⟩⟩
 | o p i=>exact⟨λa w F ok hk g=>zaz (λe a' w' ⟨e1,o,F',q⟩=>⟨e1,o,F',hq _ _ _ _ q⟩) _ _ _ (k.out a w F ok hk g)⟩
 | e x=>exact⟨λρ w F hk g=>by obtain ⟨F',q⟩:=k.out ρ w F hk g;exact⟨F',hq _ _ _ _ q⟩⟩
theorem tDr (n:Nat) (ens:List En) (Hs:List Hp) {Hn:List Hp} (hm:P.follows .mixedOrders=true) (hc:zcy (cd (zal fn) p)=some true) (hlen:Nat.beq ens.length n=true) (hB:drawB (zax (cd (zal fn) p)) n fn.ntmps (K.map λx=>(x.1,Value.nilFunc))=true) (hch:zfs (zax (cd (zal fn) p)) ens=true) (hs0:HSub H Hs) (hHn:hof H ens n=Hn)
 (hsteps:ze6 P fn.ntmps (zax (cd (zal fn) p)) K Hs H ens 0 n) (next:T P fn C (.o p n) κ (enK ens K) Hn):T P fn C (.c p) κ K H:=⟨jd_draw n ens Hs hm hc hlen hB hch hs0 hHn hsteps next.out⟩
theorem tDo (n:Nat) (es:List (Tmp×Ex)) (Hs:List Hp) {Hn:Gh->List Hp} (hm:P.follows .mixedOrders=true) (hc:zcy (cd (zal fn) p)=some true) (hlen:Nat.beq es.length n=true) (hB:zec (zax (cd (zal fn) p)) n fn.ntmps (K.map λx=>(x.1,Value.nilFunc))=true) (hch:zfs (zax (cd (zal fn) p)) (gens (λ_=>undef) 0 es)=true) (hrd:readB (zax (cd (zal fn) p)) es (gens (λ_=>undef) 0 es)=true) (hs0:HSub H Hs) (hHn:∀ γ,hof H (gens γ 0 es) n=Hn γ)
 (hsteps:∀ γ,ze5 P fn.ntmps (zax (cd (zal fn) p)) K Hs H γ es 0 n) (next:∀ γ,T P fn C (.o p n) κ (enK (gens γ 0 es) K) (Hn γ)):T P fn C (.c p) κ K H:=⟨jd_drawo n es Hs hm hc hlen hB hch hrd hs0 hHn hsteps λγ=>(next γ).out⟩
theorem tDx (n:Nat) (es:List (Tmp×Ey)) (Hs:List Hp) (HF:HFn) (Hn:Gh->List Hp) (hm:P.follows .mixedOrders=true) (hc:zcy (cd (zal fn) p)=some true) (hlen:Nat.beq es.length n=true) (hB:zec (zax (cd (zal fn) p)) n fn.ntmps (K.map λx=>(x.1,Value.nilFunc))=true) (hs0:∀ D γ,HSub (HF D γ) Hs)
 (h0:∀ γ (D:Nat->Bool),(∀ i,i<n->D i=false)->HF D γ=H) (hHn:∀ γ (D:Nat->Bool),(∀ i,i<n->D i=true)->HF D γ=Hn γ)
 (hsteps:∀ γ,ze4 P fn.ntmps n (zax (cd (zal fn) p)) K Hs HF γ es 0 n) (next:∀ γ,T P fn C (.o p n) κ (enK (geny γ 0 es) K) (Hn γ)):T P fn C (.c p) κ K H:=⟨jd_drawx n es Hs HF Hn hm hc hlen hB hs0 h0 hHn hsteps λγ=>(next γ).out⟩
theorem tOr {b c:Bool} (j n:Nat) {s t:Tmp} {y:Operand} {ty:TypeId} (hp:opAt (ops' fn p) (i+n)=some (some t,.pick (.tmp s) (.const (.bool true)) y,ty,none)) (ht:Nat.blt t fn.ntmps=true) (hj:zX (ops' fn p) j=some s) (hs:Nat.blt s fn.ntmps=true) (hb:zI K s=some (.v (.bool b))) (hk:skB (ops' fn p) fn.ntmps j false (ksK K) i n=true)
 (run:b=false->(∀ K2,zI K2 s=some (.v (.bool false))->opD K2 y=some (.v (.bool c))->KX ((s,.v (.bool false))::K) K2->T P fn C (.o p (i+n)) κ K2 H)->T P fn C (.o p i) κ ((s,.v (.bool false))::K) H)
 (next:T P fn C (.o p (i+n+1)) κ ((t,.v (.bool (b||c)))::K) H):T P fn C (.o p i) κ K H:=⟨od_or j n hp ht hj hs hb hk (λe h=>(run e λK2 a b c=>⟨h K2 a b c⟩).out) next.out⟩
theorem tAnd {b c:Bool} (j n:Nat) {s t:Tmp} {x:Operand} {ty:TypeId} (hp:opAt (ops' fn p) (i+n)=some (some t,.pick (.tmp s) x (.const (.bool false)),ty,none)) (ht:Nat.blt t fn.ntmps=true) (hj:zX (ops' fn p) j=some s) (hs:Nat.blt s fn.ntmps=true) (hb:zI K s=some (.v (.bool b))) (hk:skB (ops' fn p) fn.ntmps j true (ksK K) i n=true)
 (run:b=true->(∀ K2,zI K2 s=some (.v (.bool true))->opD K2 x=some (.v (.bool c))->KX ((s,.v (.bool true))::K) K2->T P fn C (.o p (i+n)) κ K2 H)->T P fn C (.o p i) κ ((s,.v (.bool true))::K) H)
 (next:T P fn C (.o p (i+n+1)) κ ((t,.v (.bool (b&&c)))::K) H):T P fn C (.o p i) κ K H:=⟨od_and j n hp ht hj hs hb hk (λe h=>(run e λK2 a b c=>⟨h K2 a b c⟩).out) next.out⟩
theorem ts (t':Nat) {t:Tk} {d d':D} (h:zI K t'=some d) (e:d=d') (k:T P fn C t κ ((t',d')::K) H):T P fn C t κ K H:=by
 subst e;refine m9 ⟨λC w F ρ hk g=>⟨F,λs u hu=>?_,g⟩⟩ k;simp only[zI] at hu;by_cases e:s=t'
 · subst e;rw[show Nat.beq s s=true from j6 s] at hu;simp only[cond_true,dF] at hu;subst hu;exact hk s _ h
 rw[za6 e] at hu;exact hk s u hu
theorem T.kk {t:Tk} (K':Kd) (h:K=K') (k:T P fn C t κ K' H):T P fn C t κ K H:=h ▸ k
theorem g' (n:Nat) {t t':Tk} {κ':Kc} {K':Kd} {H':List Hp} (h:run P fn n [] t κ K H [] []=some (t',κ',K',H',[],[])) (k:T P fn C t' κ' K' H'):T P fn C t κ K H:=gQ n [] h rfl k
def J1 {A0:Type} (L:A0->Kd) (HI:A0->List Hp) (I:A0->Prop) (μ:A0->Nat) (n:Nat) (K:Kd) (H:List Hp):Prop:=∃ b0,K=L b0/\H=HI b0/\I b0/\μ b0<n
theorem tl1 {A0:Type} (L:A0->Kd) (HI:A0->List Hp) (I:A0->Prop) (μ:A0->Nat) (x0:A0) (hk:lpF (zal fn) p=some pa) (hs:SubK (L x0) K) (hH:HSub H (HI x0)) (hI:I x0) (h:∀ b0,I b0->T P fn C (.c pa) (.lp (J1 L HI I μ (μ b0)) κ) (L b0) (HI b0)):T P fn C (.c p) κ K H:=
 T.loop (λg:A0=>L g) (λg:A0=>HI g) (λg:A0=>I g) (λg:A0=>μ g) x0 hk hs hH hI λg hg=>T.lpj (λK H ⟨b0,h⟩=>⟨b0,h⟩) (h g hg)
theorem tp1 {A0:Type} {L:A0->Kd} {HI:A0->List Hp} {I:A0->Prop} {μ:A0->Nat} {n:Nat} (b0:A0) (hs:SubK (L b0) K) (hH:HSub H (HI b0)) (hI:I b0) (hμ:μ b0<n):T P fn C (.e .normal) (.lp (J1 L HI I μ n) κ) K H:=
 T.again ⟨b0,rfl,rfl,hI,hμ⟩ hs hH
def J2 {A0 A1:Type} (L:A0->A1->Kd) (HI:A0->A1->List Hp) (I:A0->A1->Prop) (μ:A0->A1->Nat) (n:Nat) (K:Kd) (H:List Hp):Prop:=∃ b0 b1,K=L b0 b1/\H=HI b0 b1/\I b0 b1/\μ b0 b1<n
theorem tl2 {A0 A1:Type} (L:A0->A1->Kd) (HI:A0->A1->List Hp) (I:A0->A1->Prop) (μ:A0->A1->Nat) (x0:A0) (x1:A1) (hk:lpF (zal fn) p=some pa) (hs:SubK (L x0 x1) K) (hH:HSub H (HI x0 x1)) (hI:I x0 x1) (h:∀ b0 b1,I b0 b1->T P fn C (.c pa) (.lp (J2 L HI I μ (μ b0 b1)) κ) (L b0 b1) (HI b0 b1)):T P fn C (.c p) κ K H:=
 T.loop (λg:A0×A1=>L g.1 g.2) (λg:A0×A1=>HI g.1 g.2) (λg:A0×A1=>I g.1 g.2) (λg:A0×A1=>μ g.1 g.2) (x0,x1) hk hs hH hI λg hg=>T.lpj (λK H ⟨b0,b1,h⟩=>⟨(b0,b1),h⟩) (h g.1 g.2 hg)
theorem tp2 {A0 A1:Type} {L:A0->A1->Kd} {HI:A0->A1->List Hp} {I:A0->A1->Prop} {μ:A0->A1->Nat} {n:Nat} (b0:A0) (b1:A1) (hs:SubK (L b0 b1) K) (hH:HSub H (HI b0 b1)) (hI:I b0 b1) (hμ:μ b0 b1<n):T P fn C (.e .normal) (.lp (J2 L HI I μ n) κ) K H:=
 T.again ⟨b0,b1,rfl,rfl,hI,hμ⟩ hs hH
def J3 {A0 A1 A2:Type} (L:A0->A1->A2->Kd) (HI:A0->A1->A2->List Hp) (I:A0->A1->A2->Prop) (μ:A0->A1->A2->Nat) (n:Nat) (K:Kd) (H:List Hp):Prop:=∃ b0 b1 b2,K=L b0 b1 b2/\H=HI b0 b1 b2/\I b0 b1 b2/\μ b0 b1 b2<n
theorem tl3 {A0 A1 A2:Type} (L:A0->A1->A2->Kd) (HI:A0->A1->A2->List Hp) (I:A0->A1->A2->Prop) (μ:A0->A1->A2->Nat) (x0:A0) (x1:A1) (x2:A2) (hk:lpF (zal fn) p=some pa) (hs:SubK (L x0 x1 x2) K) (hH:HSub H (HI x0 x1 x2)) (hI:I x0 x1 x2) (h:∀ b0 b1 b2,I b0 b1 b2->T P fn C (.c pa) (.lp (J3 L HI I μ (μ b0 b1 b2)) κ) (L b0 b1 b2) (HI b0 b1 b2)):T P fn C (.c p) κ K H:=
 T.loop (λg:A0×A1×A2=>L g.1 g.2.1 g.2.2) (λg:A0×A1×A2=>HI g.1 g.2.1 g.2.2) (λg:A0×A1×A2=>I g.1 g.2.1 g.2.2) (λg:A0×A1×A2=>μ g.1 g.2.1 g.2.2) (x0,x1,x2) hk hs hH hI λg hg=>T.lpj (λK H ⟨b0,b1,b2,h⟩=>⟨(b0,b1,b2),h⟩) (h g.1 g.2.1 g.2.2 hg)
theorem tp3 {A0 A1 A2:Type} {L:A0->A1->A2->Kd} {HI:A0->A1->A2->List Hp} {I:A0->A1->A2->Prop} {μ:A0->A1->A2->Nat} {n:Nat} (b0:A0) (b1:A1) (b2:A2) (hs:SubK (L b0 b1 b2) K) (hH:HSub H (HI b0 b1 b2)) (hI:I b0 b1 b2) (hμ:μ b0 b1 b2<n):T P fn C (.e .normal) (.lp (J3 L HI I μ n) κ) K H:=
 T.again ⟨b0,b1,b2,rfl,rfl,hI,hμ⟩ hs hH
def J4 {A0 A1 A2 A3:Type} (L:A0->A1->A2->A3->Kd) (HI:A0->A1->A2->A3->List Hp) (I:A0->A1->A2->A3->Prop) (μ:A0->A1->A2->A3->Nat) (n:Nat) (K:Kd) (H:List Hp):Prop:=∃ b0 b1 b2 b3,K=L b0 b1 b2 b3/\H=HI b0 b1 b2 b3/\I b0 b1 b2 b3/\μ b0 b1 b2 b3<n
theorem tl4 {A0 A1 A2 A3:Type} (L:A0->A1->A2->A3->Kd) (HI:A0->A1->A2->A3->List Hp) (I:A0->A1->A2->A3->Prop) (μ:A0->A1->A2->A3->Nat) (x0:A0) (x1:A1) (x2:A2) (x3:A3) (hk:lpF (zal fn) p=some pa) (hs:SubK (L x0 x1 x2 x3) K) (hH:HSub H (HI x0 x1 x2 x3)) (hI:I x0 x1 x2 x3) (h:∀ b0 b1 b2 b3,I b0 b1 b2 b3->T P fn C (.c pa) (.lp (J4 L HI I μ (μ b0 b1 b2 b3)) κ) (L b0 b1 b2 b3) (HI b0 b1 b2 b3)):T P fn C (.c p) κ K H:=
 T.loop (λg:A0×A1×A2×A3=>L g.1 g.2.1 g.2.2.1 g.2.2.2) (λg:A0×A1×A2×A3=>HI g.1 g.2.1 g.2.2.1 g.2.2.2) (λg:A0×A1×A2×A3=>I g.1 g.2.1 g.2.2.1 g.2.2.2) (λg:A0×A1×A2×A3=>μ g.1 g.2.1 g.2.2.1 g.2.2.2) (x0,x1,x2,x3) hk hs hH hI λg hg=>T.lpj (λK H ⟨b0,b1,b2,b3,h⟩=>⟨(b0,b1,b2,b3),h⟩) (h g.1 g.2.1 g.2.2.1 g.2.2.2 hg)
theorem tp4 {A0 A1 A2 A3:Type} {L:A0->A1->A2->A3->Kd} {HI:A0->A1->A2->A3->List Hp} {I:A0->A1->A2->A3->Prop} {μ:A0->A1->A2->A3->Nat} {n:Nat} (b0:A0) (b1:A1) (b2:A2) (b3:A3) (hs:SubK (L b0 b1 b2 b3) K) (hH:HSub H (HI b0 b1 b2 b3)) (hI:I b0 b1 b2 b3) (hμ:μ b0 b1 b2 b3<n):T P fn C (.e .normal) (.lp (J4 L HI I μ n) κ) K H:=
 T.again ⟨b0,b1,b2,b3,rfl,rfl,hI,hμ⟩ hs hH
end
end Lp
set_option linter.unusedSimpArgs false
set_option maxHeartbeats 4000000
set_option maxRecDepth 100000
namespace Lp
open Go Go.RowKit Go.Proofs Tryz
theorem infz_21:IzP prog 21 (.int .i32 0) 1 4:=zbg (by kernel_rfl)
theorem und_124:Tryz.prog.underlying 124=some (.slice 21):=by kernel_rfl
theorem Kind_c (r:Int) :
 CD prog 61 [] [.v (.int .i32 r)] (isR (dI (zJ r))):=by
 refine tZ func61 O O (λC=>?_);refine g' 12 O ?_;refine tOr 2 2 (c:=decide (r=(65533:Int))) O O O O O O (λhb1 nx2=>?_) ?_
 · have hf3:=of_decide_eq_false hb1;refine g' 2 O ?_;exact nx2 _ O O (kx 2 O O)
 refine g' 3 O ?_;refine tC O (λhc4=>?_) (λhc4=>?_)
 · simp only[bX,bJ] at hc4;refine g' 8 O ?_;exact tRs O results61 (.cons (zf (zd O) (mB (congrArg (λn=>D.v (.int .i64 n)) (by unfold zJ;(repeat (any_goals split))<;>omega)))) .nil) O HSub.none ⟨O,O⟩
 simp only[bX,bJ] at hc4;refine g' 1 O ?_;refine tS 10 (((((decide ((97:Int)<=r)&&decide (r<=(122:Int)))||(decide ((65:Int)<=r)&&decide (r<=(90:Int))))||decide (r=(95:Int)))||decide ((128:Int)<=r))) (λ_ hQ5=>?_) ?_
 · by_cases hg6:(97:Int)<=r
   · by_cases hg7:r<=(122:Int)
     · refine g' 2 O (tP O (zan O O (decide_eq_true hg6)) (g' 2 O (tG O (zbm O O (decide_eq_true hg7)) (g' 19 O ?_))));exact tQ hQ5 O O (by first | (simp[hg6,hg7];done) | (simp_all;done))
     by_cases hg8:(65:Int)<=r
     · by_cases hg9:r<=(90:Int)
       · refine g' 2 O (tP O (zan O O (decide_eq_true hg6)) (g' 2 O (tG O (zbm O O (decide_eq_false hg7)) (g' 3 O (tG O (zan O O (decide_eq_true hg8)) (g' 2 O (tG O (zbm O O (decide_eq_true hg9)) (g' 12 O ?_))))))));exact tQ hQ5 O O (by first | (simp[hg6,hg7,hg8,hg9];done) | (simp_all;done))
       by_cases hg10:r=(95:Int)
       · refine g' 2 O (tP O (zan O O (decide_eq_true hg6)) (g' 2 O (tG O (zbm O O (decide_eq_false hg7)) (g' 3 O (tG O (zan O O (decide_eq_true hg8)) (g' 2 O (tG O (zbm O O (decide_eq_false hg9)) (g' 4 O (tG O (zaE O O (decide_eq_true hg10)) (g' 7 O ?_))))))))));exact tQ hQ5 O O (by first | (simp[hg10,hg6,hg7,hg8,hg9];done) | (simp_all;done))
       refine g' 2 O (tP O (zan O O (decide_eq_true hg6)) (g' 2 O (tG O (zbm O O (decide_eq_false hg7)) (g' 3 O (tG O (zan O O (decide_eq_true hg8)) (g' 2 O (tG O (zbm O O (decide_eq_false hg9)) (g' 4 O (tG O (zaE O O (decide_eq_false hg10)) (g' 7 O ?_))))))))));exact tQ hQ5 O O (by first | (simp[hg10,hg6,hg7,hg8,hg9];done) | (simp_all;done))
     by_cases hg11:r=(95:Int)
     · refine g' 2 O (tP O (zan O O (decide_eq_true hg6)) (g' 2 O (tG O (zbm O O (decide_eq_false hg7)) (g' 3 O (tG O (zan O O (decide_eq_false hg8)) (g' 7 O (tG O (zaE O O (decide_eq_true hg11)) (g' 7 O ?_))))))));exact tQ hQ5 O O (by first | (simp[hg11,hg6,hg7,hg8];done) | (simp_all;done))
     refine g' 2 O (tP O (zan O O (decide_eq_true hg6)) (g' 2 O (tG O (zbm O O (decide_eq_false hg7)) (g' 3 O (tG O (zan O O (decide_eq_false hg8)) (g' 7 O (tG O (zaE O O (decide_eq_false hg11)) (g' 7 O ?_))))))));exact tQ hQ5 O O (by first | (simp[hg11,hg6,hg7,hg8];done) | (simp_all;done))
   by_cases hg12:(65:Int)<=r
   · by_cases hg13:r<=(90:Int)
     · refine g' 2 O (tP O (zan O O (decide_eq_false hg6)) (g' 6 O (tG O (zan O O (decide_eq_true hg12)) (g' 2 O (tG O (zbm O O (decide_eq_true hg13)) (g' 12 O ?_))))));exact tQ hQ5 O O (by first | (simp[hg12,hg13,hg6];done) | (simp_all;done))
     by_cases hg14:r=(95:Int)
     · refine g' 2 O (tP O (zan O O (decide_eq_false hg6)) (g' 6 O (tG O (zan O O (decide_eq_true hg12)) (g' 2 O (tG O (zbm O O (decide_eq_false hg13)) (g' 4 O (tG O (zaE O O (decide_eq_true hg14)) (g' 7 O ?_))))))));exact tQ hQ5 O O (by first | (simp[hg12,hg13,hg14,hg6];done) | (simp_all;done))
     refine g' 2 O (tP O (zan O O (decide_eq_false hg6)) (g' 6 O (tG O (zan O O (decide_eq_true hg12)) (g' 2 O (tG O (zbm O O (decide_eq_false hg13)) (g' 4 O (tG O (zaE O O (decide_eq_false hg14)) (g' 7 O ?_))))))));exact tQ hQ5 O O (by first | (simp[hg12,hg13,hg14,hg6];done) | (simp_all;done))
   by_cases hg15:r=(95:Int)
   · refine g' 2 O (tP O (zan O O (decide_eq_false hg6)) (g' 6 O (tG O (zan O O (decide_eq_false hg12)) (g' 7 O (tG O (zaE O O (decide_eq_true hg15)) (g' 7 O ?_))))));exact tQ hQ5 O O (by first | (simp[hg12,hg15,hg6];done) | (simp_all;done))
   refine g' 2 O (tP O (zan O O (decide_eq_false hg6)) (g' 6 O (tG O (zan O O (decide_eq_false hg12)) (g' 7 O (tG O (zaE O O (decide_eq_false hg15)) (g' 7 O ?_))))));exact tQ hQ5 O O (by first | (simp[hg12,hg15,hg6];done) | (simp_all;done))
 refine g' 1 O ?_;refine tC O (λhc16=>?_) (λhc16=>?_)
 · simp only[bX,bJ] at hc16;refine g' 8 O ?_;exact tRs O results61 (.cons (zf (zd O) (mB (congrArg (λn=>D.v (.int .i64 n)) (by unfold zJ;(repeat (any_goals split))<;>omega)))) .nil) O HSub.none ⟨O,O⟩
 simp only[bX,bJ] at hc16;refine g' 5 O ?_;refine tAnd 2 2 (c:=decide (r<=(57:Int))) O O O O O O (λhb17 nx18=>?_) ?_
 · have hf19:=of_decide_eq_true hb17;refine g' 2 O ?_;exact nx18 _ O O (kx 2 O O)
 refine g' 3 O ?_;refine tC O (λhc20=>?_) (λhc20=>?_)
 · simp only[bX,bJ] at hc20;refine g' 8 O ?_;exact tRs O results61 (.cons (zf (zd O) (mB (congrArg (λn=>D.v (.int .i64 n)) (by unfold zJ;(repeat (any_goals split))<;>omega)))) .nil) O HSub.none ⟨O,O⟩
 simp only[bX,bJ] at hc20;refine g' 5 O ?_;refine tOr 2 2 (c:=decide (r=(9:Int))) O O O O O O (λhb21 nx22=>?_) ?_
 · have hf23:=of_decide_eq_false hb21;refine g' 2 O ?_;exact nx22 _ O O (kx 2 O O)
 refine g' 1 O ?_;refine tOr 6 2 (c:=decide (r=(10:Int))) O O O O O O (λhb24 nx25=>?_) ?_
 · obtain ⟨hf26,hf27⟩:=orF hb24;have hf28:=of_decide_eq_false hf26;have hf29:=of_decide_eq_false hf27;refine g' 2 O ?_;exact nx25 _ O O (kx 2 O O)
 refine g' 3 O ?_;refine tC O (λhc30=>?_) (λhc30=>?_)
 · simp only[bX,bJ] at hc30;refine g' 8 O ?_;exact tRs O results61 (.cons (zf (zd O) (mB (congrArg (λn=>D.v (.int .i64 n)) (by unfold zJ;(repeat (any_goals split))<;>omega)))) .nil) O HSub.none ⟨O,O⟩
 simp only[bX,bJ] at hc30;refine g' 9 O ?_;exact tRs O results61 (.cons (zf (zd O) (mB (congrArg (λn=>D.v (.int .i64 n)) (by unfold zJ;(repeat (any_goals split))<;>omega)))) .nil) O HSub.none ⟨O,O⟩
theorem refKind_c (r:Int) :
 CD prog 89 [] [.v (.int .i32 r)] (isR (dI (zJ r))):=by
 refine tZ func89 O O (λC=>?_);refine g' 12 O ?_;refine tOr 2 2 (c:=decide (r=(65533:Int))) O O O O O O (λhb1 nx2=>?_) ?_
 · have hf3:=of_decide_eq_false hb1;refine g' 2 O ?_;exact nx2 _ O O (kx 2 O O)
 refine g' 3 O ?_;refine tC O (λhc4=>?_) (λhc4=>?_)
 · simp only[bX,bJ] at hc4;refine g' 8 O ?_;exact tRs O results89 (.cons (zf (zd O) (mB (congrArg (λn=>D.v (.int .i64 n)) (by unfold zJ;(repeat (any_goals split))<;>omega)))) .nil) O HSub.none ⟨O,O⟩
 simp only[bX,bJ] at hc4;refine g' 1 O ?_;refine tS 10 (((((decide ((97:Int)<=r)&&decide (r<=(122:Int)))||(decide ((65:Int)<=r)&&decide (r<=(90:Int))))||decide (r=(95:Int)))||decide ((128:Int)<=r))) (λ_ hQ5=>?_) ?_
 · by_cases hg6:(97:Int)<=r
   · by_cases hg7:r<=(122:Int)
     · refine g' 2 O (tP O (zan O O (decide_eq_true hg6)) (g' 2 O (tG O (zbm O O (decide_eq_true hg7)) (g' 19 O ?_))));exact tQ hQ5 O O (by first | (simp[hg6,hg7];done) | (simp_all;done))
     by_cases hg8:(65:Int)<=r
     · by_cases hg9:r<=(90:Int)
       · refine g' 2 O (tP O (zan O O (decide_eq_true hg6)) (g' 2 O (tG O (zbm O O (decide_eq_false hg7)) (g' 3 O (tG O (zan O O (decide_eq_true hg8)) (g' 2 O (tG O (zbm O O (decide_eq_true hg9)) (g' 12 O ?_))))))));exact tQ hQ5 O O (by first | (simp[hg6,hg7,hg8,hg9];done) | (simp_all;done))
       by_cases hg10:r=(95:Int)
       · refine g' 2 O (tP O (zan O O (decide_eq_true hg6)) (g' 2 O (tG O (zbm O O (decide_eq_false hg7)) (g' 3 O (tG O (zan O O (decide_eq_true hg8)) (g' 2 O (tG O (zbm O O (decide_eq_false hg9)) (g' 4 O (tG O (zaE O O (decide_eq_true hg10)) (g' 7 O ?_))))))))));exact tQ hQ5 O O (by first | (simp[hg10,hg6,hg7,hg8,hg9];done) | (simp_all;done))
       refine g' 2 O (tP O (zan O O (decide_eq_true hg6)) (g' 2 O (tG O (zbm O O (decide_eq_false hg7)) (g' 3 O (tG O (zan O O (decide_eq_true hg8)) (g' 2 O (tG O (zbm O O (decide_eq_false hg9)) (g' 4 O (tG O (zaE O O (decide_eq_false hg10)) (g' 7 O ?_))))))))));exact tQ hQ5 O O (by first | (simp[hg10,hg6,hg7,hg8,hg9];done) | (simp_all;done))
     by_cases hg11:r=(95:Int)
     · refine g' 2 O (tP O (zan O O (decide_eq_true hg6)) (g' 2 O (tG O (zbm O O (decide_eq_false hg7)) (g' 3 O (tG O (zan O O (decide_eq_false hg8)) (g' 7 O (tG O (zaE O O (decide_eq_true hg11)) (g' 7 O ?_))))))));exact tQ hQ5 O O (by first | (simp[hg11,hg6,hg7,hg8];done) | (simp_all;done))
     refine g' 2 O (tP O (zan O O (decide_eq_true hg6)) (g' 2 O (tG O (zbm O O (decide_eq_false hg7)) (g' 3 O (tG O (zan O O (decide_eq_false hg8)) (g' 7 O (tG O (zaE O O (decide_eq_false hg11)) (g' 7 O ?_))))))));exact tQ hQ5 O O (by first | (simp[hg11,hg6,hg7,hg8];done) | (simp_all;done))
   by_cases hg12:(65:Int)<=r
   · by_cases hg13:r<=(90:Int)
     · refine g' 2 O (tP O (zan O O (decide_eq_false hg6)) (g' 6 O (tG O (zan O O (decide_eq_true hg12)) (g' 2 O (tG O (zbm O O (decide_eq_true hg13)) (g' 12 O ?_))))));exact tQ hQ5 O O (by first | (simp[hg12,hg13,hg6];done) | (simp_all;done))
     by_cases hg14:r=(95:Int)
     · refine g' 2 O (tP O (zan O O (decide_eq_false hg6)) (g' 6 O (tG O (zan O O (decide_eq_true hg12)) (g' 2 O (tG O (zbm O O (decide_eq_false hg13)) (g' 4 O (tG O (zaE O O (decide_eq_true hg14)) (g' 7 O ?_))))))));exact tQ hQ5 O O (by first | (simp[hg12,hg13,hg14,hg6];done) | (simp_all;done))
     refine g' 2 O (tP O (zan O O (decide_eq_false hg6)) (g' 6 O (tG O (zan O O (decide_eq_true hg12)) (g' 2 O (tG O (zbm O O (decide_eq_false hg13)) (g' 4 O (tG O (zaE O O (decide_eq_false hg14)) (g' 7 O ?_))))))));exact tQ hQ5 O O (by first | (simp[hg12,hg13,hg14,hg6];done) | (simp_all;done))
   by_cases hg15:r=(95:Int)
   · refine g' 2 O (tP O (zan O O (decide_eq_false hg6)) (g' 6 O (tG O (zan O O (decide_eq_false hg12)) (g' 7 O (tG O (zaE O O (decide_eq_true hg15)) (g' 7 O ?_))))));exact tQ hQ5 O O (by first | (simp[hg12,hg15,hg6];done) | (simp_all;done))
   refine g' 2 O (tP O (zan O O (decide_eq_false hg6)) (g' 6 O (tG O (zan O O (decide_eq_false hg12)) (g' 7 O (tG O (zaE O O (decide_eq_false hg15)) (g' 7 O ?_))))));exact tQ hQ5 O O (by first | (simp[hg12,hg15,hg6];done) | (simp_all;done))
 refine g' 1 O ?_;refine tC O (λhc16=>?_) (λhc16=>?_)
 · simp only[bX,bJ] at hc16;refine g' 8 O ?_;exact tRs O results89 (.cons (zf (zd O) (mB (congrArg (λn=>D.v (.int .i64 n)) (by unfold zJ;(repeat (any_goals split))<;>omega)))) .nil) O HSub.none ⟨O,O⟩
 simp only[bX,bJ] at hc16;refine g' 5 O ?_;refine tAnd 2 2 (c:=decide (r<=(57:Int))) O O O O O O (λhb17 nx18=>?_) ?_
 · have hf19:=of_decide_eq_true hb17;refine g' 2 O ?_;exact nx18 _ O O (kx 2 O O)
 refine g' 3 O ?_;refine tC O (λhc20=>?_) (λhc20=>?_)
 · simp only[bX,bJ] at hc20;refine g' 8 O ?_;exact tRs O results89 (.cons (zf (zd O) (mB (congrArg (λn=>D.v (.int .i64 n)) (by unfold zJ;(repeat (any_goals split))<;>omega)))) .nil) O HSub.none ⟨O,O⟩
 simp only[bX,bJ] at hc20;refine g' 5 O ?_;refine tOr 2 2 (c:=decide (r=(9:Int))) O O O O O O (λhb21 nx22=>?_) ?_
 · have hf23:=of_decide_eq_false hb21;refine g' 2 O ?_;exact nx22 _ O O (kx 2 O O)
 refine g' 1 O ?_;refine tOr 6 2 (c:=decide (r=(10:Int))) O O O O O O (λhb24 nx25=>?_) ?_
 · obtain ⟨hf26,hf27⟩:=orF hb24;have hf28:=of_decide_eq_false hf26;have hf29:=of_decide_eq_false hf27;refine g' 2 O ?_;exact nx25 _ O O (kx 2 O O)
 refine g' 3 O ?_;refine tC O (λhc30=>?_) (λhc30=>?_)
 · simp only[bX,bJ] at hc30;refine g' 8 O ?_;exact tRs O results89 (.cons (zf (zd O) (mB (congrArg (λn=>D.v (.int .i64 n)) (by unfold zJ;(repeat (any_goals split))<;>omega)))) .nil) O HSub.none ⟨O,O⟩
 simp only[bX,bJ] at hc30;refine g' 9 O ?_;exact tRs O results89 (.cons (zf (zd O) (mB (congrArg (λn=>D.v (.int .i64 n)) (by unfold zJ;(repeat (any_goals split))<;>omega)))) .nil) O HSub.none ⟨O,O⟩
theorem ze8 (s:ByteArray) :
 CD prog 85 [] [.s s] (isR (dB (zbu s))):=by
 refine tZ func85 O O (λC=>?_);refine T.bd 0 O (λbd0=>?_);have sz0:s.size<=9223372036854775807:=bd0;refine g' 14 O (tE O (zcZ O runUnderlying9) ?_);rintro _ _ ⟨g1,rfl,rfl⟩;refine g' 3 O (tl2 (λ(a_:Nat) (b_:Nat)=>[(8,dP g1 0),(3,dN b_)]) (λa_ b_=>[.it g1 s a_]) (λa_ b_=>(a_<=s.size)/\(b_<=a_)/\(zds 0 (zS s)=zds b_ (zaB s a_))) (λa_ b_=>s.size-a_) 0 0 O (sa O) mD ⟨c7 _,dD _,O⟩ ?_);rintro p n ⟨hp,hn,hf⟩;rcases dH p s.size with hlt | hge
 · have hrune:=zav hlt;have hrl:=zcA s p;have hdw:=zai s p hlt;have hdp:=zL s p;refine g' 2 O (tE O (zce (i:=0) O O hlt) ?_);rintro _ _ ⟨rfl,rfl⟩;refine g' 18 O (tW O acs (Kind_c ((decR s p:Nat):Int)) (g' 4 O ?_));refine tS 23 ((decide (zJ ((decR s p:Nat):Int)≠(1:Int))&&(decide (zJ ((decR s p:Nat):Int)≠(2:Int))||decide (((n:Nat):Int)=(0:Int))))) (λ_ hQ2=>?_) ?_
   · by_cases hg3:zJ ((decR s p:Nat):Int)≠(1:Int)
     · by_cases hg4:zJ ((decR s p:Nat):Int)≠(2:Int)
       · refine g' 2 O (tP O (zca O O (decide_eq_true hg3)) (g' 2 O (tG O (zca O O (decide_eq_true hg4)) (g' 6 O ?_))));exact tQ hQ2 O O (by first | (simp[hg3,hg4];done) | (simp_all;done))
       refine g' 2 O (tP O (zca O O (decide_eq_true hg3)) (g' 2 O (tG O (zca O O (decide_eq_false hg4)) (g' 6 O ?_))));exact tQ hQ2 O O (by first | (simp[hg3,hg4];done) | (simp_all;done))
     refine g' 2 O (tP O (zca O O (decide_eq_false hg3)) (g' 9 O ?_));exact tQ hQ2 O O (by first | (simp[hg3];done) | (simp_all;done))
   refine g' 1 O ?_;refine tC O (λhc5=>?_) (λhc5=>?_)
   · simp only[bX,bJ] at hc5;refine g' 11 O ?_;exact tRs O results85 (.cons (zf (zd O) (cB ((by unfold zbu;rw[hf,hrune];rw[nameR_bad (by omega)])))) .nil) O HSub.none ⟨O,O⟩
   simp only[bX,bJ] at hc5;refine g' 4 O (tP O (zu (c:=((n+1:Nat):Int)) O O (zk (by omega) (by omega))) (g' 3 O ?_));exact tp2 (p+decW s p) (n+1) (sa O) mD ⟨by have:=zai s p hlt;omega,by omega,by rw[hf,hrune,nameR_next (by omega)]⟩ (by have:=zL s p;omega)
 have hrune:=zaH hge;refine g' 2 O (tP O (zcT (i:=0) O O hge) (g' 15 O ?_));refine tAnd 2 2 (c:=decide (((n:Nat):Int)<=(30:Int))) O O O O O O (λhb6 nx7=>?_) ?_
 · have hf8:=of_decide_eq_true hb6;refine g' 2 O ?_;exact nx7 _ O O (kx 2 O O)
 refine g' 4 O ?_;exact tRs O results85 (.cons (zf (zd O) (cB ((by unfold zbu;rw[hf,hrune];simp only[zds];congr 1<;>exact decide_eq_decide.2 (by omega))))) .nil) O HSub.none ⟨O,O⟩
theorem refSpell_c (s:ByteArray) (hs:s.size<=1000000000):
 CD prog 88 [] [.s s] (zcc 1 21 ((zS s).map dR)):=by
 refine tZ func88 O O (λC=>?_);refine T.bd 0 O (λbd0=>?_);have sz0:s.size<=9223372036854775807:=bd0;refine g' 14 O (tE O (zcZ O runUnderlying9) ?_);rintro _ _ ⟨g1,rfl,rfl⟩;refine g' 3 O (tl3 (λ(a_:Nat) (b_:Value) (c_:List Int)=>[(2,dZ),(7,dP g1 0),(3,.ov b_)]) (λa_ b_ c_=>[.it g1 s a_,.sl b_ 1 21 (c_.map dR)]) (λa_ b_ c_=>(a_<=s.size)/\(c_.length<=a_)/\(zS s=c_++zaB s a_)) (λa_ b_ c_=>s.size-a_) 0 (.slice none 0 0) [] O ⟨sk O,sk O,sc O (Cv.ov O),trivial⟩ (HSub.trans (HSub.nil 1 21) (mF (List.Perm.swap _ _ _))) ⟨c7 _,dD _,O⟩ ?_);rintro p ov l ⟨hp,hn,hf⟩;rcases dH p s.size with hlt | hge
 · have hrune:=zav hlt;have hrl:=zcA s p;have hdw:=zai s p hlt;have hdp:=zL s p;refine g' 2 O (tE O (zce (i:=0) O O hlt) ?_);rintro _ _ ⟨rfl,rfl⟩;refine g' 17 O (tE O (zq [.tmp 12] O O (.cons (CellD.v O) .nil) O runUnderlying124 sizeOf21 zeroValue21 O O O O) ?_);rintro _ _ ⟨g2,rfl,rfl⟩;refine tE O (zy (f:=dR) (l:=l) (l':=[((decR s p:Nat):Int)]) (i:=2) O O O (mK (j:=0) O O) und_124 infz_21 O O (by unfold maxLen;(try simp only[la,lc,ln,lm,lt',ld,ls,lr]);omega) (by (try simp only[la,lc,ln,lm,lt',ld,ls,lr]);omega)) ?_;rintro _ _ ⟨v3,rfl,rfl⟩;refine g' 3 O ?_;exact tp3 (p+decW s p) v3 (l++[((decR s p:Nat):Int)]) (sa O) (mU 1 O) ⟨by have:=zai s p hlt;omega,by rw[cX,dA];omega,by rw[hf,hrune,cY];rfl⟩ (by have:=zL s p;omega)
 have hrune:=zaH hge;refine g' 2 O (tP O (zcT (i:=0) O O hge) (g' 17 O (kC (mE (zau (i:=1) O)) (kC (mG (h':=.sl ov 1 21 ((zS s).map dR)) O (mI (show List.map dR l=List.map dR (zS s) from congrArg _ (by rw[hf,hrune,j5])))) ?_))));exact tR O mD ⟨_,O,O⟩
theorem refName_c (s:ByteArray) (hs:s.size<=1000000000):
 CD prog 58 [] [.s s] (isR (dB (zbu s))):=by
 refine tZ func58 O O (λC=>?_);refine T.bd 0 O (λbd0=>?_);have sz0:s.size<=9223372036854775807:=bd0;refine g' 8 O (tX [] O O acs (refSpell_c s (by omega)) ?_);rintro _ _ ⟨v1,rfl,rfl⟩;refine g' 5 O ?_;by_cases hg2:(((zS s).length:Nat):Int)<(1:Int)
 · refine g' 2 O (tP O (zG (n:=(zS s).length) (j:=0) O O runUnderlying124 (cW _)) (tP O (zba O O (decide_eq_true hg2)) (g' 22 O ?_)));exact tRs O results58 (.cons (zf (zd O) (cB ((by unfold zbu;rw[zcb];first | (rw[dE (by omega)] at hw;rw[jI,hx1,hw];simp;omega) | (rw[jI,hx1];simp;omega) | (simp;omega))))) .nil) O HSub.none ⟨O,O⟩
 by_cases hg3:(30:Int)<(((zS s).length:Nat):Int)
 · refine g' 2 O (tP O (zG (n:=(zS s).length) (j:=0) O O runUnderlying124 (cW _)) (tP O (zba O O (decide_eq_false hg2)) (g' 2 O (tG O (zG (n:=(zS s).length) (j:=0) O O runUnderlying124 (cW _)) (tG O (zaV O O (decide_eq_true hg3)) (g' 18 O ?_))))));exact tRs O results58 (.cons (zf (zd O) (cB ((by unfold zbu;rw[zcb];first | (rw[dE (by omega)] at hw;rw[jI,hx1,hw];simp;omega) | (rw[jI,hx1];simp;omega) | (simp;omega))))) .nil) O HSub.none ⟨O,O⟩
 refine g' 2 O (tP O (zG (n:=(zS s).length) (j:=0) O O runUnderlying124 (cW _)) (tP O (zba O O (decide_eq_false hg2)) (g' 2 O (tG O (zG (n:=(zS s).length) (j:=0) O O runUnderlying124 (cW _)) (tG O (zaV O O (decide_eq_false hg3)) (g' 3 O ?_))))));obtain ⟨x1,hx1⟩:=zj (zS s) 0 (by omega);refine tG O (zg (k:=0) (j:=0) O O O runUnderlying124 sizeOf21 (by first | rfl | omega) (ze hx1)) (tG O (zaA O (i:=0) O (ze hx1) isAgg21 O) (tW O acs (refKind_c x1) (g' 4 O ?_)));refine tD O (λhc4=>?_) (λhc4=>?_)
 · refine g' 7 O ?_;exact tRs O results58 (.cons (zf (zd O) (cB ((by unfold zbu;rw[zcb];first | (rw[wordR_bad hx1 (by omega)];simp;done) | (rw[dE (by omega)] at hw;rw[jI,hx1,hw];simp;omega) | (rw[jI,hx1];simp;omega) | (simp;omega))))) .nil) O HSub.none ⟨O,O⟩
 refine g' 9 O (tl1 (λ(a_:Nat)=>[(3,.ov v1),(4,dN a_)]) (λa_=>[.sl v1 1 21 ((zS s).map dR)]) (λa_=>(a_<=(zS s).length)/\(zdP ((zS s).take a_)=true)) (λa_=>(zS s).length-a_) 0 O (sa O) mD ⟨c7 _,O⟩ ?_);rintro k ⟨hk,hw⟩;refine g' 5 O (tP O (zG (n:=(zS s).length) (j:=0) O O runUnderlying124 (cW _)) (g' 3 O ?_));refine tD O (λhc5=>?_) (λhc5=>?_)
 · refine g' 8 O ?_;obtain ⟨x2,hx2⟩:=zj (zS s) k (by omega);refine tP O (zg (k:=k) (j:=0) O O O runUnderlying124 sizeOf21 (by first | rfl | omega) (ze hx2)) (tP O (zaA O (i:=0) O (ze hx2) isAgg21 O) (tW O acs (refKind_c x2) (g' 2 O ?_)));refine tAnd 6 6 (c:=decide (zJ x2≠(2:Int))) O O O O O O (λhb6 nx7=>?_) ?_
   · have hf8:=of_decide_eq_true hb6;refine g' 2 O (tG O (zg (k:=k) (j:=0) O O O runUnderlying124 sizeOf21 (by first | rfl | omega) (ze hx2)) (tG O (zaA O (i:=0) O (ze hx2) isAgg21 O) (tW O acs (refKind_c x2) (g' 1 O ?_))));exact nx7 _ O O (kx 6 O O)
   refine g' 2 O ?_;refine tC O (λhc9=>?_) (λhc9=>?_)
   · simp only[bX,bJ] at hc9;refine g' 11 O ?_;exact tRs O results58 (.cons (zf (zd O) (cB ((by unfold zbu;rw[zcb];first | (rw[wordR_bad hx2 (by omega)];simp;done) | (rw[dE (by omega)] at hw;rw[jI,hx1,hw];simp;omega) | (rw[jI,hx1];simp;omega) | (simp;omega))))) .nil) O HSub.none ⟨O,O⟩
   simp only[bX,bJ] at hc9;refine g' 5 O (tP O (zu (c:=((k+1:Nat):Int)) O O (zk (by omega) (by omega))) (g' 2 O ?_));exact tp1 (k+1) (sa O) mD ⟨by omega,wordR_take hx2 hw (by omega)⟩ (by omega)
 refine g' 11 O ?_;exact tRs O results58 (.cons (zf (zd O) (cB ((by unfold zbu;rw[zcb];first | (rw[dE (by omega)] at hw;rw[jI,hx1,hw];simp;omega) | (rw[jI,hx1];simp;omega) | (simp;omega))))) .nil) O HSub.none ⟨O,O⟩
end Lp
