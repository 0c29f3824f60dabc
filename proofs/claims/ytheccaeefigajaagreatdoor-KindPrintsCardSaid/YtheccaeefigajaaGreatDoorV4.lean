import Derived.Test.YtheccaeefigajaaGreatDoorDP
set_option linter.unusedVariables false
namespace Lp
open Go Go.RowKit Go.Proofs
def cpF {α:Type}:List α→Option (List α)
 | []=>some []
 | x::r=>match cpF r with
  | some l=>some (x::l)
  | none=>none
theorem zfz {α:Type}:∀ {l l':List α},cpF l=some l'→l=l'
 | [],_,h=>by injection h
 | x::r,l',h=>by
  unfold cpF at h
  split at h
  · rename_i l hl;injection h with h;rw[←h,zfz hl]
  · cases h
def kpF:List Nat→Kd→Option Kd
 | [],_=>some []
 | t::r,K=>match zaV K t with
  | some d=>match kpF r K with
   | some l=>some ((t,d)::l)
   | none=>none
  | none=>none
theorem kpF_sub:∀ {ts:List Nat} {K K':Kd},kpF ts K=some K'→SubK K' K
 | [],_,_,h=>by injection h with h;subst h;trivial
 | t::r,K,K',h=>by
  unfold kpF at h
  split at h
  · rename_i d hd
    split at h
    · rename_i l hl;injection h with h;subst h;exact⟨⟨d,hd,Cv.rfl'⟩,kpF_sub hl⟩
    · cases h
  · cases h
theorem sa:∀ {K' K:Kd},K'.map (fun p=>zaV K p.1)=K'.map (fun p=>some p.2)→SubK K' K
 | [],_,_=>trivial
 | (t,d)::r,K,h=>by
  simp only[List.map_cons,List.cons.injEq] at h
  exact⟨⟨d,h.1,Cv.rfl'⟩,sa h.2⟩
def snF:List Bool→Bool→Option (List Bool)
 | [],b=>some [b]
 | x::r,b=>match snF r b with
  | some l=>some (x::l)
  | none=>none
theorem zeJ:∀ {p q:List Bool} {b:Bool},snF p b=some q→p++[b]=q
 | [],_,_,h=>by injection h
 | x::r,q,b,h=>by
  unfold snF at h
  split at h
  · rename_i l hl;injection h with h;rw[←h,List.cons_append,zeJ hl]
  · cases h
def zfG (K:Kd):Op→Option D
 | .move x=>opD K x
 | .assign x=>opD K x
 | .extract x n=>match opD K x with
  | some (.tup ds)=>nth ds n
  | _=>none
 | .pick c x y=>match opD K c with
  | some (.v (.bool true))=>opD K x
  | some (.v (.bool false))=>opD K y
  | _=>none
 | .unOp .not _ x=>match opD K x with
  | some (.v (.bool true))=>some (.v (.bool false))
  | some (.v (.bool false))=>some (.v (.bool true))
  | _=>none
 | .nilCheck x=>match opD K x with
  | some (.v (.pointer (some a)))=>some (.v (.pointer (some a)))
  | some (.el X o)=>some (.el X o)
  | _=>none
 | _=>none
theorem pureD_ok {P:Program} {ty:TypeId} {K:Kd} {H:List Hp} {op:Op} {d:D} (h:zfG K op=some d):Pu P op ty K H d:=by
 unfold zfG at h
 split at h
 · exact zT h
 · exact p_assign h
 · split at h
   · rename_i hx;exact p_extract hx h
   · cases h
 · split at h
   · rename_i hc;exact zdQ hc h
   · rename_i hc;exact p_pick_f hc h
   · cases h
 · split at h
   · rename_i hx;injection h with h;subst h;exact zbJ (q:=true) hx
   · rename_i hx;injection h with h;subst h;exact zbJ (q:=false) hx
   · cases h
 · split at h
   · rename_i hx;injection h with h;subst h;exact zb7 hx
   · rename_i hx;injection h with h;subst h;exact p_nilCheck_el hx
   · cases h
 · cases h
def oneC (N:Nat) (t:Tmp):Option D→Option (Tmp×D)
 | some d=>bif Nat.blt t N then some (t,d) else none
 | none=>none
theorem oneC_ok {N:Nat} {t u:Tmp} {x:Option D} {d:D} (h:oneC N t x=some (u,d)):t=u∧x=some d∧Nat.blt t N=true:=by
 unfold oneC at h
 cases x with
 | none=>cases h
 | some e=>
  cases hb:Nat.blt t N
  · simp[hb] at h
  · simp[hb] at h;exact⟨h.1,by rw[h.2],rfl⟩
def guardD (K:Kd) (want:Bool) (op:Op):Option D→Option D
 | some (.v u)=>match nb u,want with
  | some true,true=>zfG K op
  | some false,false=>zfG K op
  | some true,false=>some (.v undef)
  | some false,true=>some (.v undef)
  | none,_=>some (.v undef)
 | _=>none
def oneD (ops:List Oper) (i N:Nat) (K:Kd):Option (Tmp×D):=
 match opAt ops i with
 | some (some t,op,_,none)=>oneC N t (zfG K op)
 | some (some t,op,_,some (j,want))=>match zbm ops j with
  | some s=>bif Nat.blt s N then oneC N t (guardD K want op (zaV K s)) else none
  | none=>none
 | _=>none
def runD (ops:List Oper) (N:Nat):Nat→Nat→Kd→Option (Nat×Kd)
 | 0,i,K=>some (i,K)
 | n+1,i,K=>match oneD ops i N K with
  | some (t,d)=>runD ops N n (i+1) ((t,d)::K)
  | none=>none
def opP (ops:List Oper) (i N:Nat):Option (Tmp×Op×TypeId):=match opAt ops i with
 | some (some t,op,ty,none)=>bif Nat.blt t N then some (t,op,ty) else none
 | _=>none
def opE (ops:List Oper) (i N:Nat):Option (Option Tmp×Op×TypeId):=match opAt ops i with
 | some (t,op,ty,none)=>bif dok N t then some (t,op,ty) else none
 | _=>none
def gdF (ops:List Oper) (N:Nat) (K:Kd) (j:Nat) (want:Bool):Bool:=match zbm ops j with
 | some s=>match zaV K s with
  | some (.v (.bool b))=>Nat.blt s N&&(b==want)
  | _=>false
 | none=>false
def opG (ops:List Oper) (i N:Nat) (K:Kd):Option (Option Tmp×Op×TypeId):=match opAt ops i with
 | some (t,op,ty,some (j,want))=>match dok N t,gdF ops N K j want with
  | true,true=>some (t,op,ty)
  | _,_=>none
 | _=>none
section
variable {P:Program} {N:Nat} {C:Ctx} {K:Kd} {H:List Hp} {ops:List Oper} {i:Nat} {Kt:Env→World→(Nat→Prop)→Prop}
theorem nb_b {u:Value} {b:Bool} (h:nb u=some b):u=.bool b:=by cases u<;>simp[nb] at h;rw[h]
theorem o1 {t:Tmp} {d:D} (h:oneD ops i N K=some (t,d)) (k:OpsD P N C ops (i+1) ((t,d)::K) H Kt):OpsD P N C ops i K H Kt:=by
 unfold oneD at h
 split at h
 · rename_i t' op ty ho
   obtain ⟨e1,e2,e3⟩:=oneC_ok h
   subst e1
   exact od_pu ho e3 (pureD_ok e2) k
 · rename_i t' op ty j want ho
   split at h
   · rename_i s hs
     cases hb:Nat.blt s N
     · simp[hb] at h
     · simp only[hb,cond_true] at h
       obtain ⟨e1,e2,e3⟩:=oneC_ok h
       subst e1
       unfold guardD at e2
       split at e2
       · rename_i u hl
         split at e2
         · rename_i hn;rw[nb_b hn] at hl;exact od_runp ho e3 hs hb hl (pureD_ok e2) k
         · rename_i hn;rw[nb_b hn] at hl;exact od_runp ho e3 hs hb hl (pureD_ok e2) k
         · rename_i hn;injection e2 with e2;subst e2;exact od_skip ho e3 hs hb hl (by rw[hn];decide) k
         · rename_i hn;injection e2 with e2;subst e2;exact od_skip ho e3 hs hb hl (by rw[hn];decide) k
         · rename_i hn;injection e2 with e2;subst e2;exact od_skip ho e3 hs hb hl (by rw[hn];simp) k
       · cases e2
   · cases h
 · cases h
theorem oR (n:Nat) {j:Nat} {K':Kd} (h:runD ops N n i K=some (j,K')) (k:OpsD P N C ops j K' H Kt):OpsD P N C ops i K H Kt:=by
 induction n generalizing i K with
 | zero=>injection h with h;injection h with h1 h2;subst h1;subst h2;exact k
 | succ n ih=>
  unfold runD at h
  split at h
  · rename_i t d he;exact o1 he (ih h)
  · cases h
theorem opP_ok {t:Tmp} {op:Op} {ty:TypeId} (h:opP ops i N=some (t,op,ty)):opAt ops i=some (some t,op,ty,none)∧Nat.blt t N=true:=by
 unfold opP at h
 split at h
 · rename_i t' op' ty' ho
   cases hb:Nat.blt t' N
   · simp[hb] at h
   · simp[hb] at h;obtain ⟨h1,h2,h3⟩:=h;subst h1;subst h2;subst h3;exact⟨ho,hb⟩
 · cases h
theorem opE_ok {t:Option Tmp} {op:Op} {ty:TypeId} (h:opE ops i N=some (t,op,ty)):opAt ops i=some (t,op,ty,none)∧dok N t=true:=by
 unfold opE at h
 split at h
 · rename_i t' op' ty' ho
   cases hb:dok N t'
   · simp[hb] at h
   · simp[hb] at h;obtain ⟨h1,h2,h3⟩:=h;subst h1;subst h2;subst h3;exact⟨ho,hb⟩
 · cases h
theorem opG_ok {t:Option Tmp} {op:Op} {ty:TypeId} (h:opG ops i N K=some (t,op,ty)):∃ j want s,opAt ops i=some (t,op,ty,some (j,want))∧dok N t=true∧zbm ops j=some s∧Nat.blt s N=true∧zaV K s=some (.v (.bool want)):=by
 unfold opG at h
 split at h
 · rename_i t' op' ty' j want ho
   split at h
   · rename_i h1 h2
     injection h with h;injection h with e1 h;injection h with e2 e3
     subst e1;subst e2;subst e3
     unfold gdF at h2
     split at h2
     · rename_i s hs
       split at h2
       · rename_i b hb
         simp only[Bool.and_eq_true,beq_iff_eq] at h2
         obtain ⟨h3,h4⟩:=h2;subst h4
         exact⟨j,b,s,ho,h1,hs,h3,hb⟩
       · cases h2
     · cases h2
   · cases h
 · cases h
theorem oP {t:Tmp} {op:Op} {ty:TypeId} {d:D} (ho:opP ops i N=some (t,op,ty)) (h:Pu P op ty K H d) (k:OpsD P N C ops (i+1) ((t,d)::K) H Kt):OpsD P N C ops i K H Kt:=od_pu (opP_ok ho).1 (opP_ok ho).2 h k
theorem oE {t:Option Tmp} {op:Op} {ty:TypeId} {R:D→List Hp→Prop} (ho:opE ops i N=some (t,op,ty)) (h:Ef P op ty K H R) (k:∀ d H',R d H'→OpsD P N C ops (i+1) (upK K t d) H' Kt):OpsD P N C ops i K H Kt:=od_step (opE_ok ho).1 (opE_ok ho).2 h k
theorem oF {t:Option Tmp} {op:Op} {ty:TypeId} {R:D→List Hp→Prop} (ho:opG ops i N K=some (t,op,ty)) (h:Ef P op ty K H R) (k:∀ d H',R d H'→OpsD P N C ops (i+1) (upK K t d) H' Kt):OpsD P N C ops i K H Kt:=by
 obtain ⟨j,want,s,h1,h2,h3,h4,h5⟩:=opG_ok ho
 exact od_run h1 h2 h3 h4 h5 h k
theorem oG {t:Tmp} {op:Op} {ty:TypeId} {d:D} (ho:opG ops i N K=some (some t,op,ty)) (h:Pu P op ty K H d) (k:OpsD P N C ops (i+1) ((t,d)::K) H Kt):OpsD P N C ops i K H Kt:=
 oF ho h.ef fun _ _ ⟨e1,e2⟩=>by subst e1;subst e2;exact k
theorem oW {t:Option Tmp} {f:FuncId} {args:Array Operand} {ats:Array TypeId} {ty:TypeId} {ds0 ds:List D} {d:D} (ho:opE ops i N=some (t,.call { callee:=.value (.func f),args:=args,argTypes:=ats },ty)) (hargs:opsD K args.toList=some ds0) (ha:ArgCs [] ds0 ds)
 (hc:∀ args w,(callFunc f args).run P w=.ok (.enter f args) w) (hcall:CD P f [] ds (isR d)) (k:OpsD P N C ops (i+1) (upK K t d) H Kt):OpsD P N C ops i K H Kt:=
 oE ho (zn [] _ [] rfl hargs ha zi hc hcall (.inl rfl)) (by rintro _ _ ⟨_,⟨rfl,rfl⟩,rfl⟩;exact k)
theorem oV {t:Option Tmp} {f:FuncId} {args:Array Operand} {ats:Array TypeId} {ty:TypeId} {ds0 ds:List D} {d:D} (ho:opG ops i N K=some (t,.call { callee:=.value (.func f),args:=args,argTypes:=ats },ty)) (hargs:opsD K args.toList=some ds0) (ha:ArgCs [] ds0 ds)
 (hc:∀ args w,(callFunc f args).run P w=.ok (.enter f args) w) (hcall:CD P f [] ds (isR d)) (k:OpsD P N C ops (i+1) (upK K t d) H Kt):OpsD P N C ops i K H Kt:=
 oF ho (zn [] _ [] rfl hargs ha zi hc hcall (.inl rfl)) (by rintro _ _ ⟨_,⟨rfl,rfl⟩,rfl⟩;exact k)
theorem acs {L:List Hp}:∀ {ds:List D},ArgCs L ds ds
 | []=>.nil
 | _::_=>.cons ArgC.id acs
theorem on {H':List Hp} (h:cpF H=some H') (k:OpsD P N C ops i K H' Kt):OpsD P N C ops i K H Kt:=zfz h ▸ k
theorem ok (ts:List Nat) {K':Kd} (h:kpF ts K=some K') (k:OpsD P N C ops i K' H Kt):OpsD P N C ops i K H Kt:=OpsD.sub K' (kpF_sub h) k
theorem os (t:Nat) {d d':D} (h:zaV K t=some d) (e:d=d') (k:OpsD P N C ops i ((t,d')::K) H Kt):OpsD P N C ops i K H Kt:=by
 subst e
 refine⟨fun a w F ok hk g=>k.out a w F ok (fun s u hu=>?_) g⟩
 simp only[zaV] at hu
 by_cases e:s=t
 · subst e;rw[show Nat.beq s s=true from Nat.beq_refl s] at hu;simp only[cond_true,Option.some.injEq] at hu;subst hu;exact hk s _ h
 · rw[zcB e] at hu;exact hk s u hu
theorem oZ {b:Code} {Q:za7} (hn:Nat.ble ops.length i=true) (h:JD P N C b K H Q):OpsD P N C ops i K H (fun ρ w F=>qseq P N b Q .normal ρ w F):=zq (Q:=qseq P N b Q) hn (zl h)
end
section
variable {P:Program} {N:Nat} {C:Ctx} {K:Kd} {H:List Hp} {Q:za7} {c:Code} {p pa pb:List Bool}
theorem jn {H':List Hp} {b:Code} (h:cpF H=some H') (k:JD P N C b K H' Q):JD P N C b K H Q:=zfz h ▸ k
theorem pn {H':List Hp} {e:Exit} (h:cpF H=some H') (k:PD C Q e K H'):PD C Q e K H:=zfz h ▸ k
theorem jk (ts:List Nat) {K':Kd} {b:Code} (h:kpF ts K=some K') (k:JD P N C b K' H Q):JD P N C b K H Q:=JD.sub K' (kpF_sub h) k
theorem pk (ts:List Nat) {K':Kd} {e:Exit} (h:kpF ts K=some K') (k:PD C Q e K' H):PD C Q e K H:=PD.sub K' (kpF_sub h) k
theorem ja {K':Kd} {b:Code} (h:cpF K=some K') (k:JD P N C b K' H Q):JD P N C b K H Q:=zfz h ▸ k
def sqF (c:Code) (p:List Bool):Option (List Bool×List Bool):=match isSeq (cd c p),snF p false,snF p true with
 | true,some a,some b=>some (a,b)
 | _,_,_=>none
theorem sqF_ok (h:sqF c p=some (pa,pb)):isSeq (cd c p)=true∧p++[false]=pa∧p++[true]=pb:=by
 unfold sqF at h
 split at h
 · rename_i h1 h2 h3;injection h with h;injection h with e1 e2;subst e1;subst e2;exact⟨h1,zeJ h2,zeJ h3⟩
 · cases h
theorem jS (h:sqF c p=some (pa,pb)) (k:JD P N C (cd c pa) K H (qseq P N (cd c pb) Q)):JD P N C (cd c p) K H Q:=jd_seq _ _ (sqF_ok h).1 (sqF_ok h).2.1 (sqF_ok h).2.2 k
def sgF (c:Code) (p:List Bool):Option (List Bool×List Bool):=match sqF c p with
 | some (a,b)=>match zeN (cd c a) with
  | some false=>some (a,b)
  | _=>none
 | none=>none
theorem jT (h:sgF c p=some (pa,pb)) (k:OpsD P N C (zdA (cd c pa)) 0 K H (fun ρ w F=>qseq P N (cd c pb) Q .normal ρ w F)):JD P N C (cd c p) K H Q:=by
 unfold sgF at h
 split at h
 · rename_i a b h1
   split at h
   · rename_i h2;injection h with h;injection h with e1 e2;subst e1;subst e2;exact jS h1 (zg h2 k)
   · cases h
 · cases h
def cnF (c:Code) (p:List Bool) (K:Kd):Option (List Bool×List Bool×D):=match condOf (cd c p),snF p false,snF p true with
 | some x,some a,some b=>match opD K x with
  | some d=>some (a,b,d)
  | none=>none
 | _,_,_=>none
theorem jC {t:Bool} (h:cnF c p K=some (pa,pb,.v (.bool t))) (ht:t=true→JD P N C (cd c pa) K H Q) (hf:t=false→JD P N C (cd c pb) K H Q):JD P N C (cd c p) K H Q:=by
 unfold cnF at h
 split at h
 · rename_i x a b h1 h2 h3
   split at h
   · rename_i d hd;injection h with h;injection h with e1 h;injection h with e2 e3
     subst e1;subst e2;subst e3
     exact jd_cond _ _ h1 (zeJ h2) (zeJ h3) hd ht hf
   · cases h
 · cases h
theorem jD {φ:Prop} {_:Decidable φ} (h:cnF c p K=some (pa,pb,.v (.bool (decide φ)))) (ht:φ→JD P N C (cd c pa) K H Q) (hf:¬φ→JD P N C (cd c pb) K H Q):JD P N C (cd c p) K H Q:=
 jC h (fun e=>ht (of_decide_eq_true e)) (fun e=>hf (of_decide_eq_false e))
theorem jCt (h:cnF c p K=some (pa,pb,.v (.bool true))) (ht:JD P N C (cd c pa) K H Q):JD P N C (cd c p) K H Q:=jC h (fun _=>ht) (fun e=>by cases e)
theorem jCf (h:cnF c p K=some (pa,pb,.v (.bool false))) (hf:JD P N C (cd c pb) K H Q):JD P N C (cd c p) K H Q:=jC h (fun e=>by cases e) (fun _=>hf)
def blF (c:Code) (p:List Bool):Option (List Bool×Nat):=match blockOf (cd c p),snF p false with
 | some n,some a=>some (a,n)
 | _,_=>none
theorem jB {id:Nat} (h:blF c p=some (pa,id)) (k:JD P N C (cd c pa) K H (zeK id Q)):JD P N C (cd c p) K H Q:=by
 unfold blF at h
 split at h
 · rename_i h1 h2;injection h with h;injection h with e1 e2;subst e1;subst e2;exact jd_block _ h1 (zeJ h2) k
 · cases h
def lpF (c:Code) (p:List Bool):Option (List Bool):=match isLoop (cd c p),snF p false with
 | true,some a=>some a
 | _,_=>none
theorem zek (h:lpF c p=some pa):isLoop (cd c p)=true∧p++[false]=pa:=by
 unfold lpF at h
 split at h
 · rename_i h1 h2;injection h with h;subst h;exact⟨h1,zeJ h2⟩
 · cases h
abbrev ql1 {A0:Type} (C:Ctx) (L:A0→Kd) (HI:A0→List Hp) (I:A0→Prop) (μ:A0→Nat) (a0:A0) (Q:za7):za7:=zfj C (fun g:A0=>L g) (fun g:A0=>HI g) (fun g:A0=>I g) (fun g:A0=>μ g) a0 Q
theorem jl1 {A0:Type} (L:A0→Kd) (HI:A0→List Hp) (I:A0→Prop) (μ:A0→Nat) (a0:A0) (hk:lpF c p=some pa) (hs:SubK (L a0) K) (hH:HSub H (HI a0)) (hI:I a0) (h:∀ b0,I b0→JD P N C (cd c pa) (L b0) (HI b0) (ql1 C L HI I μ b0 Q)):JD P N C (cd c p) K H Q:=
 jd_loop (fun g:A0=>L g) (fun g:A0=>HI g) (fun g:A0=>I g) (fun g:A0=>μ g) pa a0 (zek hk).1 (zek hk).2 hs hH hI (fun g hg=>h g hg)
theorem pl1 {A0:Type} {L:A0→Kd} {HI:A0→List Hp} {I:A0→Prop} {μ:A0→Nat} {a0:A0} (b0:A0) (hs:SubK (L b0) K) (hH:HSub H (HI b0)) (hI:I b0) (hμ:μ b0<μ a0):PD C (ql1 C L HI I μ a0 Q) .normal K H:=pd_loop b0 hs hH hI hμ
abbrev ql2 {A0 A1:Type} (C:Ctx) (L:A0→A1→Kd) (HI:A0→A1→List Hp) (I:A0→A1→Prop) (μ:A0→A1→Nat) (a0:A0) (a1:A1) (Q:za7):za7:=zfj C (fun g:A0×A1=>L g.1 g.2) (fun g:A0×A1=>HI g.1 g.2) (fun g:A0×A1=>I g.1 g.2) (fun g:A0×A1=>μ g.1 g.2) (a0,a1) Q
theorem jl2 {A0 A1:Type} (L:A0→A1→Kd) (HI:A0→A1→List Hp) (I:A0→A1→Prop) (μ:A0→A1→Nat) (a0:A0) (a1:A1) (hk:lpF c p=some pa) (hs:SubK (L a0 a1) K) (hH:HSub H (HI a0 a1)) (hI:I a0 a1) (h:∀ b0 b1,I b0 b1→JD P N C (cd c pa) (L b0 b1) (HI b0 b1) (ql2 C L HI I μ b0 b1 Q)):JD P N C (cd c p) K H Q:=
 jd_loop (fun g:A0×A1=>L g.1 g.2) (fun g:A0×A1=>HI g.1 g.2) (fun g:A0×A1=>I g.1 g.2) (fun g:A0×A1=>μ g.1 g.2) pa (a0,a1) (zek hk).1 (zek hk).2 hs hH hI (fun g hg=>h g.1 g.2 hg)
theorem pl2 {A0 A1:Type} {L:A0→A1→Kd} {HI:A0→A1→List Hp} {I:A0→A1→Prop} {μ:A0→A1→Nat} {a0:A0} {a1:A1} (b0:A0) (b1:A1) (hs:SubK (L b0 b1) K) (hH:HSub H (HI b0 b1)) (hI:I b0 b1) (hμ:μ b0 b1<μ a0 a1):PD C (ql2 C L HI I μ a0 a1 Q) .normal K H:=pd_loop (b0,b1) hs hH hI hμ
abbrev ql3 {A0 A1 A2:Type} (C:Ctx) (L:A0→A1→A2→Kd) (HI:A0→A1→A2→List Hp) (I:A0→A1→A2→Prop) (μ:A0→A1→A2→Nat) (a0:A0) (a1:A1) (a2:A2) (Q:za7):za7:=zfj C (fun g:A0×A1×A2=>L g.1 g.2.1 g.2.2) (fun g:A0×A1×A2=>HI g.1 g.2.1 g.2.2) (fun g:A0×A1×A2=>I g.1 g.2.1 g.2.2) (fun g:A0×A1×A2=>μ g.1 g.2.1 g.2.2) (a0,a1,a2) Q
theorem jl3 {A0 A1 A2:Type} (L:A0→A1→A2→Kd) (HI:A0→A1→A2→List Hp) (I:A0→A1→A2→Prop) (μ:A0→A1→A2→Nat) (a0:A0) (a1:A1) (a2:A2) (hk:lpF c p=some pa) (hs:SubK (L a0 a1 a2) K) (hH:HSub H (HI a0 a1 a2)) (hI:I a0 a1 a2) (h:∀ b0 b1 b2,I b0 b1 b2→JD P N C (cd c pa) (L b0 b1 b2) (HI b0 b1 b2) (ql3 C L HI I μ b0 b1 b2 Q)):JD P N C (cd c p) K H Q:=
 jd_loop (fun g:A0×A1×A2=>L g.1 g.2.1 g.2.2) (fun g:A0×A1×A2=>HI g.1 g.2.1 g.2.2) (fun g:A0×A1×A2=>I g.1 g.2.1 g.2.2) (fun g:A0×A1×A2=>μ g.1 g.2.1 g.2.2) pa (a0,a1,a2) (zek hk).1 (zek hk).2 hs hH hI (fun g hg=>h g.1 g.2.1 g.2.2 hg)
theorem pl3 {A0 A1 A2:Type} {L:A0→A1→A2→Kd} {HI:A0→A1→A2→List Hp} {I:A0→A1→A2→Prop} {μ:A0→A1→A2→Nat} {a0:A0} {a1:A1} {a2:A2} (b0:A0) (b1:A1) (b2:A2) (hs:SubK (L b0 b1 b2) K) (hH:HSub H (HI b0 b1 b2)) (hI:I b0 b1 b2) (hμ:μ b0 b1 b2<μ a0 a1 a2):PD C (ql3 C L HI I μ a0 a1 a2 Q) .normal K H:=pd_loop (b0,b1,b2) hs hH hI hμ
abbrev ql4 {A0 A1 A2 A3:Type} (C:Ctx) (L:A0→A1→A2→A3→Kd) (HI:A0→A1→A2→A3→List Hp) (I:A0→A1→A2→A3→Prop) (μ:A0→A1→A2→A3→Nat) (a0:A0) (a1:A1) (a2:A2) (a3:A3) (Q:za7):za7:=zfj C (fun g:A0×A1×A2×A3=>L g.1 g.2.1 g.2.2.1 g.2.2.2) (fun g:A0×A1×A2×A3=>HI g.1 g.2.1 g.2.2.1 g.2.2.2) (fun g:A0×A1×A2×A3=>I g.1 g.2.1 g.2.2.1 g.2.2.2) (fun g:A0×A1×A2×A3=>μ g.1 g.2.1 g.2.2.1 g.2.2.2) (a0,a1,a2,a3) Q
theorem jl4 {A0 A1 A2 A3:Type} (L:A0→A1→A2→A3→Kd) (HI:A0→A1→A2→A3→List Hp) (I:A0→A1→A2→A3→Prop) (μ:A0→A1→A2→A3→Nat) (a0:A0) (a1:A1) (a2:A2) (a3:A3) (hk:lpF c p=some pa) (hs:SubK (L a0 a1 a2 a3) K) (hH:HSub H (HI a0 a1 a2 a3)) (hI:I a0 a1 a2 a3) (h:∀ b0 b1 b2 b3,I b0 b1 b2 b3→JD P N C (cd c pa) (L b0 b1 b2 b3) (HI b0 b1 b2 b3) (ql4 C L HI I μ b0 b1 b2 b3 Q)):JD P N C (cd c p) K H Q:=
 jd_loop (fun g:A0×A1×A2×A3=>L g.1 g.2.1 g.2.2.1 g.2.2.2) (fun g:A0×A1×A2×A3=>HI g.1 g.2.1 g.2.2.1 g.2.2.2) (fun g:A0×A1×A2×A3=>I g.1 g.2.1 g.2.2.1 g.2.2.2) (fun g:A0×A1×A2×A3=>μ g.1 g.2.1 g.2.2.1 g.2.2.2) pa (a0,a1,a2,a3) (zek hk).1 (zek hk).2 hs hH hI (fun g hg=>h g.1 g.2.1 g.2.2.1 g.2.2.2 hg)
theorem pl4 {A0 A1 A2 A3:Type} {L:A0→A1→A2→A3→Kd} {HI:A0→A1→A2→A3→List Hp} {I:A0→A1→A2→A3→Prop} {μ:A0→A1→A2→A3→Nat} {a0:A0} {a1:A1} {a2:A2} {a3:A3} (b0:A0) (b1:A1) (b2:A2) (b3:A3) (hs:SubK (L b0 b1 b2 b3) K) (hH:HSub H (HI b0 b1 b2 b3)) (hI:I b0 b1 b2 b3) (hμ:μ b0 b1 b2 b3<μ a0 a1 a2 a3):PD C (ql4 C L HI I μ a0 a1 a2 a3 Q) .normal K H:=pd_loop (b0,b1,b2,b3) hs hH hI hμ
end
theorem bA (a b:Bool):((a&&b)=true)=(a=true∧b=true):=Bool.and_eq_true a b
theorem bB (a b:Bool):((a||b)=true)=(a=true∨b=true):=Bool.or_eq_true a b
theorem bC (b:Bool):((!b)=true)=(b=false):=Bool.not_eq_true' b
theorem bD (b:Bool):((!b)=false)=(b=true):=Bool.not_eq_false' b
theorem bE (a b:Bool):((a&&b)=false)=(a=false∨b=false):=by cases a<;>cases b<;>simp
theorem bF (a b:Bool):((a||b)=false)=(a=false∧b=false):=by cases a<;>cases b<;>simp
theorem bG (p:Prop) [Decidable p]:(decide p=true)=p:=decide_eq_true_eq
theorem bH (p:Prop) [Decidable p]:(decide p=false)=¬p:=by simp
theorem bI (p:Prop) [Decidable p]:(¬¬p)=p:=by simp
theorem bJ {α:Sort _} (a b:α):(a≠b)=¬a=b:=rfl
theorem la {α:Type} {a b:List α}:(a++b).length=a.length+b.length:=List.length_append
theorem lc {α:Type} {a:α} {b:List α}:(a::b).length=b.length+1:=List.length_cons
theorem ln {α:Type}:([]:List α).length=0:=List.length_nil
theorem lm {α β:Type} {a:List α} {f:α→β}:(a.map f).length=a.length:=List.length_map f
theorem lt' {α:Type} {n:Nat} {a:List α}:(a.take n).length=min n a.length:=List.length_take
theorem ld {α:Type} {n:Nat} {a:List α}:(a.drop n).length=a.length-n:=List.length_drop
theorem ls {α:Type} {n:Nat} {a:List α} {x:α}:(a.set n x).length=a.length:=List.length_set
theorem lr {α:Type} {n:Nat} {x:α}:(List.replicate n x).length=n:=List.length_replicate
end Lp
set_option linter.unusedSimpArgs false
set_option linter.unusedVariables false
set_option maxHeartbeats 4000000
set_option maxRecDepth 100000
namespace Lp
open Go Go.RowKit Go.Proofs
namespace HdYtheccaeefigajaaGreatDoorV5
end HdYtheccaeefigajaaGreatDoorV5
open HdYtheccaeefigajaaGreatDoorV5
theorem Kind_c (r:Int) :
 CD Tryz.prog 151 [] [.v (.int .i32 r)] (isR (dI (zP r))):=by
 refine zr Tryz.func151 J (N:=51) J J (fun C=>?_)
 refine jk [0] J (jT J (oR 1 J (oZ J (jS J (jB J (jS J (jk [0,2] J ?_)))))))
 refine zX 3 ((decide (r<(0:Int))||decide (r=(65533:Int)))) [] (fun _ hQ1=>?_) ?_
 · skip
   by_cases hg2:r<(0:Int)
   · skip
     refine zg J (oR 1 J (oP J (za2 J J (decide_eq_true hg2)) (oR 5 J (zq J ?_))))
     exact PD.sub ((3,dB (decide (r<(0:Int))||decide (r=(65533:Int))))::[(0,.v (.int .i32 r)),(2,dI 0)]) ⟨sc J (Cv.eq (congrArg (fun b=>D.v (.bool b)) (by first | (simp[hg2];done) | (simp_all;done)))),sk rfl,sk rfl,trivial⟩ hQ1
   · skip
     refine zg J (oR 1 J (oP J (za2 J J (decide_eq_false hg2)) (oR 2 J (oG J (zG J J J) (oR 2 J (zq J ?_))))))
     exact PD.sub ((3,dB (decide (r<(0:Int))||decide (r=(65533:Int))))::[(0,.v (.int .i32 r)),(2,dI 0)]) ⟨sc J (Cv.eq (congrArg (fun b=>D.v (.bool b)) (by first | (simp[hg2];done) | (simp_all;done)))),sk rfl,sk rfl,trivial⟩ hQ1
 · skip
   refine zl ?_
   refine jC J (fun hc3=>?_) (fun hc3=>?_)
   · simp only[bA,bB,bC,bD,bE,bF,bG,bH,bI,bJ] at hc3
     refine jT J (oR 1 J (oZ J (zm J (zo (zj ?_)))))
     exact zh Tryz.results151 (.cons (zu (zk J) (Cv.eq (congrArg (fun n=>D.v (.int .i64 n)) (by unfold zP;(repeat (any_goals split))<;>omega)))) .nil) rfl HSub.none ⟨rfl,rfl⟩
   · simp only[bA,bB,bC,bD,bE,bF,bG,bH,bI,bJ] at hc3
     refine jS J (jk [0,2] J ?_)
     refine zX 10 (((((decide ((97:Int)≤r)&&decide (r≤(122:Int)))||(decide ((65:Int)≤r)&&decide (r≤(90:Int))))||decide (r=(95:Int)))||decide ((128:Int)≤r))) [] (fun _ hQ4=>?_) ?_
     · skip
       by_cases hg5:(97:Int)≤r
       · skip
         by_cases hg6:r≤(122:Int)
         · skip
           refine zg J (oR 1 J (oP J (zaM J J (decide_eq_true hg5)) (oR 2 J (oG J (zbK J J (decide_eq_true hg6)) (oR 18 J (zq J ?_))))))
           exact PD.sub ((10,dB ((((decide ((97:Int)≤r)&&decide (r≤(122:Int)))||(decide ((65:Int)≤r)&&decide (r≤(90:Int))))||decide (r=(95:Int)))||decide ((128:Int)≤r)))::[(0,.v (.int .i32 r)),(2,dI 0)]) ⟨sc J (Cv.eq (congrArg (fun b=>D.v (.bool b)) (by first | (simp[hg5,hg6];done) | (simp_all;done)))),sk rfl,sk rfl,trivial⟩ hQ4
         · skip
           by_cases hg7:(65:Int)≤r
           · skip
             by_cases hg8:r≤(90:Int)
             · skip
               refine zg J (oR 1 J (oP J (zaM J J (decide_eq_true hg5)) (oR 2 J (oG J (zbK J J (decide_eq_false hg6)) (oR 3 J (oG J (zaM J J (decide_eq_true hg7)) (oR 2 J (oG J (zbK J J (decide_eq_true hg8)) (oR 11 J (zq J ?_))))))))))
               exact PD.sub ((10,dB ((((decide ((97:Int)≤r)&&decide (r≤(122:Int)))||(decide ((65:Int)≤r)&&decide (r≤(90:Int))))||decide (r=(95:Int)))||decide ((128:Int)≤r)))::[(0,.v (.int .i32 r)),(2,dI 0)]) ⟨sc J (Cv.eq (congrArg (fun b=>D.v (.bool b)) (by first | (simp[hg5,hg6,hg7,hg8];done) | (simp_all;done)))),sk rfl,sk rfl,trivial⟩ hQ4
             · skip
               by_cases hg9:r=(95:Int)
               · skip
                 refine zg J (oR 1 J (oP J (zaM J J (decide_eq_true hg5)) (oR 2 J (oG J (zbK J J (decide_eq_false hg6)) (oR 3 J (oG J (zaM J J (decide_eq_true hg7)) (oR 2 J (oG J (zbK J J (decide_eq_false hg8)) (oR 4 J (oG J (zG J J (decide_eq_true hg9)) (oR 6 J (zq J ?_))))))))))))
                 exact PD.sub ((10,dB ((((decide ((97:Int)≤r)&&decide (r≤(122:Int)))||(decide ((65:Int)≤r)&&decide (r≤(90:Int))))||decide (r=(95:Int)))||decide ((128:Int)≤r)))::[(0,.v (.int .i32 r)),(2,dI 0)]) ⟨sc J (Cv.eq (congrArg (fun b=>D.v (.bool b)) (by first | (simp[hg5,hg6,hg7,hg8,hg9];done) | (simp_all;done)))),sk rfl,sk rfl,trivial⟩ hQ4
               · skip
                 refine zg J (oR 1 J (oP J (zaM J J (decide_eq_true hg5)) (oR 2 J (oG J (zbK J J (decide_eq_false hg6)) (oR 3 J (oG J (zaM J J (decide_eq_true hg7)) (oR 2 J (oG J (zbK J J (decide_eq_false hg8)) (oR 4 J (oG J (zG J J (decide_eq_false hg9)) (oR 3 J (oG J (zaM J J J) (oR 2 J (zq J ?_))))))))))))))
                 exact PD.sub ((10,dB ((((decide ((97:Int)≤r)&&decide (r≤(122:Int)))||(decide ((65:Int)≤r)&&decide (r≤(90:Int))))||decide (r=(95:Int)))||decide ((128:Int)≤r)))::[(0,.v (.int .i32 r)),(2,dI 0)]) ⟨sc J (Cv.eq (congrArg (fun b=>D.v (.bool b)) (by first | (simp[hg5,hg6,hg7,hg8,hg9];done) | (simp_all;done)))),sk rfl,sk rfl,trivial⟩ hQ4
           · skip
             by_cases hg10:r=(95:Int)
             · skip
               refine zg J (oR 1 J (oP J (zaM J J (decide_eq_true hg5)) (oR 2 J (oG J (zbK J J (decide_eq_false hg6)) (oR 3 J (oG J (zaM J J (decide_eq_false hg7)) (oR 7 J (oG J (zG J J (decide_eq_true hg10)) (oR 6 J (zq J ?_))))))))))
               exact PD.sub ((10,dB ((((decide ((97:Int)≤r)&&decide (r≤(122:Int)))||(decide ((65:Int)≤r)&&decide (r≤(90:Int))))||decide (r=(95:Int)))||decide ((128:Int)≤r)))::[(0,.v (.int .i32 r)),(2,dI 0)]) ⟨sc J (Cv.eq (congrArg (fun b=>D.v (.bool b)) (by first | (simp[hg10,hg5,hg6,hg7];done) | (simp_all;done)))),sk rfl,sk rfl,trivial⟩ hQ4
             · skip
               refine zg J (oR 1 J (oP J (zaM J J (decide_eq_true hg5)) (oR 2 J (oG J (zbK J J (decide_eq_false hg6)) (oR 3 J (oG J (zaM J J (decide_eq_false hg7)) (oR 7 J (oG J (zG J J (decide_eq_false hg10)) (oR 3 J (oG J (zaM J J J) (oR 2 J (zq J ?_))))))))))))
               exact PD.sub ((10,dB ((((decide ((97:Int)≤r)&&decide (r≤(122:Int)))||(decide ((65:Int)≤r)&&decide (r≤(90:Int))))||decide (r=(95:Int)))||decide ((128:Int)≤r)))::[(0,.v (.int .i32 r)),(2,dI 0)]) ⟨sc J (Cv.eq (congrArg (fun b=>D.v (.bool b)) (by first | (simp[hg10,hg5,hg6,hg7];done) | (simp_all;done)))),sk rfl,sk rfl,trivial⟩ hQ4
       · skip
         by_cases hg11:(65:Int)≤r
         · skip
           by_cases hg12:r≤(90:Int)
           · skip
             refine zg J (oR 1 J (oP J (zaM J J (decide_eq_false hg5)) (oR 6 J (oG J (zaM J J (decide_eq_true hg11)) (oR 2 J (oG J (zbK J J (decide_eq_true hg12)) (oR 11 J (zq J ?_))))))))
             exact PD.sub ((10,dB ((((decide ((97:Int)≤r)&&decide (r≤(122:Int)))||(decide ((65:Int)≤r)&&decide (r≤(90:Int))))||decide (r=(95:Int)))||decide ((128:Int)≤r)))::[(0,.v (.int .i32 r)),(2,dI 0)]) ⟨sc J (Cv.eq (congrArg (fun b=>D.v (.bool b)) (by first | (simp[hg11,hg12,hg5];done) | (simp_all;done)))),sk rfl,sk rfl,trivial⟩ hQ4
           · skip
             by_cases hg13:r=(95:Int)
             · skip
               refine zg J (oR 1 J (oP J (zaM J J (decide_eq_false hg5)) (oR 6 J (oG J (zaM J J (decide_eq_true hg11)) (oR 2 J (oG J (zbK J J (decide_eq_false hg12)) (oR 4 J (oG J (zG J J (decide_eq_true hg13)) (oR 6 J (zq J ?_))))))))))
               exact PD.sub ((10,dB ((((decide ((97:Int)≤r)&&decide (r≤(122:Int)))||(decide ((65:Int)≤r)&&decide (r≤(90:Int))))||decide (r=(95:Int)))||decide ((128:Int)≤r)))::[(0,.v (.int .i32 r)),(2,dI 0)]) ⟨sc J (Cv.eq (congrArg (fun b=>D.v (.bool b)) (by first | (simp[hg11,hg12,hg13,hg5];done) | (simp_all;done)))),sk rfl,sk rfl,trivial⟩ hQ4
             · skip
               refine zg J (oR 1 J (oP J (zaM J J (decide_eq_false hg5)) (oR 6 J (oG J (zaM J J (decide_eq_true hg11)) (oR 2 J (oG J (zbK J J (decide_eq_false hg12)) (oR 4 J (oG J (zG J J (decide_eq_false hg13)) (oR 3 J (oG J (zaM J J J) (oR 2 J (zq J ?_))))))))))))
               exact PD.sub ((10,dB ((((decide ((97:Int)≤r)&&decide (r≤(122:Int)))||(decide ((65:Int)≤r)&&decide (r≤(90:Int))))||decide (r=(95:Int)))||decide ((128:Int)≤r)))::[(0,.v (.int .i32 r)),(2,dI 0)]) ⟨sc J (Cv.eq (congrArg (fun b=>D.v (.bool b)) (by first | (simp[hg11,hg12,hg13,hg5];done) | (simp_all;done)))),sk rfl,sk rfl,trivial⟩ hQ4
         · skip
           by_cases hg14:r=(95:Int)
           · skip
             refine zg J (oR 1 J (oP J (zaM J J (decide_eq_false hg5)) (oR 6 J (oG J (zaM J J (decide_eq_false hg11)) (oR 7 J (oG J (zG J J (decide_eq_true hg14)) (oR 6 J (zq J ?_))))))))
             exact PD.sub ((10,dB ((((decide ((97:Int)≤r)&&decide (r≤(122:Int)))||(decide ((65:Int)≤r)&&decide (r≤(90:Int))))||decide (r=(95:Int)))||decide ((128:Int)≤r)))::[(0,.v (.int .i32 r)),(2,dI 0)]) ⟨sc J (Cv.eq (congrArg (fun b=>D.v (.bool b)) (by first | (simp[hg11,hg14,hg5];done) | (simp_all;done)))),sk rfl,sk rfl,trivial⟩ hQ4
           · skip
             refine zg J (oR 1 J (oP J (zaM J J (decide_eq_false hg5)) (oR 6 J (oG J (zaM J J (decide_eq_false hg11)) (oR 7 J (oG J (zG J J (decide_eq_false hg14)) (oR 3 J (oG J (zaM J J J) (oR 2 J (zq J ?_))))))))))
             exact PD.sub ((10,dB ((((decide ((97:Int)≤r)&&decide (r≤(122:Int)))||(decide ((65:Int)≤r)&&decide (r≤(90:Int))))||decide (r=(95:Int)))||decide ((128:Int)≤r)))::[(0,.v (.int .i32 r)),(2,dI 0)]) ⟨sc J (Cv.eq (congrArg (fun b=>D.v (.bool b)) (by first | (simp[hg11,hg14,hg5];done) | (simp_all;done)))),sk rfl,sk rfl,trivial⟩ hQ4
     · skip
       refine zl ?_
       refine jC J (fun hc15=>?_) (fun hc15=>?_)
       · simp only[bA,bB,bC,bD,bE,bF,bG,bH,bI,bJ] at hc15
         refine jT J (oR 1 J (oZ J (zm J (zo (zj ?_)))))
         exact zh Tryz.results151 (.cons (zu (zk J) (Cv.eq (congrArg (fun n=>D.v (.int .i64 n)) (by unfold zP;(repeat (any_goals split))<;>omega)))) .nil) rfl HSub.none ⟨rfl,rfl⟩
       · simp only[bA,bB,bC,bD,bE,bF,bG,bH,bI,bJ] at hc15
         refine jS J (jk [0,2] J ?_)
         refine zX 33 ((decide ((48:Int)≤r)&&decide (r≤(57:Int)))) [] (fun _ hQ16=>?_) ?_
         · skip
           by_cases hg17:(48:Int)≤r
           · skip
             refine zg J (oR 1 J (oP J (zaM J J (decide_eq_true hg17)) (oR 2 J (oG J (zbK J J J) (oR 2 J (zq J ?_))))))
             exact PD.sub ((33,dB (decide ((48:Int)≤r)&&decide (r≤(57:Int))))::[(0,.v (.int .i32 r)),(2,dI 0)]) ⟨sc J (Cv.eq (congrArg (fun b=>D.v (.bool b)) (by first | (simp[hg17];done) | (simp_all;done)))),sk rfl,sk rfl,trivial⟩ hQ16
           · skip
             refine zg J (oR 1 J (oP J (zaM J J (decide_eq_false hg17)) (oR 5 J (zq J ?_))))
             exact PD.sub ((33,dB (decide ((48:Int)≤r)&&decide (r≤(57:Int))))::[(0,.v (.int .i32 r)),(2,dI 0)]) ⟨sc J (Cv.eq (congrArg (fun b=>D.v (.bool b)) (by first | (simp[hg17];done) | (simp_all;done)))),sk rfl,sk rfl,trivial⟩ hQ16
         · skip
           refine zl ?_
           refine jC J (fun hc18=>?_) (fun hc18=>?_)
           · simp only[bA,bB,bC,bD,bE,bF,bG,bH,bI,bJ] at hc18
             refine jT J (oR 1 J (oZ J (zm J (zo (zj ?_)))))
             exact zh Tryz.results151 (.cons (zu (zk J) (Cv.eq (congrArg (fun n=>D.v (.int .i64 n)) (by unfold zP;(repeat (any_goals split))<;>omega)))) .nil) rfl HSub.none ⟨rfl,rfl⟩
           · simp only[bA,bB,bC,bD,bE,bF,bG,bH,bI,bJ] at hc18
             refine jS J (jk [0,2] J ?_)
             refine zX 40 (((decide (r=(32:Int))||decide (r=(9:Int)))||decide (r=(10:Int)))) [] (fun _ hQ19=>?_) ?_
             · skip
               by_cases hg20:r=(32:Int)
               · skip
                 refine zg J (oR 1 J (oP J (zG J J (decide_eq_true hg20)) (oR 9 J (zq J ?_))))
                 exact PD.sub ((40,dB ((decide (r=(32:Int))||decide (r=(9:Int)))||decide (r=(10:Int))))::[(0,.v (.int .i32 r)),(2,dI 0)]) ⟨sc J (Cv.eq (congrArg (fun b=>D.v (.bool b)) (by first | (simp[hg20];done) | (simp_all;done)))),sk rfl,sk rfl,trivial⟩ hQ19
               · skip
                 by_cases hg21:r=(9:Int)
                 · skip
                   refine zg J (oR 1 J (oP J (zG J J (decide_eq_false hg20)) (oR 2 J (oG J (zG J J (decide_eq_true hg21)) (oR 6 J (zq J ?_))))))
                   exact PD.sub ((40,dB ((decide (r=(32:Int))||decide (r=(9:Int)))||decide (r=(10:Int))))::[(0,.v (.int .i32 r)),(2,dI 0)]) ⟨sc J (Cv.eq (congrArg (fun b=>D.v (.bool b)) (by first | (simp[hg20,hg21];done) | (simp_all;done)))),sk rfl,sk rfl,trivial⟩ hQ19
                 · skip
                   refine zg J (oR 1 J (oP J (zG J J (decide_eq_false hg20)) (oR 2 J (oG J (zG J J (decide_eq_false hg21)) (oR 3 J (oG J (zG J J J) (oR 2 J (zq J ?_))))))))
                   exact PD.sub ((40,dB ((decide (r=(32:Int))||decide (r=(9:Int)))||decide (r=(10:Int))))::[(0,.v (.int .i32 r)),(2,dI 0)]) ⟨sc J (Cv.eq (congrArg (fun b=>D.v (.bool b)) (by first | (simp[hg20,hg21];done) | (simp_all;done)))),sk rfl,sk rfl,trivial⟩ hQ19
             · skip
               refine zl ?_
               refine jC J (fun hc22=>?_) (fun hc22=>?_)
               · simp only[bA,bB,bC,bD,bE,bF,bG,bH,bI,bJ] at hc22
                 refine jT J (oR 1 J (oZ J (zm J (zo (zj ?_)))))
                 exact zh Tryz.results151 (.cons (zu (zk J) (Cv.eq (congrArg (fun n=>D.v (.int .i64 n)) (by unfold zP;(repeat (any_goals split))<;>omega)))) .nil) rfl HSub.none ⟨rfl,rfl⟩
               · simp only[bA,bB,bC,bD,bE,bF,bG,bH,bI,bJ] at hc22
                 refine zp J (zE (zl (jT J (oR 1 J (oZ J (zm J ?_))))))
                 exact zh Tryz.results151 (.cons (zu (zk J) (Cv.eq (congrArg (fun n=>D.v (.int .i64 n)) (by unfold zP;(repeat (any_goals split))<;>omega)))) .nil) rfl HSub.none ⟨rfl,rfl⟩
theorem Name_c (s:ByteArray) :
 CD Tryz.prog 176 [] [.s s] (isR (dB (zcO s))):=by
 refine zr Tryz.func176 J (N:=32) J J (fun C=>?_)
 refine jk [0] J ?_
 refine JD.bd 0 J (fun bd0=>?_)
 have sz0:s.size≤9223372036854775807:=bd0
 refine jT J (oR 1 J (oZ J (jT J (oR 1 J (oZ J (jS J (jT J (oR 1 J (oE J (zdZ J Tryz.runUnderlying9) ?_)))))))))
 rintro _ _ ⟨g1,rfl,rfl⟩
 refine oZ J (jB J (jl2 (fun (a_:Nat) (b_:Nat)=>[(8,dP g1 0),(3,dN b_)]) (fun a_ b_=>[.it g1 s a_]) (fun a_ b_=>(a_≤s.size)∧(b_≤a_)∧(zdp 0 (zaC s)=zdp b_ (zbo s a_))) (fun a_ b_=>s.size-a_) 0 0 J (sa J) HSub.rfl' ⟨Nat.zero_le _,Nat.le_refl _,J⟩ ?_))
 rintro p n ⟨hp,hn,hf⟩
 refine ja J (jn J ?_)
 rcases Nat.lt_or_ge p s.size with hlt | hge
 · skip
   have hrune:=zbk hlt
   have hrl:=zdd s p
   have hdw:=zbi s p hlt
   have hdp:=zah s p
   refine jT J (oE J (zdk (i:=0) J J hlt) ?_)
   rintro _ _ ⟨rfl,rfl⟩
   refine on J (oR 1 J (oZ J (jS J (jCt J (zp J (zl (jB J (jT J (oR 2 J (oZ J (jS J (jT J (oR 1 J (oW J J acs Tryz.call151 (Kind_c ((decR s p:Nat):Int)) (oR 1 J (oZ J (jS J (jk [3,5,6,8,9,10,11,12,13] J ?_))))))))))))))))))
   refine zX 23 ((decide (zP ((decR s p:Nat):Int)≠(1:Int))&&(decide (zP ((decR s p:Nat):Int)≠(2:Int))||decide (((n:Nat):Int)=(0:Int))))) [.it g1 s (p+decW s p)] (fun _ hQ2=>?_) ?_
   · skip
     by_cases hg3:zP ((decR s p:Nat):Int)≠(1:Int)
     · skip
       by_cases hg4:zP ((decR s p:Nat):Int)≠(2:Int)
       · skip
         refine zg J (oR 1 J (oP J (zb8 J J (decide_eq_true hg3)) (oR 2 J (oG J (zb8 J J (decide_eq_true hg4)) (oR 5 J (zq J ?_))))))
         exact PD.sub ((23,dB (decide (zP ((decR s p:Nat):Int)≠(1:Int))&&(decide (zP ((decR s p:Nat):Int)≠(2:Int))||decide (((n:Nat):Int)=(0:Int)))))::[(3,dN n),(5,.v (.int .i32 ((decR s p:Nat):Int))),(6,dI (zP ((decR s p:Nat):Int))),(8,dP g1 0),(9,.tup [dB true,dN p,.v (.int .i32 ((decR s p:Nat):Int))]),(10,dB true),(11,.v (.int .i32 ((decR s p:Nat):Int))),(12,.v (.int .i32 ((decR s p:Nat):Int))),(13,dI (zP ((decR s p:Nat):Int)))]) ⟨sc J (Cv.eq (congrArg (fun b=>D.v (.bool b)) (by first | (simp[hg3,hg4];done) | (simp_all;done)))),sk rfl,sk rfl,sk rfl,sk rfl,sk rfl,sk rfl,sk rfl,sk rfl,sk rfl,trivial⟩ hQ2
       · skip
         refine zg J (oR 1 J (oP J (zb8 J J (decide_eq_true hg3)) (oR 2 J (oG J (zb8 J J (decide_eq_false hg4)) (oR 2 J (oG J (zG J J J) (oR 2 J (zq J ?_))))))))
         exact PD.sub ((23,dB (decide (zP ((decR s p:Nat):Int)≠(1:Int))&&(decide (zP ((decR s p:Nat):Int)≠(2:Int))||decide (((n:Nat):Int)=(0:Int)))))::[(3,dN n),(5,.v (.int .i32 ((decR s p:Nat):Int))),(6,dI (zP ((decR s p:Nat):Int))),(8,dP g1 0),(9,.tup [dB true,dN p,.v (.int .i32 ((decR s p:Nat):Int))]),(10,dB true),(11,.v (.int .i32 ((decR s p:Nat):Int))),(12,.v (.int .i32 ((decR s p:Nat):Int))),(13,dI (zP ((decR s p:Nat):Int)))]) ⟨sc J (Cv.eq (congrArg (fun b=>D.v (.bool b)) (by first | (simp[hg3,hg4];done) | (simp_all;done)))),sk rfl,sk rfl,sk rfl,sk rfl,sk rfl,sk rfl,sk rfl,sk rfl,sk rfl,trivial⟩ hQ2
     · skip
       refine zg J (oR 1 J (oP J (zb8 J J (decide_eq_false hg3)) (oR 8 J (zq J ?_))))
       exact PD.sub ((23,dB (decide (zP ((decR s p:Nat):Int)≠(1:Int))&&(decide (zP ((decR s p:Nat):Int)≠(2:Int))||decide (((n:Nat):Int)=(0:Int)))))::[(3,dN n),(5,.v (.int .i32 ((decR s p:Nat):Int))),(6,dI (zP ((decR s p:Nat):Int))),(8,dP g1 0),(9,.tup [dB true,dN p,.v (.int .i32 ((decR s p:Nat):Int))]),(10,dB true),(11,.v (.int .i32 ((decR s p:Nat):Int))),(12,.v (.int .i32 ((decR s p:Nat):Int))),(13,dI (zP ((decR s p:Nat):Int)))]) ⟨sc J (Cv.eq (congrArg (fun b=>D.v (.bool b)) (by first | (simp[hg3];done) | (simp_all;done)))),sk rfl,sk rfl,sk rfl,sk rfl,sk rfl,sk rfl,sk rfl,sk rfl,sk rfl,trivial⟩ hQ2
   · skip
     refine zl ?_
     refine jC J (fun hc5=>?_) (fun hc5=>?_)
     · simp only[bA,bB,bC,bD,bE,bF,bG,bH,bI,bJ] at hc5
       refine jT J (oR 1 J (oZ J (zm J (zj (zo (zaL (zo (zj ?_))))))))
       exact zh Tryz.results176 (.cons (zu (zk J) (Cv.eq (congrArg (fun b=>D.v (.bool b)) (by unfold zcO;rw[hf,hrune];rw[nameR_bad (by omega)])))) .nil) rfl HSub.none ⟨rfl,rfl⟩
     · simp only[bA,bB,bC,bD,bE,bF,bG,bH,bI,bJ] at hc5
       refine zp J (zl (zg J (oR 1 J (oP J (zbD (c:=((n+1:Nat):Int)) J J (zaJ (by omega) (by omega))) (oR 1 rfl (zq rfl (zE ?_)))))))
       exact pl2 (p+decW s p) (n+1) (sa J) HSub.rfl' ⟨by have:=zbi s p hlt;omega,by omega,by rw[hf,hrune,nameR_next (by omega)]⟩ (by have:=zah s p;omega)
 · skip
   have hrune:=zby hge
   refine jT J (oP J (zdR (i:=0) J J hge) (oR 1 J (oZ J (jS J (jCf J (zas J (zO (zK (zD (zl (jS J (jk [3] J ?_))))))))))))
   refine zX 2 ((decide ((1:Int)≤((n:Nat):Int))&&decide (((n:Nat):Int)≤(30:Int)))) [.it g1 s p] (fun _ hQ6=>?_) ?_
   · skip
     by_cases hg7:(1:Int)≤((n:Nat):Int)
     · skip
       refine zg J (oR 1 J (oP J (zaM J J (decide_eq_true hg7)) (oR 2 J (oG J (zbK J J J) (oR 2 J (zq J ?_))))))
       exact PD.sub ((2,dB (decide ((1:Int)≤((n:Nat):Int))&&decide (((n:Nat):Int)≤(30:Int))))::[(3,dN n)]) ⟨sc J (Cv.eq (congrArg (fun b=>D.v (.bool b)) (by first | (simp[hg7];done) | (simp_all;done)))),sk rfl,trivial⟩ hQ6
     · skip
       refine zg J (oR 1 J (oP J (zaM J J (decide_eq_false hg7)) (oR 5 J (zq J ?_))))
       exact PD.sub ((2,dB (decide ((1:Int)≤((n:Nat):Int))&&decide (((n:Nat):Int)≤(30:Int))))::[(3,dN n)]) ⟨sc J (Cv.eq (congrArg (fun b=>D.v (.bool b)) (by first | (simp[hg7];done) | (simp_all;done)))),sk rfl,trivial⟩ hQ6
   · skip
     refine zl (zm J ?_)
     exact zh Tryz.results176 (.cons (zu (zk J) (Cv.eq (congrArg (fun b=>D.v (.bool b)) (by unfold zcO;rw[hf,hrune];simp only[zdp];congr 1<;>exact decide_eq_decide.2 (by omega))))) .nil) rfl HSub.none ⟨rfl,rfl⟩
end Lp
set_option linter.unusedSimpArgs false
set_option linter.unusedVariables false
set_option maxHeartbeats 4000000
set_option maxRecDepth 100000
namespace Lp
open Go Go.RowKit Go.Proofs
namespace HdYtheccaeefigajaaGreatDoorV4
theorem eqp_211_eql (x y:Operand) (a:Addr) (w:World):(do eqGuard .eql 211 x y (.pointer (some a)) (.pointer none);binOp .eql 211 (.pointer (some a)) (.pointer none):Sem Value).run Tryz.prog w=.ok (.bool false) w:=by kernel_rfl
theorem eqs_211_neq (d:Nat) (a:Addr) (w:World):(Op.equalIn (d+1) 211 (.pointer (some a)) (.pointer (some a))).run Tryz.prog w=.ok true w:=by
 rw[Op.equalIn]
 simp only[Sem.run_bind,run_underlying (show Tryz.prog.underlying 211=some (.pointer 213) by kernel_rfl),Result.andThen_ok,Tryz.sizeOf213]
 simp[sameAddr]
theorem eqt_211_neq (a:Addr) (w:World):(Op.equal 211 (.pointer (some a)) (.pointer (some a))).run Tryz.prog w=.ok true w:=eqs_211_neq 9999 a w
theorem eqq_211_neq (x y:Operand) (a:Addr) (w:World):(do eqGuard .neq 211 x y (.pointer (some a)) (.pointer (some a));binOp .neq 211 (.pointer (some a)) (.pointer (some a)):Sem Value).run Tryz.prog w=.ok (.bool false) w:=by simp[eqGuard,binOp,eqt_211_neq]
theorem fa_213_0 (b o:Nat):∀ w,(Instr.fieldAt 213 (.pointer (some ⟨b,o,none⟩)) 0).run Tryz.prog w=.ok (.pointer (some ⟨b,o+0,none⟩)) w:=fun _=>by kernel_rfl
theorem zbe (b o:Nat):∀ w,(Instr.fieldAt 213 (.pointer (some ⟨b,o,none⟩)) 1).run Tryz.prog w=.ok (.pointer (some ⟨b,o+1,none⟩)) w:=fun _=>by kernel_rfl
theorem zds:∃ i,Tryz.prog.info? 5=some i∧i.zero=some (.int .u8 0)∧i.size=1∧i.bytes=1:=zch (by kernel_rfl)
theorem zcf:Tryz.prog.underlying 103=some (.slice 5):=by kernel_rfl
end HdYtheccaeefigajaaGreatDoorV4
open HdYtheccaeefigajaaGreatDoorV4
theorem cv_up {w:World} {g:Nat} {c:Array Value} (h:w.heap[g]?=some (.cells c 213 (0,0))) (hc:c.size=2):(convert 211 245 (.pointer (some ⟨g,0,none⟩))).run Tryz.prog w=.ok (.pointer (some ⟨g,0,none⟩)) w:=by
 simp[convert,run_underlying (show Tryz.prog.underlying 211=some _ by kernel_rfl),run_underlying (show Tryz.prog.underlying 245=some _ by kernel_rfl),Conv.unsafePointer,Conv.seenAt,viewAt,cellsIn,run_shape,h,hc,World.shape?,Tryz.sizeOf213]
theorem cv_down {w:World} {g:Nat} {c:Array Value} (h:w.heap[g]?=some (.cells c 213 (0,0))) (hc:c.size=2):(convert 245 211 (.pointer (some ⟨g,0,none⟩))).run Tryz.prog w=.ok (.pointer (some ⟨g,0,none⟩)) w:=by
 have e:liesAt Tryz.prog Tryz.prog.depth 213 (2 / Tryz.prog.cellsOf 213) 0 213 1=true:=by kernel_rfl
 simp[convert,run_underlying (show Tryz.prog.underlying 211=some _ by kernel_rfl),run_underlying (show Tryz.prog.underlying 245=some _ by kernel_rfl),Conv.unsafePointer,Conv.seenAt,viewAt,cellsIn,run_shape,h,hc,World.shape?,Tryz.sizeOf213,variablesAt,e]
theorem p_upto {ty:TypeId} {K:Kd} {H:List Hp} {t1 t2:TypeId} {x:Operand} {g i:Nat} {X:D} (ht:(t1=211∧t2=245)∨(t1=245∧t2=211)) (hx:opD K x=some (dP g 0)) (hm:nth H i=some (.bx g 213 X)) (hX:Nat.beq X.cells.length 2=true):Pu Tryz.prog (.convert t1 t2 x) ty K H (dP g 0):=
 ⟨fun ρ w F hk _ hH=>by
  obtain ⟨u,h1,h2,h3⟩:=hH _ (zaU hm)
  have hl:=zbw (D.rep_cells h1 h2)
  have hc:u.cells.size=2:=by have:=Nat.eq_of_beq_eq_true hX;rw[←hl] at this;simpa [vcs] using this
  have e:ev ρ x=_:=hk.op hx
  refine EOp.of_run (v:=.pointer (some ⟨g,0,none⟩)) (w':=w) ?_ ⟨rfl,J⟩
  rcases ht with ⟨rfl,rfl⟩ | ⟨rfl,rfl⟩
  · have:=zb2 (cv_up h3 hc);simpa [execOp,zaA,e] using this
  · have:=zb2 (cv_down h3 hc);simpa [execOp,zaA,e] using this⟩
theorem p_noEscape {ty:TypeId} {K:Kd} {H:List Hp} {x:Operand} {ats:Array TypeId} {v:Value} (hx:opD K x=some (.v v)):Pu Tryz.prog (.call { callee:=.value (.func 214),args:=#[x],argTypes:=ats }) ty K H (.v v):=
 ⟨fun ρ w F hk _ _=>e_ext (vs:=[v]) (zB ρ [x]) (by rw[show (#[x]:Array Operand).toList=[x] from rfl,zc0 ρ [x] [x] (fun _ h=>h)];have e:ev ρ x=v:=hk.op hx;simp[e]) (fun w=>by
  rw[run_callFunc_extern Tryz.func214 (by kernel_rfl) (by kernel_rfl) (by kernel_rfl) (e:=Extern.AbiNoEscape.same) (by kernel_rfl)];rfl) ⟨rfl,rfl⟩⟩
theorem copyCheck_c (g:Nat) (p:Value) (x:D) (hp:p=.pointer none∨p=.pointer (some ⟨g,0,none⟩)):
 CD Tryz.prog 193 [.bx g 213 (.agg [.v p,x])] [dP g 0] (fun r H'=>r=.tup []∧H'=[.bx g 213 (.agg [dP g 0,x])]):=by
 refine zr Tryz.func193 J (N:=20) J J (fun C=>?_)
 refine jk [0] J ?_
 rcases hp with rfl | rfl
 · skip
   refine jT J (oR 2 J (oP J (zd J fa_213_0 J) (oP J (ze J (i:=0) J Tryz.isAgg211 J) (oP J (zeF (r:=.bool true) J J (fun _=>by kernel_rfl)) (oZ rfl (jCt rfl (zg rfl (oR 2 rfl (oP rfl (p_upto (i:=0) (by first | exact .inl ⟨rfl,rfl⟩ | exact .inr ⟨rfl,rfl⟩) rfl rfl rfl) (oP rfl (p_noEscape rfl) (oP rfl (p_upto (i:=0) (by first | exact .inl ⟨rfl,rfl⟩ | exact .inr ⟨rfl,rfl⟩) rfl rfl rfl) (oR 1 rfl (oP rfl (zd rfl fa_213_0 rfl) (oE rfl (zf (i:=0) (X':=.agg [dP g 0,x]) rfl rfl rfl (CellD.v rfl) Tryz.sizeOf211 rfl rfl rfl) ?_))))))))))))))
   rintro _ _ ⟨rfl,rfl⟩
   refine on J (zq J ?_)
   exact pd_end Tryz.results193 .nil J ⟨rfl,J⟩
 · skip
   refine jT J (oR 2 J (oP J (zd J fa_213_0 J) (oP J (ze J (i:=0) J Tryz.isAgg211 J) (oP J (zeF (r:=.bool false) J J (eqp_211_eql _ _ _)) (oZ J (jCf J (jT J (oR 2 J (oP J (zd J fa_213_0 J) (oP J (ze J (i:=0) J Tryz.isAgg211 J) (oR 1 J (oP J (zeF (r:=.bool false) J J (eqq_211_neq _ _ _)) (oZ J (jk [19] J (jCf J (zp J ?_))))))))))))))))
   exact pd_end Tryz.results193 .nil J ⟨rfl,J⟩
theorem zcw (g:Nat) (p v:Value) (bs:List UInt8) (c:UInt8) (hp:p=.pointer none∨p=.pointer (some ⟨g,0,none⟩)) (hl:bs.length≤1000000000000):
 CD Tryz.prog 169 [.bx g 213 (.agg [.v p,.ov v]),.sl v 1 5 (bs.map dU8)] [dP g 0,.v (.int .u8 ((c.toNat:Nat):Int))] (fun r H'=>∃ v',r=.v .nilIface∧H'=[.bx g 213 (.agg [dP g 0,.ov v']),.sl v' 1 5 ((bs++[c]).map dU8)]):=by
 refine zr Tryz.func169 J (N:=17) J J (fun C=>?_)
 refine jk [0,1] J (jT J (oR 1 J (oZ J (jT J (oR 1 J (oE J (zn [.bx g 213 (.agg [.v p,.ov v])] [.sl v 1 5 (bs.map dU8)] [] J J (.cons ArgC.id .nil) zi Tryz.call193 (copyCheck_c g p (.ov v) hp) (.inl J)) ?_))))))
 rintro _ _ ⟨_,⟨rfl,rfl⟩,rfl⟩
 refine on J (oZ J (jT J (oR 3 J (oP J (zd J zbe J) (oP J (ze J (i:=0) J Tryz.isAgg103 J) (oR 1 J (oE J (zV [.tmp 12] J J (.cons (CellD.v J) .nil) J Tryz.runUnderlying103 Tryz.sizeOf5 Tryz.zeroValue5 J J J J) ?_)))))))
 rintro _ _ ⟨g1,rfl,rfl⟩
 refine oE J (zae (f:=dU8) (l:=bs) (l':=[c]) (i:=2) J J J (SrcD.own (j:=0) J J) zcf zds J J (by unfold maxLen;(try simp only[la,lc,ln,lm,lt',ld,ls,lr]);omega) (by (try simp only[la,lc,ln,lm,lt',ld,ls,lr]);omega)) ?_
 rintro _ _ ⟨v2,rfl,rfl⟩
 refine on J (oR 1 J (oP J (zd J zbe J) (oE J (zf (i:=1) (X':=.agg [dP g 0,.ov v2]) J J J (CellD.o) Tryz.sizeOf103 J J J) ?_)))
 rintro _ _ ⟨rfl,rfl⟩
 refine on J (oZ J (jk [4] J (jT J (oR 1 J (oZ J (zm J (PD.subH (HSub.perm (zc (i:=2) J)) (pn J (PD.subH (HSub.perm (zc (i:=2) J)) (pn J ?_))))))))))
 exact zh Tryz.results169 (.cons (zk J) .nil) J (HSub.fst 2 J) ⟨v2,J,J⟩
theorem zbY (g:Nat) (p v:Value) (bs:List UInt8) (s:ByteArray) (hp:p=.pointer none∨p=.pointer (some ⟨g,0,none⟩)) (hl:bs.length≤1000000000000) (hs:s.size≤1000000000000):
 CD Tryz.prog 171 [.bx g 213 (.agg [.v p,.ov v]),.sl v 1 5 (bs.map dU8)] [dP g 0,.s s] (fun r H'=>∃ v',r=.tup [dI (s.size:Int),.v .nilIface]∧H'=[.bx g 213 (.agg [dP g 0,.ov v']),.sl v' 1 5 ((bs++s.data.toList).map dU8)]):=by
 refine zr Tryz.func171 J (N:=19) J J (fun C=>?_)
 refine jk [0,1] J ?_
 refine JD.bd 1 J (fun bd1=>?_)
 have sz1:s.size≤9223372036854775807:=bd1
 refine jT J (oR 2 J (oZ J (jT J (oR 1 J (oE J (zn [.bx g 213 (.agg [.v p,.ov v])] [.sl v 1 5 (bs.map dU8)] [] J J (.cons ArgC.id .nil) zi Tryz.call193 (copyCheck_c g p (.ov v) hp) (.inl J)) ?_)))))
 rintro _ _ ⟨_,⟨rfl,rfl⟩,rfl⟩
 refine on J (oZ J (jT J (oR 3 J (oP J (zd J zbe J) (oP J (ze J (i:=0) J Tryz.isAgg103 J) (oR 1 J (oE J (ef_append_s (i:=1) (bs:=bs) (s:=s) J J J zcf (by kernel_rfl) zds (by (try simp only[la,lc,ln]);omega)) ?_)))))))
 rintro _ _ ⟨v1,rfl,rfl⟩
 refine on J (oR 1 J (oP J (zd J zbe J) (oE J (zf (i:=0) (X':=.agg [dP g 0,.ov v1]) J J J (CellD.o) Tryz.sizeOf103 J J J) ?_)))
 rintro _ _ ⟨rfl,rfl⟩
 refine on J (oZ J (jk [1,4,5] J (jT J (oR 1 J (oP J (z7 J Tryz.runUnderlying9) (oR 2 J (oZ J (zm J ?_))))))))
 exact zh Tryz.results171 (.cons (zk J) (.cons (zk J) .nil)) J (HSub.fst 2 J) ⟨v1,J,J⟩
end Lp
