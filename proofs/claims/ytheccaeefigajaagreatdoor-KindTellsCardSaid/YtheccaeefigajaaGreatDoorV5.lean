import Derived.Test.YtheccaeefigajaaGreatDoorRows
import Derived.ProofKit
import Derived.LaidMore
import Derived.OpenShut
import Derived.Stop.Joined
import Derived.Test.YtheccaeefigajaaGreatDoorProg
import Derived.Test.YtheccaeefigajaaGreatDoorDT3
set_option linter.unusedVariables false
namespace Lp
open Go Go.RowKit Go.Proofs
theorem laid_ints {H:Type} {enc:TypeId×Value→H} {P:Program} {w:World} {base:Nat} {spare:Nat→Bool} {held:Bool} {fuel n:Nat} {t e:TypeId} {k:IntKind} {cs:List Value} {zs:List Int} {q:List MemPlace}
 (hu:P.underlying t=some (.array n e)) (he:P.underlying e=some (.int k)) (hc:P.cellsOf e=1) (hct:P.cellsOf t=n) (h:DataW.trod enc P w base spare held fuel t cs=some (.agg (zs.map fun z=>.lit (.int k z)),q)):cs=zs.map (Value.int k):=by
 obtain ⟨xs,m,rfl,hx,hlen,hn,hel⟩:=DataW.trod_array hu h
 have hx1:zs.map (fun z=>(DataW.lit (.int k z):DataW H))=xs.map (fun x=>x.1):=by
  have:=congrArg Prod.fst hx
  injection this
 have hl:=congrArg List.length hx1
 rw[List.length_map,List.length_map] at hl
 apply List.ext_getElem?
 intro i
 rcases Nat.lt_or_ge i n with hi | hi
 · have h1:=hel i hi
   rw[hc,Nat.mul_one,List.getElem?_eq_getElem (by omega)] at h1
   obtain ⟨z,e1,e2,_⟩:=DataW.trod_int he h1
   have a1:cs[i]?=some (.int k z):=by
    have:=congrArg (fun l=>l[0]?) e1
    simp only[List.getElem?_take,List.getElem?_drop] at this
    simpa using this
   have a2:zs[i]?=some z:=by
    have:=congrArg (fun l=>l[i]?) hx1
    simp only[List.getElem?_map] at this
    rw[List.getElem?_eq_getElem (show i<xs.length by omega),e2] at this
    cases e3:zs[i]? with
    | none=>rw[e3] at this;cases this
    | some y=>rw[e3] at this;injection this with this;injection this with this;injection this with _ this;rw[this]
   rw[a1,List.getElem?_map,a2];rfl
 · rw[List.getElem?_eq_none (by omega),List.getElem?_eq_none (by rw[List.length_map];omega)]
theorem laid_iface {H:Type} {enc:TypeId×Value→H} {P:Program} {w:World} {base:Nat} {spare:Nat→Bool} {held:Bool} {fuel:Nat} {t:TypeId} {cs:List Value} {x:DataW H×List MemPlace} {ms:TypeDesc}
 (hu:P.underlying t=some ms) (hm:∃ mm,ms=.interface mm) (h:DataW.trod enc P w base spare held fuel t cs=some x):∃ ev,cs=[ev]∧EvOk ev:=by
 obtain ⟨mm,rfl⟩:=hm
 cases fuel with
 | zero=>exact absurd h (by show ¬(none=some x);simp)
 | succ fuel=>
  rw[DataW.trod_step] at h
  unfold DataW.trodStep at h
  rw[hu] at h
  split at h<;>simp_all [EvOk]
theorem var_heap {P:Program} {w:World} {name:String} {g:Nat} {cs:Array Value} (hg:P.globalNamed name=some g) (h:World.var? P w name=some cs):∃ T fr,w.heap[g]?=some (.cells cs T fr):=by
 unfold World.var? at h
 rw[hg] at h
 have h:(match w.heap[g]? with | some (.cells cs _ _)=>some cs | _=>none)=some cs:=h
 split at h
 · rename_i a b c e;injection h with h;subst h;exact⟨_,_,e⟩
 · cases h
theorem of_laid {W:World} (h:laidMetH Tryz.prog Go.Proofs.YtheccaeefigajaaGreatDoor.Rows.kindTellsRow.laid W):∃ ev es,EvOk ev∧EvOk es∧(∃ T fr,W.heap[0]?=some (.cells zdF T fr))∧(∃ T fr,W.heap[2]?=some (.cells #[ev] T fr))∧(∃ T fr,W.heap[1]?=some (.cells #[es] T fr)):=by
 rw[MakeChecks.laidMetH_plain _ _ _ (by kernel_rfl)] at h
 obtain ⟨ps,⟨g0,t0,cs0,f0,p0,q0,hg0,ht0,hv0,hd0,⟨g1,t1,cs1,f1,p1,q1,hg1,ht1,hv1,hd1,⟨g2,t2,cs2,f2,p2,q2,hg2,ht2,hv2,hd2,⟨g3,t3,cs3,f3,p3,q3,hg3,ht3,hv3,hd3,⟨g4,t4,cs4,f4,p4,q4,hg4,ht4,hv4,hd4,_⟩,_⟩,_⟩,_⟩,_⟩,_,_⟩:=h
 obtain rfl:0=g2:=Option.some.inj ((show Tryz.prog.globalNamed _=some 0 by kernel_rfl).symm.trans hg2)
 obtain rfl:2=g3:=Option.some.inj ((show Tryz.prog.globalNamed _=some 2 by kernel_rfl).symm.trans hg3)
 obtain rfl:1=g4:=Option.some.inj ((show Tryz.prog.globalNamed _=some 1 by kernel_rfl).symm.trans hg4)
 have a4:Tryz.prog.globals[1]?.map (·.type)=some t4:=ht4
 obtain rfl:=Option.some.inj ((show Tryz.prog.globals[1]?.map (·.type)=some 202 by kernel_rfl).symm.trans a4)
 obtain ⟨es,e4,hes⟩:=laid_iface Tryz.underlying202 ⟨_,rfl⟩ hd4
 have a2:Tryz.prog.globals[0]?.map (·.type)=some t2:=ht2
 have a3:Tryz.prog.globals[2]?.map (·.type)=some t3:=ht3
 obtain rfl:=Option.some.inj ((show Tryz.prog.globals[0]?.map (·.type)=some 240 by kernel_rfl).symm.trans a2)
 obtain rfl:=Option.some.inj ((show Tryz.prog.globals[2]?.map (·.type)=some 202 by kernel_rfl).symm.trans a3)
 obtain ⟨ev,e3,hev⟩:=laid_iface Tryz.underlying202 ⟨_,rfl⟩ hd3
 have e2:=laid_ints (n:=20) (e:=222) (zs:=Lib.pow10Tab) (by kernel_rfl) (by kernel_rfl) (by kernel_rfl) (by kernel_rfl) hd2
 refine⟨ev,es,hev,hes,?_,?_,?_⟩
 · have:=var_heap hg2 hv2
   rwa [show cs2=zdF from Array.toList_inj.1 (by rw[e2];simp[zdF])] at this
 · have:=var_heap hg3 hv3
   rwa [show cs3=#[ev] from Array.toList_inj.1 (by rw[e3])] at this
 · have:=var_heap hg4 hv4
   rwa [show cs4=#[es] from Array.toList_inj.1 (by rw[e4])] at this
theorem CD.lawT {f:FuncId} {ds:List D} {ev es:Value} (h:CD Tryz.prog f [HPow,HErr ev,HSyn es] ds (fun r H'=>r=.v (.bool true)∧H'=[HPow,HErr ev,HSyn es])) {W:World} {vs:List Value} (hr:D.repA W (FA W) ds vs)
 (h1:∃ T fr,W.heap[0]?=some (.cells zdF T fr)) (h2:∃ T fr,W.heap[2]?=some (.cells #[ev] T fr)) (h3:∃ T fr,W.heap[1]?=some (.cells #[es] T fr)):
 Calls Tryz.prog f vs.toArray W (Ret fun u w'=>Ext W w'∧u=.bool true):=by
 have hno:∀ b,¬blks [HPow,HErr ev,HSyn es] b:=fun b ⟨x,hx,hb⟩=>by
  rcases List.mem_cons.1 hx with rfl | hx
  · exact hb
  · rcases List.mem_cons.1 hx with rfl | hx
    · exact hb
    · rw[List.mem_singleton.1 hx] at hb;exact hb
 have hlt:∀ {g:Nat} {o:Obj},W.heap[g]?=some o→g<W.heap.size:=fun h=>by
  rcases Nat.lt_or_ge _ W.heap.size with h' | h'
  · exact h'
  · rw[Array.getElem?_eq_none h'] at h;cases h
 obtain ⟨T1,f1,e1⟩:=h1
 obtain ⟨T2,f2,e2⟩:=h2
 obtain ⟨T3,f3,e3⟩:=h3
 have hk:HOk W (FA W) (fun _=>True) [HPow,HErr ev,HSyn es]:=⟨by
  refine List.Pairwise.cons (fun y _ g hg=>?_) (List.Pairwise.cons (fun y _ g hg=>?_) (List.Pairwise.cons (fun y hy=>absurd hy (by simp)) .nil))
  · exact absurd hg (fun e=>e)
  · exact absurd hg (fun e=>e),fun x hx=>by
  rcases List.mem_cons.1 hx with rfl | hx
  · exact⟨hlt e1,T1,f1,e1⟩
  · rcases List.mem_cons.1 hx with rfl | hx
    · exact⟨hlt e2,T2,f2,e2⟩
    · rw[List.mem_singleton.1 hx];exact⟨hlt e3,T3,f3,e3⟩,fun g hg=>absurd hg (hno g)⟩
 refine(h.out W (FA W) vs hr (fun _ h=>h) hk).mono ?_
 rintro e w' ⟨u,rfl,F',d',H',⟨rfl,rfl⟩,hrep,g⟩
 have hrep:u=.bool true:=hrep
 exact⟨u,rfl,⟨g.os,g.tape,g.output,g.size,fun b hb _=>g.frame b hb (hno b),g.drawn⟩,hrep⟩
section
variable {H:Type} {enc:TypeId×Value→H} {w:World} {held:Bool} {sp:Nat→Bool} {n:Nat}
theorem in_str {cs:List Value} {y:DataW H×List MemPlace} (h:DataW.trod enc Tryz.prog w 0 sp held n 9 cs=some y):∃ d:ByteArray,InD w 1 (.s d) cs:=by
 obtain ⟨s0,e0,_,k0⟩:=DataW.trod_string (by kernel_rfl) h
 exact⟨s0,by rw[e0];exact InD.one ⟨rfl,k0⟩ rfl⟩
end
end Lp
namespace Lp
open Go Go.RowKit Go.Proofs
theorem mixed:Tryz.prog.follows .mixedOrders=true:=by kernel_rfl
abbrev T':Bool:=true
abbrev F':Bool:=false
abbrev dZ:D:=.v (.slice none 0 0)
abbrev dP (g o:Nat):D:=.v (.pointer (some ⟨g,o,none⟩))
abbrev vS (g n c:Nat):Value:=.slice (some ⟨g,0,none⟩) n c
end Lp
set_option linter.unusedVariables false
namespace Lp
open Go Go.RowKit Go.Proofs
def cpF {α:Type}:List α→Option (List α)
 | []=>some []
 | x::r=>match cpF r with
  | some l=>some (x::l)
  | none=>none
theorem zeH {α:Type}:∀ {l l':List α},cpF l=some l'→l=l'
 | [],_,h=>by injection h
 | x::r,l',h=>by
  unfold cpF at h
  split at h
  · rename_i l hl;injection h with h;rw[←h,zeH hl]
  · cases h
def kpF:List Nat→Kd→Option Kd
 | [],_=>some []
 | t::r,K=>match zax K t with
  | some d=>match kpF r K with
   | some l=>some ((t,d)::l)
   | none=>none
  | none=>none
theorem kpF_sub:∀ {ts:List Nat} {K K':Kd},kpF ts K=some K'→SubK K' K
 | [],_,_,h=>by injection h with h;subst h;trivial
 | t::r,K,K',h=>by
  unfold kpF at h
  split at h
  · rename_i d hd
    split at h
    · rename_i l hl;injection h with h;subst h;exact⟨⟨d,hd,Cv.rfl'⟩,kpF_sub hl⟩
    · cases h
  · cases h
theorem sa:∀ {K' K:Kd},K'.map (fun p=>zax K p.1)=K'.map (fun p=>some p.2)→SubK K' K
 | [],_,_=>trivial
 | (t,d)::r,K,h=>by
  simp only[List.map_cons,List.cons.injEq] at h
  exact⟨⟨d,h.1,Cv.rfl'⟩,sa h.2⟩
def snF:List Bool→Bool→Option (List Bool)
 | [],b=>some [b]
 | x::r,b=>match snF r b with
  | some l=>some (x::l)
  | none=>none
theorem zdX:∀ {p q:List Bool} {b:Bool},snF p b=some q→p++[b]=q
 | [],_,_,h=>by injection h
 | x::r,q,b,h=>by
  unfold snF at h
  split at h
  · rename_i l hl;injection h with h;rw[←h,List.cons_append,zdX hl]
  · cases h
def zeN (K:Kd):Op→Option D
 | .move x=>opD K x
 | .assign x=>opD K x
 | .extract x n=>match opD K x with
  | some (.tup ds)=>nth ds n
  | _=>none
 | .pick c x y=>match opD K c with
  | some (.v (.bool true))=>opD K x
  | some (.v (.bool false))=>opD K y
  | _=>none
 | .unOp .not _ x=>match opD K x with
  | some (.v (.bool true))=>some (.v (.bool false))
  | some (.v (.bool false))=>some (.v (.bool true))
  | _=>none
 | .nilCheck x=>match opD K x with
  | some (.v (.pointer (some a)))=>some (.v (.pointer (some a)))
  | some (.el X o)=>some (.el X o)
  | _=>none
 | _=>none
theorem pureD_ok {P:Program} {ty:TypeId} {K:Kd} {H:List Hp} {op:Op} {d:D} (h:zeN K op=some d):Pu P op ty K H d:=by
 unfold zeN at h
 split at h
 · exact zG h
 · exact p_assign h
 · split at h
   · rename_i hx;exact p_extract hx h
   · cases h
 · split at h
   · rename_i hc;exact zbP hc h
   · rename_i hc;exact p_pick_f hc h
   · cases h
 · split at h
   · rename_i hx;injection h with h;subst h;exact zaZ (q:=true) hx
   · rename_i hx;injection h with h;subst h;exact zaZ (q:=false) hx
   · cases h
 · split at h
   · rename_i hx;injection h with h;subst h;exact zbD hx
   · rename_i hx;injection h with h;subst h;exact p_nilCheck_el hx
   · cases h
 · cases h
def oneC (N:Nat) (t:Tmp):Option D→Option (Tmp×D)
 | some d=>bif Nat.blt t N then some (t,d) else none
 | none=>none
theorem oneC_ok {N:Nat} {t u:Tmp} {x:Option D} {d:D} (h:oneC N t x=some (u,d)):t=u∧x=some d∧Nat.blt t N=true:=by
 unfold oneC at h
 cases x with
 | none=>cases h
 | some e=>
  cases hb:Nat.blt t N
  · simp[hb] at h
  · simp[hb] at h;exact⟨h.1,by rw[h.2],rfl⟩
def guardD (K:Kd) (want:Bool) (op:Op):Option D→Option D
 | some (.v u)=>match nb u,want with
  | some true,true=>zeN K op
  | some false,false=>zeN K op
  | some true,false=>some (.v undef)
  | some false,true=>some (.v undef)
  | none,_=>some (.v undef)
 | _=>none
def oneD (ops:List Oper) (i N:Nat) (K:Kd):Option (Tmp×D):=
 match opAt ops i with
 | some (some t,op,_,none)=>oneC N t (zeN K op)
 | some (some t,op,_,some (j,want))=>match zaU ops j with
  | some s=>bif Nat.blt s N then oneC N t (guardD K want op (zax K s)) else none
  | none=>none
 | _=>none
def runD (ops:List Oper) (N:Nat):Nat→Nat→Kd→Option (Nat×Kd)
 | 0,i,K=>some (i,K)
 | n+1,i,K=>match oneD ops i N K with
  | some (t,d)=>runD ops N n (i+1) ((t,d)::K)
  | none=>none
def opP (ops:List Oper) (i N:Nat):Option (Tmp×Op×TypeId):=match opAt ops i with
 | some (some t,op,ty,none)=>bif Nat.blt t N then some (t,op,ty) else none
 | _=>none
def opE (ops:List Oper) (i N:Nat):Option (Option Tmp×Op×TypeId):=match opAt ops i with
 | some (t,op,ty,none)=>bif dok N t then some (t,op,ty) else none
 | _=>none
def gdF (ops:List Oper) (N:Nat) (K:Kd) (j:Nat) (want:Bool):Bool:=match zaU ops j with
 | some s=>match zax K s with
  | some (.v (.bool b))=>Nat.blt s N&&(b==want)
  | _=>false
 | none=>false
def opG (ops:List Oper) (i N:Nat) (K:Kd):Option (Option Tmp×Op×TypeId):=match opAt ops i with
 | some (t,op,ty,some (j,want))=>match dok N t,gdF ops N K j want with
  | true,true=>some (t,op,ty)
  | _,_=>none
 | _=>none
section
variable {P:Program} {N:Nat} {C:Ctx} {K:Kd} {H:List Hp} {ops:List Oper} {i:Nat} {Kt:Env→World→(Nat→Prop)→Prop}
theorem nb_b {u:Value} {b:Bool} (h:nb u=some b):u=.bool b:=by cases u<;>simp[nb] at h;rw[h]
theorem o1 {t:Tmp} {d:D} (h:oneD ops i N K=some (t,d)) (k:OpsD P N C ops (i+1) ((t,d)::K) H Kt):OpsD P N C ops i K H Kt:=by
 unfold oneD at h
 split at h
 · rename_i t' op ty ho
   obtain ⟨e1,e2,e3⟩:=oneC_ok h
   subst e1
   exact od_pu ho e3 (pureD_ok e2) k
 · rename_i t' op ty j want ho
   split at h
   · rename_i s hs
     cases hb:Nat.blt s N
     · simp[hb] at h
     · simp only[hb,cond_true] at h
       obtain ⟨e1,e2,e3⟩:=oneC_ok h
       subst e1
       unfold guardD at e2
       split at e2
       · rename_i u hl
         split at e2
         · rename_i hn;rw[nb_b hn] at hl;exact od_runp ho e3 hs hb hl (pureD_ok e2) k
         · rename_i hn;rw[nb_b hn] at hl;exact od_runp ho e3 hs hb hl (pureD_ok e2) k
         · rename_i hn;injection e2 with e2;subst e2;exact od_skip ho e3 hs hb hl (by rw[hn];decide) k
         · rename_i hn;injection e2 with e2;subst e2;exact od_skip ho e3 hs hb hl (by rw[hn];decide) k
         · rename_i hn;injection e2 with e2;subst e2;exact od_skip ho e3 hs hb hl (by rw[hn];simp) k
       · cases e2
   · cases h
 · cases h
theorem oR (n:Nat) {j:Nat} {K':Kd} (h:runD ops N n i K=some (j,K')) (k:OpsD P N C ops j K' H Kt):OpsD P N C ops i K H Kt:=by
 induction n generalizing i K with
 | zero=>injection h with h;injection h with h1 h2;subst h1;subst h2;exact k
 | succ n ih=>
  unfold runD at h
  split at h
  · rename_i t d he;exact o1 he (ih h)
  · cases h
theorem opP_ok {t:Tmp} {op:Op} {ty:TypeId} (h:opP ops i N=some (t,op,ty)):opAt ops i=some (some t,op,ty,none)∧Nat.blt t N=true:=by
 unfold opP at h
 split at h
 · rename_i t' op' ty' ho
   cases hb:Nat.blt t' N
   · simp[hb] at h
   · simp[hb] at h;obtain ⟨h1,h2,h3⟩:=h;subst h1;subst h2;subst h3;exact⟨ho,hb⟩
 · cases h
theorem opE_ok {t:Option Tmp} {op:Op} {ty:TypeId} (h:opE ops i N=some (t,op,ty)):opAt ops i=some (t,op,ty,none)∧dok N t=true:=by
 unfold opE at h
 split at h
 · rename_i t' op' ty' ho
   cases hb:dok N t'
   · simp[hb] at h
   · simp[hb] at h;obtain ⟨h1,h2,h3⟩:=h;subst h1;subst h2;subst h3;exact⟨ho,hb⟩
 · cases h
theorem opG_ok {t:Option Tmp} {op:Op} {ty:TypeId} (h:opG ops i N K=some (t,op,ty)):∃ j want s,opAt ops i=some (t,op,ty,some (j,want))∧dok N t=true∧zaU ops j=some s∧Nat.blt s N=true∧zax K s=some (.v (.bool want)):=by
 unfold opG at h
 split at h
 · rename_i t' op' ty' j want ho
   split at h
   · rename_i h1 h2
     injection h with h;injection h with e1 h;injection h with e2 e3
     subst e1;subst e2;subst e3
     unfold gdF at h2
     split at h2
     · rename_i s hs
       split at h2
       · rename_i b hb
         simp only[Bool.and_eq_true,beq_iff_eq] at h2
         obtain ⟨h3,h4⟩:=h2;subst h4
         exact⟨j,b,s,ho,h1,hs,h3,hb⟩
       · cases h2
     · cases h2
   · cases h
 · cases h
theorem oP {t:Tmp} {op:Op} {ty:TypeId} {d:D} (ho:opP ops i N=some (t,op,ty)) (h:Pu P op ty K H d) (k:OpsD P N C ops (i+1) ((t,d)::K) H Kt):OpsD P N C ops i K H Kt:=od_pu (opP_ok ho).1 (opP_ok ho).2 h k
theorem oE {t:Option Tmp} {op:Op} {ty:TypeId} {R:D→List Hp→Prop} (ho:opE ops i N=some (t,op,ty)) (h:Ef P op ty K H R) (k:∀ d H',R d H'→OpsD P N C ops (i+1) (upK K t d) H' Kt):OpsD P N C ops i K H Kt:=od_step (opE_ok ho).1 (opE_ok ho).2 h k
theorem oF {t:Option Tmp} {op:Op} {ty:TypeId} {R:D→List Hp→Prop} (ho:opG ops i N K=some (t,op,ty)) (h:Ef P op ty K H R) (k:∀ d H',R d H'→OpsD P N C ops (i+1) (upK K t d) H' Kt):OpsD P N C ops i K H Kt:=by
 obtain ⟨j,want,s,h1,h2,h3,h4,h5⟩:=opG_ok ho
 exact od_run h1 h2 h3 h4 h5 h k
theorem oG {t:Tmp} {op:Op} {ty:TypeId} {d:D} (ho:opG ops i N K=some (some t,op,ty)) (h:Pu P op ty K H d) (k:OpsD P N C ops (i+1) ((t,d)::K) H Kt):OpsD P N C ops i K H Kt:=
 oF ho h.ef fun _ _ ⟨e1,e2⟩=>by subst e1;subst e2;exact k
theorem oW {t:Option Tmp} {f:FuncId} {args:Array Operand} {ats:Array TypeId} {ty:TypeId} {ds0 ds:List D} {d:D} (ho:opE ops i N=some (t,.call { callee:=.value (.func f),args:=args,argTypes:=ats },ty)) (hargs:opsD K args.toList=some ds0) (ha:ArgCs [] ds0 ds)
 (hc:∀ args w,(callFunc f args).run P w=.ok (.enter f args) w) (hcall:CD P f [] ds (isR d)) (k:OpsD P N C ops (i+1) (upK K t d) H Kt):OpsD P N C ops i K H Kt:=
 oE ho (zm [] _ [] rfl hargs ha zg hc hcall (.inl rfl)) (by rintro _ _ ⟨_,⟨rfl,rfl⟩,rfl⟩;exact k)
theorem oV {t:Option Tmp} {f:FuncId} {args:Array Operand} {ats:Array TypeId} {ty:TypeId} {ds0 ds:List D} {d:D} (ho:opG ops i N K=some (t,.call { callee:=.value (.func f),args:=args,argTypes:=ats },ty)) (hargs:opsD K args.toList=some ds0) (ha:ArgCs [] ds0 ds)
 (hc:∀ args w,(callFunc f args).run P w=.ok (.enter f args) w) (hcall:CD P f [] ds (isR d)) (k:OpsD P N C ops (i+1) (upK K t d) H Kt):OpsD P N C ops i K H Kt:=
 oF ho (zm [] _ [] rfl hargs ha zg hc hcall (.inl rfl)) (by rintro _ _ ⟨_,⟨rfl,rfl⟩,rfl⟩;exact k)
theorem acs {L:List Hp}:∀ {ds:List D},ArgCs L ds ds
 | []=>.nil
 | _::_=>.cons ArgC.id acs
theorem on {H':List Hp} (h:cpF H=some H') (k:OpsD P N C ops i K H' Kt):OpsD P N C ops i K H Kt:=zeH h ▸ k
theorem ok (ts:List Nat) {K':Kd} (h:kpF ts K=some K') (k:OpsD P N C ops i K' H Kt):OpsD P N C ops i K H Kt:=OpsD.sub K' (kpF_sub h) k
theorem os (t:Nat) {d d':D} (h:zax K t=some d) (e:d=d') (k:OpsD P N C ops i ((t,d')::K) H Kt):OpsD P N C ops i K H Kt:=by
 subst e
 refine⟨fun a w F ok hk g=>k.out a w F ok (fun s u hu=>?_) g⟩
 simp only[zax] at hu
 by_cases e:s=t
 · subst e;rw[show Nat.beq s s=true from Nat.beq_refl s] at hu;simp only[cond_true,Option.some.injEq] at hu;subst hu;exact hk s _ h
 · rw[zb9 e] at hu;exact hk s u hu
theorem oZ {b:Code} {Q:zaH} (hn:Nat.ble ops.length i=true) (h:JD P N C b K H Q):OpsD P N C ops i K H (fun ρ w F=>qseq P N b Q .normal ρ w F):=zq (Q:=qseq P N b Q) hn (zj h)
end
section
variable {P:Program} {N:Nat} {C:Ctx} {K:Kd} {H:List Hp} {Q:zaH} {c:Code} {p pa pb:List Bool}
theorem jn {H':List Hp} {b:Code} (h:cpF H=some H') (k:JD P N C b K H' Q):JD P N C b K H Q:=zeH h ▸ k
theorem pn {H':List Hp} {e:Exit} (h:cpF H=some H') (k:PD C Q e K H'):PD C Q e K H:=zeH h ▸ k
theorem jk (ts:List Nat) {K':Kd} {b:Code} (h:kpF ts K=some K') (k:JD P N C b K' H Q):JD P N C b K H Q:=JD.sub K' (kpF_sub h) k
theorem pk (ts:List Nat) {K':Kd} {e:Exit} (h:kpF ts K=some K') (k:PD C Q e K' H):PD C Q e K H:=PD.sub K' (kpF_sub h) k
theorem ja {K':Kd} {b:Code} (h:cpF K=some K') (k:JD P N C b K' H Q):JD P N C b K H Q:=zeH h ▸ k
def sqF (c:Code) (p:List Bool):Option (List Bool×List Bool):=match isSeq (cd c p),snF p false,snF p true with
 | true,some a,some b=>some (a,b)
 | _,_,_=>none
theorem sqF_ok (h:sqF c p=some (pa,pb)):isSeq (cd c p)=true∧p++[false]=pa∧p++[true]=pb:=by
 unfold sqF at h
 split at h
 · rename_i h1 h2 h3;injection h with h;injection h with e1 e2;subst e1;subst e2;exact⟨h1,zdX h2,zdX h3⟩
 · cases h
theorem jS (h:sqF c p=some (pa,pb)) (k:JD P N C (cd c pa) K H (qseq P N (cd c pb) Q)):JD P N C (cd c p) K H Q:=jd_seq _ _ (sqF_ok h).1 (sqF_ok h).2.1 (sqF_ok h).2.2 k
def sgF (c:Code) (p:List Bool):Option (List Bool×List Bool):=match sqF c p with
 | some (a,b)=>match zd2 (cd c a) with
  | some false=>some (a,b)
  | _=>none
 | none=>none
theorem jT (h:sgF c p=some (pa,pb)) (k:OpsD P N C (zc9 (cd c pa)) 0 K H (fun ρ w F=>qseq P N (cd c pb) Q .normal ρ w F)):JD P N C (cd c p) K H Q:=by
 unfold sgF at h
 split at h
 · rename_i a b h1
   split at h
   · rename_i h2;injection h with h;injection h with e1 e2;subst e1;subst e2;exact jS h1 (zf h2 k)
   · cases h
 · cases h
def cnF (c:Code) (p:List Bool) (K:Kd):Option (List Bool×List Bool×D):=match condOf (cd c p),snF p false,snF p true with
 | some x,some a,some b=>match opD K x with
  | some d=>some (a,b,d)
  | none=>none
 | _,_,_=>none
theorem jC {t:Bool} (h:cnF c p K=some (pa,pb,.v (.bool t))) (ht:t=true→JD P N C (cd c pa) K H Q) (hf:t=false→JD P N C (cd c pb) K H Q):JD P N C (cd c p) K H Q:=by
 unfold cnF at h
 split at h
 · rename_i x a b h1 h2 h3
   split at h
   · rename_i d hd;injection h with h;injection h with e1 h;injection h with e2 e3
     subst e1;subst e2;subst e3
     exact jd_cond _ _ h1 (zdX h2) (zdX h3) hd ht hf
   · cases h
 · cases h
theorem jD {φ:Prop} {_:Decidable φ} (h:cnF c p K=some (pa,pb,.v (.bool (decide φ)))) (ht:φ→JD P N C (cd c pa) K H Q) (hf:¬φ→JD P N C (cd c pb) K H Q):JD P N C (cd c p) K H Q:=
 jC h (fun e=>ht (of_decide_eq_true e)) (fun e=>hf (of_decide_eq_false e))
theorem jCt (h:cnF c p K=some (pa,pb,.v (.bool true))) (ht:JD P N C (cd c pa) K H Q):JD P N C (cd c p) K H Q:=jC h (fun _=>ht) (fun e=>by cases e)
theorem jCf (h:cnF c p K=some (pa,pb,.v (.bool false))) (hf:JD P N C (cd c pb) K H Q):JD P N C (cd c p) K H Q:=jC h (fun e=>by cases e) (fun _=>hf)
def blF (c:Code) (p:List Bool):Option (List Bool×Nat):=match blockOf (cd c p),snF p false with
 | some n,some a=>some (a,n)
 | _,_=>none
theorem jB {id:Nat} (h:blF c p=some (pa,id)) (k:JD P N C (cd c pa) K H (zdZ id Q)):JD P N C (cd c p) K H Q:=by
 unfold blF at h
 split at h
 · rename_i h1 h2;injection h with h;injection h with e1 e2;subst e1;subst e2;exact jd_block _ h1 (zdX h2) k
 · cases h
def lpF (c:Code) (p:List Bool):Option (List Bool):=match isLoop (cd c p),snF p false with
 | true,some a=>some a
 | _,_=>none
theorem zdJ (h:lpF c p=some pa):isLoop (cd c p)=true∧p++[false]=pa:=by
 unfold lpF at h
 split at h
 · rename_i h1 h2;injection h with h;subst h;exact⟨h1,zdX h2⟩
 · cases h
abbrev ql1 {A0:Type} (C:Ctx) (L:A0→Kd) (HI:A0→List Hp) (I:A0→Prop) (μ:A0→Nat) (a0:A0) (Q:zaH):zaH:=zep C (fun g:A0=>L g) (fun g:A0=>HI g) (fun g:A0=>I g) (fun g:A0=>μ g) a0 Q
theorem jl1 {A0:Type} (L:A0→Kd) (HI:A0→List Hp) (I:A0→Prop) (μ:A0→Nat) (a0:A0) (hk:lpF c p=some pa) (hs:SubK (L a0) K) (hH:HSub H (HI a0)) (hI:I a0) (h:∀ b0,I b0→JD P N C (cd c pa) (L b0) (HI b0) (ql1 C L HI I μ b0 Q)):JD P N C (cd c p) K H Q:=
 jd_loop (fun g:A0=>L g) (fun g:A0=>HI g) (fun g:A0=>I g) (fun g:A0=>μ g) pa a0 (zdJ hk).1 (zdJ hk).2 hs hH hI (fun g hg=>h g hg)
theorem pl1 {A0:Type} {L:A0→Kd} {HI:A0→List Hp} {I:A0→Prop} {μ:A0→Nat} {a0:A0} (b0:A0) (hs:SubK (L b0) K) (hH:HSub H (HI b0)) (hI:I b0) (hμ:μ b0<μ a0):PD C (ql1 C L HI I μ a0 Q) .normal K H:=pd_loop b0 hs hH hI hμ
abbrev ql2 {A0 A1:Type} (C:Ctx) (L:A0→A1→Kd) (HI:A0→A1→List Hp) (I:A0→A1→Prop) (μ:A0→A1→Nat) (a0:A0) (a1:A1) (Q:zaH):zaH:=zep C (fun g:A0×A1=>L g.1 g.2) (fun g:A0×A1=>HI g.1 g.2) (fun g:A0×A1=>I g.1 g.2) (fun g:A0×A1=>μ g.1 g.2) (a0,a1) Q
theorem jl2 {A0 A1:Type} (L:A0→A1→Kd) (HI:A0→A1→List Hp) (I:A0→A1→Prop) (μ:A0→A1→Nat) (a0:A0) (a1:A1) (hk:lpF c p=some pa) (hs:SubK (L a0 a1) K) (hH:HSub H (HI a0 a1)) (hI:I a0 a1) (h:∀ b0 b1,I b0 b1→JD P N C (cd c pa) (L b0 b1) (HI b0 b1) (ql2 C L HI I μ b0 b1 Q)):JD P N C (cd c p) K H Q:=
 jd_loop (fun g:A0×A1=>L g.1 g.2) (fun g:A0×A1=>HI g.1 g.2) (fun g:A0×A1=>I g.1 g.2) (fun g:A0×A1=>μ g.1 g.2) pa (a0,a1) (zdJ hk).1 (zdJ hk).2 hs hH hI (fun g hg=>h g.1 g.2 hg)
theorem pl2 {A0 A1:Type} {L:A0→A1→Kd} {HI:A0→A1→List Hp} {I:A0→A1→Prop} {μ:A0→A1→Nat} {a0:A0} {a1:A1} (b0:A0) (b1:A1) (hs:SubK (L b0 b1) K) (hH:HSub H (HI b0 b1)) (hI:I b0 b1) (hμ:μ b0 b1<μ a0 a1):PD C (ql2 C L HI I μ a0 a1 Q) .normal K H:=pd_loop (b0,b1) hs hH hI hμ
abbrev ql3 {A0 A1 A2:Type} (C:Ctx) (L:A0→A1→A2→Kd) (HI:A0→A1→A2→List Hp) (I:A0→A1→A2→Prop) (μ:A0→A1→A2→Nat) (a0:A0) (a1:A1) (a2:A2) (Q:zaH):zaH:=zep C (fun g:A0×A1×A2=>L g.1 g.2.1 g.2.2) (fun g:A0×A1×A2=>HI g.1 g.2.1 g.2.2) (fun g:A0×A1×A2=>I g.1 g.2.1 g.2.2) (fun g:A0×A1×A2=>μ g.1 g.2.1 g.2.2) (a0,a1,a2) Q
theorem jl3 {A0 A1 A2:Type} (L:A0→A1→A2→Kd) (HI:A0→A1→A2→List Hp) (I:A0→A1→A2→Prop) (μ:A0→A1→A2→Nat) (a0:A0) (a1:A1) (a2:A2) (hk:lpF c p=some pa) (hs:SubK (L a0 a1 a2) K) (hH:HSub H (HI a0 a1 a2)) (hI:I a0 a1 a2) (h:∀ b0 b1 b2,I b0 b1 b2→JD P N C (cd c pa) (L b0 b1 b2) (HI b0 b1 b2) (ql3 C L HI I μ b0 b1 b2 Q)):JD P N C (cd c p) K H Q:=
 jd_loop (fun g:A0×A1×A2=>L g.1 g.2.1 g.2.2) (fun g:A0×A1×A2=>HI g.1 g.2.1 g.2.2) (fun g:A0×A1×A2=>I g.1 g.2.1 g.2.2) (fun g:A0×A1×A2=>μ g.1 g.2.1 g.2.2) pa (a0,a1,a2) (zdJ hk).1 (zdJ hk).2 hs hH hI (fun g hg=>h g.1 g.2.1 g.2.2 hg)
theorem pl3 {A0 A1 A2:Type} {L:A0→A1→A2→Kd} {HI:A0→A1→A2→List Hp} {I:A0→A1→A2→Prop} {μ:A0→A1→A2→Nat} {a0:A0} {a1:A1} {a2:A2} (b0:A0) (b1:A1) (b2:A2) (hs:SubK (L b0 b1 b2) K) (hH:HSub H (HI b0 b1 b2)) (hI:I b0 b1 b2) (hμ:μ b0 b1 b2<μ a0 a1 a2):PD C (ql3 C L HI I μ a0 a1 a2 Q) .normal K H:=pd_loop (b0,b1,b2) hs hH hI hμ
abbrev ql4 {A0 A1 A2 A3:Type} (C:Ctx) (L:A0→A1→A2→A3→Kd) (HI:A0→A1→A2→A3→List Hp) (I:A0→A1→A2→A3→Prop) (μ:A0→A1→A2→A3→Nat) (a0:A0) (a1:A1) (a2:A2) (a3:A3) (Q:zaH):zaH:=zep C (fun g:A0×A1×A2×A3=>L g.1 g.2.1 g.2.2.1 g.2.2.2) (fun g:A0×A1×A2×A3=>HI g.1 g.2.1 g.2.2.1 g.2.2.2) (fun g:A0×A1×A2×A3=>I g.1 g.2.1 g.2.2.1 g.2.2.2) (fun g:A0×A1×A2×A3=>μ g.1 g.2.1 g.2.2.1 g.2.2.2) (a0,a1,a2,a3) Q
theorem jl4 {A0 A1 A2 A3:Type} (L:A0→A1→A2→A3→Kd) (HI:A0→A1→A2→A3→List Hp) (I:A0→A1→A2→A3→Prop) (μ:A0→A1→A2→A3→Nat) (a0:A0) (a1:A1) (a2:A2) (a3:A3) (hk:lpF c p=some pa) (hs:SubK (L a0 a1 a2 a3) K) (hH:HSub H (HI a0 a1 a2 a3)) (hI:I a0 a1 a2 a3) (h:∀ b0 b1 b2 b3,I b0 b1 b2 b3→JD P N C (cd c pa) (L b0 b1 b2 b3) (HI b0 b1 b2 b3) (ql4 C L HI I μ b0 b1 b2 b3 Q)):JD P N C (cd c p) K H Q:=
 jd_loop (fun g:A0×A1×A2×A3=>L g.1 g.2.1 g.2.2.1 g.2.2.2) (fun g:A0×A1×A2×A3=>HI g.1 g.2.1 g.2.2.1 g.2.2.2) (fun g:A0×A1×A2×A3=>I g.1 g.2.1 g.2.2.1 g.2.2.2) (fun g:A0×A1×A2×A3=>μ g.1 g.2.1 g.2.2.1 g.2.2.2) pa (a0,a1,a2,a3) (zdJ hk).1 (zdJ hk).2 hs hH hI (fun g hg=>h g.1 g.2.1 g.2.2.1 g.2.2.2 hg)
theorem pl4 {A0 A1 A2 A3:Type} {L:A0→A1→A2→A3→Kd} {HI:A0→A1→A2→A3→List Hp} {I:A0→A1→A2→A3→Prop} {μ:A0→A1→A2→A3→Nat} {a0:A0} {a1:A1} {a2:A2} {a3:A3} (b0:A0) (b1:A1) (b2:A2) (b3:A3) (hs:SubK (L b0 b1 b2 b3) K) (hH:HSub H (HI b0 b1 b2 b3)) (hI:I b0 b1 b2 b3) (hμ:μ b0 b1 b2 b3<μ a0 a1 a2 a3):PD C (ql4 C L HI I μ a0 a1 a2 a3 Q) .normal K H:=pd_loop (b0,b1,b2,b3) hs hH hI hμ
end
theorem bA (a b:Bool):((a&&b)=true)=(a=true∧b=true):=Bool.and_eq_true a b
theorem bB (a b:Bool):((a||b)=true)=(a=true∨b=true):=Bool.or_eq_true a b
theorem bC (b:Bool):((!b)=true)=(b=false):=Bool.not_eq_true' b
theorem bD (b:Bool):((!b)=false)=(b=true):=Bool.not_eq_false' b
theorem bE (a b:Bool):((a&&b)=false)=(a=false∨b=false):=by cases a<;>cases b<;>simp
theorem bF (a b:Bool):((a||b)=false)=(a=false∧b=false):=by cases a<;>cases b<;>simp
theorem bG (p:Prop) [Decidable p]:(decide p=true)=p:=decide_eq_true_eq
theorem bH (p:Prop) [Decidable p]:(decide p=false)=¬p:=by simp
theorem bI (p:Prop) [Decidable p]:(¬¬p)=p:=by simp
theorem bJ {α:Sort _} (a b:α):(a≠b)=¬a=b:=rfl
theorem la {α:Type} {a b:List α}:(a++b).length=a.length+b.length:=List.length_append
theorem lc {α:Type} {a:α} {b:List α}:(a::b).length=b.length+1:=List.length_cons
theorem ln {α:Type}:([]:List α).length=0:=List.length_nil
theorem lm {α β:Type} {a:List α} {f:α→β}:(a.map f).length=a.length:=List.length_map f
theorem lt' {α:Type} {n:Nat} {a:List α}:(a.take n).length=min n a.length:=List.length_take
theorem ld {α:Type} {n:Nat} {a:List α}:(a.drop n).length=a.length-n:=List.length_drop
theorem ls {α:Type} {n:Nat} {a:List α} {x:α}:(a.set n x).length=a.length:=List.length_set
theorem lr {α:Type} {n:Nat} {x:α}:(List.replicate n x).length=n:=List.length_replicate
end Lp
set_option linter.unusedSimpArgs false
set_option linter.unusedVariables false
set_option maxHeartbeats 4000000
set_option maxRecDepth 100000
namespace Lp
open Go Go.RowKit Go.Proofs
namespace HdYtheccaeefigajaaGreatDoorV5
end HdYtheccaeefigajaaGreatDoorV5
open HdYtheccaeefigajaaGreatDoorV5
theorem Kind_c (r:Int) :
 CD Tryz.prog 151 [] [.v (.int .i32 r)] (isR (dI (zM r))):=by
 refine zp Tryz.func151 rfl (N:=51) rfl rfl (fun C=>?_)
 refine jk [0] rfl (jT rfl (oR 1 rfl (oZ rfl (jS rfl (jB rfl (jS rfl (jk [0,2] rfl ?_)))))))
 refine zR 3 ((decide (r<(0:Int))||decide (r=(65533:Int)))) [] (fun _ hQ1=>?_) ?_
 · skip
   by_cases hg2:r<(0:Int)
   · skip
     refine zf rfl (oR 1 rfl (oP rfl (zN rfl rfl (decide_eq_true hg2)) (oR 5 rfl (zq rfl ?_))))
     exact PD.sub ((3,dB (decide (r<(0:Int))||decide (r=(65533:Int))))::[(0,.v (.int .i32 r)),(2,dI 0)]) ⟨sc rfl (Cv.eq (congrArg (fun b=>D.v (.bool b)) (by first | (simp[hg2];done) | (simp_all;done)))),sk rfl,sk rfl,trivial⟩ hQ1
   · skip
     refine zf rfl (oR 1 rfl (oP rfl (zN rfl rfl (decide_eq_false hg2)) (oR 2 rfl (oG rfl (zD rfl rfl rfl) (oR 2 rfl (zq rfl ?_))))))
     exact PD.sub ((3,dB (decide (r<(0:Int))||decide (r=(65533:Int))))::[(0,.v (.int .i32 r)),(2,dI 0)]) ⟨sc rfl (Cv.eq (congrArg (fun b=>D.v (.bool b)) (by first | (simp[hg2];done) | (simp_all;done)))),sk rfl,sk rfl,trivial⟩ hQ1
 · skip
   refine zj ?_
   refine jC rfl (fun hc3=>?_) (fun hc3=>?_)
   · simp only[bA,bB,bC,bD,bE,bF,bG,bH,bI,bJ] at hc3
     refine jT rfl (oR 1 rfl (oZ rfl (zn rfl (zo (zk ?_)))))
     exact zh Tryz.results151 (.cons (zx (zl rfl) (Cv.eq (congrArg (fun n=>D.v (.int .i64 n)) (by unfold zM;(repeat (any_goals split))<;>omega)))) .nil) rfl HSub.none ⟨rfl,rfl⟩
   · simp only[bA,bB,bC,bD,bE,bF,bG,bH,bI,bJ] at hc3
     refine jS rfl (jk [0,2] rfl ?_)
     refine zR 10 (((((decide ((97:Int)≤r)&&decide (r≤(122:Int)))||(decide ((65:Int)≤r)&&decide (r≤(90:Int))))||decide (r=(95:Int)))||decide ((128:Int)≤r))) [] (fun _ hQ4=>?_) ?_
     · skip
       by_cases hg5:(97:Int)≤r
       · skip
         by_cases hg6:r≤(122:Int)
         · skip
           refine zf rfl (oR 1 rfl (oP rfl (zaw rfl rfl (decide_eq_true hg5)) (oR 2 rfl (oG rfl (zbj rfl rfl (decide_eq_true hg6)) (oR 18 rfl (zq rfl ?_))))))
           exact PD.sub ((10,dB ((((decide ((97:Int)≤r)&&decide (r≤(122:Int)))||(decide ((65:Int)≤r)&&decide (r≤(90:Int))))||decide (r=(95:Int)))||decide ((128:Int)≤r)))::[(0,.v (.int .i32 r)),(2,dI 0)]) ⟨sc rfl (Cv.eq (congrArg (fun b=>D.v (.bool b)) (by first | (simp[hg5,hg6];done) | (simp_all;done)))),sk rfl,sk rfl,trivial⟩ hQ4
         · skip
           by_cases hg7:(65:Int)≤r
           · skip
             by_cases hg8:r≤(90:Int)
             · skip
               refine zf rfl (oR 1 rfl (oP rfl (zaw rfl rfl (decide_eq_true hg5)) (oR 2 rfl (oG rfl (zbj rfl rfl (decide_eq_false hg6)) (oR 3 rfl (oG rfl (zaw rfl rfl (decide_eq_true hg7)) (oR 2 rfl (oG rfl (zbj rfl rfl (decide_eq_true hg8)) (oR 11 rfl (zq rfl ?_))))))))))
               exact PD.sub ((10,dB ((((decide ((97:Int)≤r)&&decide (r≤(122:Int)))||(decide ((65:Int)≤r)&&decide (r≤(90:Int))))||decide (r=(95:Int)))||decide ((128:Int)≤r)))::[(0,.v (.int .i32 r)),(2,dI 0)]) ⟨sc rfl (Cv.eq (congrArg (fun b=>D.v (.bool b)) (by first | (simp[hg5,hg6,hg7,hg8];done) | (simp_all;done)))),sk rfl,sk rfl,trivial⟩ hQ4
             · skip
               by_cases hg9:r=(95:Int)
               · skip
                 refine zf rfl (oR 1 rfl (oP rfl (zaw rfl rfl (decide_eq_true hg5)) (oR 2 rfl (oG rfl (zbj rfl rfl (decide_eq_false hg6)) (oR 3 rfl (oG rfl (zaw rfl rfl (decide_eq_true hg7)) (oR 2 rfl (oG rfl (zbj rfl rfl (decide_eq_false hg8)) (oR 4 rfl (oG rfl (zD rfl rfl (decide_eq_true hg9)) (oR 6 rfl (zq rfl ?_))))))))))))
                 exact PD.sub ((10,dB ((((decide ((97:Int)≤r)&&decide (r≤(122:Int)))||(decide ((65:Int)≤r)&&decide (r≤(90:Int))))||decide (r=(95:Int)))||decide ((128:Int)≤r)))::[(0,.v (.int .i32 r)),(2,dI 0)]) ⟨sc rfl (Cv.eq (congrArg (fun b=>D.v (.bool b)) (by first | (simp[hg5,hg6,hg7,hg8,hg9];done) | (simp_all;done)))),sk rfl,sk rfl,trivial⟩ hQ4
               · skip
                 refine zf rfl (oR 1 rfl (oP rfl (zaw rfl rfl (decide_eq_true hg5)) (oR 2 rfl (oG rfl (zbj rfl rfl (decide_eq_false hg6)) (oR 3 rfl (oG rfl (zaw rfl rfl (decide_eq_true hg7)) (oR 2 rfl (oG rfl (zbj rfl rfl (decide_eq_false hg8)) (oR 4 rfl (oG rfl (zD rfl rfl (decide_eq_false hg9)) (oR 3 rfl (oG rfl (zaw rfl rfl rfl) (oR 2 rfl (zq rfl ?_))))))))))))))
                 exact PD.sub ((10,dB ((((decide ((97:Int)≤r)&&decide (r≤(122:Int)))||(decide ((65:Int)≤r)&&decide (r≤(90:Int))))||decide (r=(95:Int)))||decide ((128:Int)≤r)))::[(0,.v (.int .i32 r)),(2,dI 0)]) ⟨sc rfl (Cv.eq (congrArg (fun b=>D.v (.bool b)) (by first | (simp[hg5,hg6,hg7,hg8,hg9];done) | (simp_all;done)))),sk rfl,sk rfl,trivial⟩ hQ4
           · skip
             by_cases hg10:r=(95:Int)
             · skip
               refine zf rfl (oR 1 rfl (oP rfl (zaw rfl rfl (decide_eq_true hg5)) (oR 2 rfl (oG rfl (zbj rfl rfl (decide_eq_false hg6)) (oR 3 rfl (oG rfl (zaw rfl rfl (decide_eq_false hg7)) (oR 7 rfl (oG rfl (zD rfl rfl (decide_eq_true hg10)) (oR 6 rfl (zq rfl ?_))))))))))
               exact PD.sub ((10,dB ((((decide ((97:Int)≤r)&&decide (r≤(122:Int)))||(decide ((65:Int)≤r)&&decide (r≤(90:Int))))||decide (r=(95:Int)))||decide ((128:Int)≤r)))::[(0,.v (.int .i32 r)),(2,dI 0)]) ⟨sc rfl (Cv.eq (congrArg (fun b=>D.v (.bool b)) (by first | (simp[hg10,hg5,hg6,hg7];done) | (simp_all;done)))),sk rfl,sk rfl,trivial⟩ hQ4
             · skip
               refine zf rfl (oR 1 rfl (oP rfl (zaw rfl rfl (decide_eq_true hg5)) (oR 2 rfl (oG rfl (zbj rfl rfl (decide_eq_false hg6)) (oR 3 rfl (oG rfl (zaw rfl rfl (decide_eq_false hg7)) (oR 7 rfl (oG rfl (zD rfl rfl (decide_eq_false hg10)) (oR 3 rfl (oG rfl (zaw rfl rfl rfl) (oR 2 rfl (zq rfl ?_))))))))))))
               exact PD.sub ((10,dB ((((decide ((97:Int)≤r)&&decide (r≤(122:Int)))||(decide ((65:Int)≤r)&&decide (r≤(90:Int))))||decide (r=(95:Int)))||decide ((128:Int)≤r)))::[(0,.v (.int .i32 r)),(2,dI 0)]) ⟨sc rfl (Cv.eq (congrArg (fun b=>D.v (.bool b)) (by first | (simp[hg10,hg5,hg6,hg7];done) | (simp_all;done)))),sk rfl,sk rfl,trivial⟩ hQ4
       · skip
         by_cases hg11:(65:Int)≤r
         · skip
           by_cases hg12:r≤(90:Int)
           · skip
             refine zf rfl (oR 1 rfl (oP rfl (zaw rfl rfl (decide_eq_false hg5)) (oR 6 rfl (oG rfl (zaw rfl rfl (decide_eq_true hg11)) (oR 2 rfl (oG rfl (zbj rfl rfl (decide_eq_true hg12)) (oR 11 rfl (zq rfl ?_))))))))
             exact PD.sub ((10,dB ((((decide ((97:Int)≤r)&&decide (r≤(122:Int)))||(decide ((65:Int)≤r)&&decide (r≤(90:Int))))||decide (r=(95:Int)))||decide ((128:Int)≤r)))::[(0,.v (.int .i32 r)),(2,dI 0)]) ⟨sc rfl (Cv.eq (congrArg (fun b=>D.v (.bool b)) (by first | (simp[hg11,hg12,hg5];done) | (simp_all;done)))),sk rfl,sk rfl,trivial⟩ hQ4
           · skip
             by_cases hg13:r=(95:Int)
             · skip
               refine zf rfl (oR 1 rfl (oP rfl (zaw rfl rfl (decide_eq_false hg5)) (oR 6 rfl (oG rfl (zaw rfl rfl (decide_eq_true hg11)) (oR 2 rfl (oG rfl (zbj rfl rfl (decide_eq_false hg12)) (oR 4 rfl (oG rfl (zD rfl rfl (decide_eq_true hg13)) (oR 6 rfl (zq rfl ?_))))))))))
               exact PD.sub ((10,dB ((((decide ((97:Int)≤r)&&decide (r≤(122:Int)))||(decide ((65:Int)≤r)&&decide (r≤(90:Int))))||decide (r=(95:Int)))||decide ((128:Int)≤r)))::[(0,.v (.int .i32 r)),(2,dI 0)]) ⟨sc rfl (Cv.eq (congrArg (fun b=>D.v (.bool b)) (by first | (simp[hg11,hg12,hg13,hg5];done) | (simp_all;done)))),sk rfl,sk rfl,trivial⟩ hQ4
             · skip
               refine zf rfl (oR 1 rfl (oP rfl (zaw rfl rfl (decide_eq_false hg5)) (oR 6 rfl (oG rfl (zaw rfl rfl (decide_eq_true hg11)) (oR 2 rfl (oG rfl (zbj rfl rfl (decide_eq_false hg12)) (oR 4 rfl (oG rfl (zD rfl rfl (decide_eq_false hg13)) (oR 3 rfl (oG rfl (zaw rfl rfl rfl) (oR 2 rfl (zq rfl ?_))))))))))))
               exact PD.sub ((10,dB ((((decide ((97:Int)≤r)&&decide (r≤(122:Int)))||(decide ((65:Int)≤r)&&decide (r≤(90:Int))))||decide (r=(95:Int)))||decide ((128:Int)≤r)))::[(0,.v (.int .i32 r)),(2,dI 0)]) ⟨sc rfl (Cv.eq (congrArg (fun b=>D.v (.bool b)) (by first | (simp[hg11,hg12,hg13,hg5];done) | (simp_all;done)))),sk rfl,sk rfl,trivial⟩ hQ4
         · skip
           by_cases hg14:r=(95:Int)
           · skip
             refine zf rfl (oR 1 rfl (oP rfl (zaw rfl rfl (decide_eq_false hg5)) (oR 6 rfl (oG rfl (zaw rfl rfl (decide_eq_false hg11)) (oR 7 rfl (oG rfl (zD rfl rfl (decide_eq_true hg14)) (oR 6 rfl (zq rfl ?_))))))))
             exact PD.sub ((10,dB ((((decide ((97:Int)≤r)&&decide (r≤(122:Int)))||(decide ((65:Int)≤r)&&decide (r≤(90:Int))))||decide (r=(95:Int)))||decide ((128:Int)≤r)))::[(0,.v (.int .i32 r)),(2,dI 0)]) ⟨sc rfl (Cv.eq (congrArg (fun b=>D.v (.bool b)) (by first | (simp[hg11,hg14,hg5];done) | (simp_all;done)))),sk rfl,sk rfl,trivial⟩ hQ4
           · skip
             refine zf rfl (oR 1 rfl (oP rfl (zaw rfl rfl (decide_eq_false hg5)) (oR 6 rfl (oG rfl (zaw rfl rfl (decide_eq_false hg11)) (oR 7 rfl (oG rfl (zD rfl rfl (decide_eq_false hg14)) (oR 3 rfl (oG rfl (zaw rfl rfl rfl) (oR 2 rfl (zq rfl ?_))))))))))
             exact PD.sub ((10,dB ((((decide ((97:Int)≤r)&&decide (r≤(122:Int)))||(decide ((65:Int)≤r)&&decide (r≤(90:Int))))||decide (r=(95:Int)))||decide ((128:Int)≤r)))::[(0,.v (.int .i32 r)),(2,dI 0)]) ⟨sc rfl (Cv.eq (congrArg (fun b=>D.v (.bool b)) (by first | (simp[hg11,hg14,hg5];done) | (simp_all;done)))),sk rfl,sk rfl,trivial⟩ hQ4
     · skip
       refine zj ?_
       refine jC rfl (fun hc15=>?_) (fun hc15=>?_)
       · simp only[bA,bB,bC,bD,bE,bF,bG,bH,bI,bJ] at hc15
         refine jT rfl (oR 1 rfl (oZ rfl (zn rfl (zo (zk ?_)))))
         exact zh Tryz.results151 (.cons (zx (zl rfl) (Cv.eq (congrArg (fun n=>D.v (.int .i64 n)) (by unfold zM;(repeat (any_goals split))<;>omega)))) .nil) rfl HSub.none ⟨rfl,rfl⟩
       · simp only[bA,bB,bC,bD,bE,bF,bG,bH,bI,bJ] at hc15
         refine jS rfl (jk [0,2] rfl ?_)
         refine zR 33 ((decide ((48:Int)≤r)&&decide (r≤(57:Int)))) [] (fun _ hQ16=>?_) ?_
         · skip
           by_cases hg17:(48:Int)≤r
           · skip
             refine zf rfl (oR 1 rfl (oP rfl (zaw rfl rfl (decide_eq_true hg17)) (oR 2 rfl (oG rfl (zbj rfl rfl rfl) (oR 2 rfl (zq rfl ?_))))))
             exact PD.sub ((33,dB (decide ((48:Int)≤r)&&decide (r≤(57:Int))))::[(0,.v (.int .i32 r)),(2,dI 0)]) ⟨sc rfl (Cv.eq (congrArg (fun b=>D.v (.bool b)) (by first | (simp[hg17];done) | (simp_all;done)))),sk rfl,sk rfl,trivial⟩ hQ16
           · skip
             refine zf rfl (oR 1 rfl (oP rfl (zaw rfl rfl (decide_eq_false hg17)) (oR 5 rfl (zq rfl ?_))))
             exact PD.sub ((33,dB (decide ((48:Int)≤r)&&decide (r≤(57:Int))))::[(0,.v (.int .i32 r)),(2,dI 0)]) ⟨sc rfl (Cv.eq (congrArg (fun b=>D.v (.bool b)) (by first | (simp[hg17];done) | (simp_all;done)))),sk rfl,sk rfl,trivial⟩ hQ16
         · skip
           refine zj ?_
           refine jC rfl (fun hc18=>?_) (fun hc18=>?_)
           · simp only[bA,bB,bC,bD,bE,bF,bG,bH,bI,bJ] at hc18
             refine jT rfl (oR 1 rfl (oZ rfl (zn rfl (zo (zk ?_)))))
             exact zh Tryz.results151 (.cons (zx (zl rfl) (Cv.eq (congrArg (fun n=>D.v (.int .i64 n)) (by unfold zM;(repeat (any_goals split))<;>omega)))) .nil) rfl HSub.none ⟨rfl,rfl⟩
           · simp only[bA,bB,bC,bD,bE,bF,bG,bH,bI,bJ] at hc18
             refine jS rfl (jk [0,2] rfl ?_)
             refine zR 40 (((decide (r=(32:Int))||decide (r=(9:Int)))||decide (r=(10:Int)))) [] (fun _ hQ19=>?_) ?_
             · skip
               by_cases hg20:r=(32:Int)
               · skip
                 refine zf rfl (oR 1 rfl (oP rfl (zD rfl rfl (decide_eq_true hg20)) (oR 9 rfl (zq rfl ?_))))
                 exact PD.sub ((40,dB ((decide (r=(32:Int))||decide (r=(9:Int)))||decide (r=(10:Int))))::[(0,.v (.int .i32 r)),(2,dI 0)]) ⟨sc rfl (Cv.eq (congrArg (fun b=>D.v (.bool b)) (by first | (simp[hg20];done) | (simp_all;done)))),sk rfl,sk rfl,trivial⟩ hQ19
               · skip
                 by_cases hg21:r=(9:Int)
                 · skip
                   refine zf rfl (oR 1 rfl (oP rfl (zD rfl rfl (decide_eq_false hg20)) (oR 2 rfl (oG rfl (zD rfl rfl (decide_eq_true hg21)) (oR 6 rfl (zq rfl ?_))))))
                   exact PD.sub ((40,dB ((decide (r=(32:Int))||decide (r=(9:Int)))||decide (r=(10:Int))))::[(0,.v (.int .i32 r)),(2,dI 0)]) ⟨sc rfl (Cv.eq (congrArg (fun b=>D.v (.bool b)) (by first | (simp[hg20,hg21];done) | (simp_all;done)))),sk rfl,sk rfl,trivial⟩ hQ19
                 · skip
                   refine zf rfl (oR 1 rfl (oP rfl (zD rfl rfl (decide_eq_false hg20)) (oR 2 rfl (oG rfl (zD rfl rfl (decide_eq_false hg21)) (oR 3 rfl (oG rfl (zD rfl rfl rfl) (oR 2 rfl (zq rfl ?_))))))))
                   exact PD.sub ((40,dB ((decide (r=(32:Int))||decide (r=(9:Int)))||decide (r=(10:Int))))::[(0,.v (.int .i32 r)),(2,dI 0)]) ⟨sc rfl (Cv.eq (congrArg (fun b=>D.v (.bool b)) (by first | (simp[hg20,hg21];done) | (simp_all;done)))),sk rfl,sk rfl,trivial⟩ hQ19
             · skip
               refine zj ?_
               refine jC rfl (fun hc22=>?_) (fun hc22=>?_)
               · simp only[bA,bB,bC,bD,bE,bF,bG,bH,bI,bJ] at hc22
                 refine jT rfl (oR 1 rfl (oZ rfl (zn rfl (zo (zk ?_)))))
                 exact zh Tryz.results151 (.cons (zx (zl rfl) (Cv.eq (congrArg (fun n=>D.v (.int .i64 n)) (by unfold zM;(repeat (any_goals split))<;>omega)))) .nil) rfl HSub.none ⟨rfl,rfl⟩
               · simp only[bA,bB,bC,bD,bE,bF,bG,bH,bI,bJ] at hc22
                 refine zt rfl (zB (zj (jT rfl (oR 1 rfl (oZ rfl (zn rfl ?_))))))
                 exact zh Tryz.results151 (.cons (zx (zl rfl) (Cv.eq (congrArg (fun n=>D.v (.int .i64 n)) (by unfold zM;(repeat (any_goals split))<;>omega)))) .nil) rfl HSub.none ⟨rfl,rfl⟩
theorem Name_c (s:ByteArray) :
 CD Tryz.prog 176 [] [.s s] (isR (dB (zck s))):=by
 refine zp Tryz.func176 rfl (N:=32) rfl rfl (fun C=>?_)
 refine jk [0] rfl ?_
 refine JD.bd 0 rfl (fun bd0=>?_)
 have sz0:s.size≤9223372036854775807:=bd0
 refine jT rfl (oR 1 rfl (oZ rfl (jT rfl (oR 1 rfl (oZ rfl (jS rfl (jT rfl (oR 1 rfl (oE rfl (zdo rfl Tryz.runUnderlying9) ?_)))))))))
 rintro _ _ ⟨g1,rfl,rfl⟩
 refine oZ rfl (jB rfl (jl2 (fun (a_:Nat) (b_:Nat)=>[(8,dP g1 0),(3,dN b_)]) (fun a_ b_=>[.it g1 s a_]) (fun a_ b_=>(a_≤s.size)∧(b_≤a_)∧(zcY 0 (zah s)=zcY b_ (zaW s a_))) (fun a_ b_=>s.size-a_) 0 0 rfl (sa rfl) HSub.rfl' ⟨Nat.zero_le _,Nat.le_refl _,rfl⟩ ?_))
 rintro p n ⟨hp,hn,hf⟩
 refine ja rfl (jn rfl ?_)
 rcases Nat.lt_or_ge p s.size with hlt | hge
 · skip
   have hrune:=zaO hlt
   have hrl:=zcM s p
   have hdw:=zaN s p hlt
   have hdp:=zY s p
   refine jT rfl (oE rfl (zcR (i:=0) rfl rfl hlt) ?_)
   rintro _ _ ⟨rfl,rfl⟩
   refine on rfl (oR 1 rfl (oZ rfl (jS rfl (jCt rfl (zt rfl (zj (jB rfl (jT rfl (oR 2 rfl (oZ rfl (jS rfl (jT rfl (oR 1 rfl (oW rfl rfl acs Tryz.call151 (Kind_c ((decR s p:Nat):Int)) (oR 1 rfl (oZ rfl (jS rfl (jk [3,5,6,8,9,10,11,12,13] rfl ?_))))))))))))))))))
   refine zR 23 ((decide (zM ((decR s p:Nat):Int)≠(1:Int))&&(decide (zM ((decR s p:Nat):Int)≠(2:Int))||decide (((n:Nat):Int)=(0:Int))))) [.it g1 s (p+decW s p)] (fun _ hQ2=>?_) ?_
   · skip
     by_cases hg3:zM ((decR s p:Nat):Int)≠(1:Int)
     · skip
       by_cases hg4:zM ((decR s p:Nat):Int)≠(2:Int)
       · skip
         refine zf rfl (oR 1 rfl (oP rfl (za2 rfl rfl (decide_eq_true hg3)) (oR 2 rfl (oG rfl (za2 rfl rfl (decide_eq_true hg4)) (oR 5 rfl (zq rfl ?_))))))
         exact PD.sub ((23,dB (decide (zM ((decR s p:Nat):Int)≠(1:Int))&&(decide (zM ((decR s p:Nat):Int)≠(2:Int))||decide (((n:Nat):Int)=(0:Int)))))::[(3,dN n),(5,.v (.int .i32 ((decR s p:Nat):Int))),(6,dI (zM ((decR s p:Nat):Int))),(8,dP g1 0),(9,.tup [dB true,dN p,.v (.int .i32 ((decR s p:Nat):Int))]),(10,dB true),(11,.v (.int .i32 ((decR s p:Nat):Int))),(12,.v (.int .i32 ((decR s p:Nat):Int))),(13,dI (zM ((decR s p:Nat):Int)))]) ⟨sc rfl (Cv.eq (congrArg (fun b=>D.v (.bool b)) (by first | (simp[hg3,hg4];done) | (simp_all;done)))),sk rfl,sk rfl,sk rfl,sk rfl,sk rfl,sk rfl,sk rfl,sk rfl,sk rfl,trivial⟩ hQ2
       · skip
         refine zf rfl (oR 1 rfl (oP rfl (za2 rfl rfl (decide_eq_true hg3)) (oR 2 rfl (oG rfl (za2 rfl rfl (decide_eq_false hg4)) (oR 2 rfl (oG rfl (zD rfl rfl rfl) (oR 2 rfl (zq rfl ?_))))))))
         exact PD.sub ((23,dB (decide (zM ((decR s p:Nat):Int)≠(1:Int))&&(decide (zM ((decR s p:Nat):Int)≠(2:Int))||decide (((n:Nat):Int)=(0:Int)))))::[(3,dN n),(5,.v (.int .i32 ((decR s p:Nat):Int))),(6,dI (zM ((decR s p:Nat):Int))),(8,dP g1 0),(9,.tup [dB true,dN p,.v (.int .i32 ((decR s p:Nat):Int))]),(10,dB true),(11,.v (.int .i32 ((decR s p:Nat):Int))),(12,.v (.int .i32 ((decR s p:Nat):Int))),(13,dI (zM ((decR s p:Nat):Int)))]) ⟨sc rfl (Cv.eq (congrArg (fun b=>D.v (.bool b)) (by first | (simp[hg3,hg4];done) | (simp_all;done)))),sk rfl,sk rfl,sk rfl,sk rfl,sk rfl,sk rfl,sk rfl,sk rfl,sk rfl,trivial⟩ hQ2
     · skip
       refine zf rfl (oR 1 rfl (oP rfl (za2 rfl rfl (decide_eq_false hg3)) (oR 8 rfl (zq rfl ?_))))
       exact PD.sub ((23,dB (decide (zM ((decR s p:Nat):Int)≠(1:Int))&&(decide (zM ((decR s p:Nat):Int)≠(2:Int))||decide (((n:Nat):Int)=(0:Int)))))::[(3,dN n),(5,.v (.int .i32 ((decR s p:Nat):Int))),(6,dI (zM ((decR s p:Nat):Int))),(8,dP g1 0),(9,.tup [dB true,dN p,.v (.int .i32 ((decR s p:Nat):Int))]),(10,dB true),(11,.v (.int .i32 ((decR s p:Nat):Int))),(12,.v (.int .i32 ((decR s p:Nat):Int))),(13,dI (zM ((decR s p:Nat):Int)))]) ⟨sc rfl (Cv.eq (congrArg (fun b=>D.v (.bool b)) (by first | (simp[hg3];done) | (simp_all;done)))),sk rfl,sk rfl,sk rfl,sk rfl,sk rfl,sk rfl,sk rfl,sk rfl,sk rfl,trivial⟩ hQ2
   · skip
     refine zj ?_
     refine jC rfl (fun hc5=>?_) (fun hc5=>?_)
     · simp only[bA,bB,bC,bD,bE,bF,bG,bH,bI,bJ] at hc5
       refine jT rfl (oR 1 rfl (oZ rfl (zn rfl (zk (zo (zal (zo (zk ?_))))))))
       exact zh Tryz.results176 (.cons (zx (zl rfl) (Cv.eq (congrArg (fun b=>D.v (.bool b)) (by unfold zck;rw[hf,hrune];rw[nameR_bad (by omega)])))) .nil) rfl HSub.none ⟨rfl,rfl⟩
     · simp only[bA,bB,bC,bD,bE,bF,bG,bH,bI,bJ] at hc5
       refine zt rfl (zj (zf rfl (oR 1 rfl (oP rfl (zaz (c:=((n+1:Nat):Int)) rfl rfl (zab (by omega) (by omega))) (oR 1 rfl (zq rfl (zB ?_)))))))
       exact pl2 (p+decW s p) (n+1) (sa rfl) HSub.rfl' ⟨by have:=zaN s p hlt;omega,by omega,by rw[hf,hrune,nameR_next (by omega)]⟩ (by have:=zY s p;omega)
 · skip
   have hrune:=zbb hge
   refine jT rfl (oP rfl (zdj (i:=0) rfl rfl hge) (oR 1 rfl (oZ rfl (jS rfl (jCf rfl (zF rfl (zw (zu (zr (zj (jS rfl (jk [3] rfl ?_))))))))))))
   refine zR 2 ((decide ((1:Int)≤((n:Nat):Int))&&decide (((n:Nat):Int)≤(30:Int)))) [.it g1 s p] (fun _ hQ6=>?_) ?_
   · skip
     by_cases hg7:(1:Int)≤((n:Nat):Int)
     · skip
       refine zf rfl (oR 1 rfl (oP rfl (zaw rfl rfl (decide_eq_true hg7)) (oR 2 rfl (oG rfl (zbj rfl rfl rfl) (oR 2 rfl (zq rfl ?_))))))
       exact PD.sub ((2,dB (decide ((1:Int)≤((n:Nat):Int))&&decide (((n:Nat):Int)≤(30:Int))))::[(3,dN n)]) ⟨sc rfl (Cv.eq (congrArg (fun b=>D.v (.bool b)) (by first | (simp[hg7];done) | (simp_all;done)))),sk rfl,trivial⟩ hQ6
     · skip
       refine zf rfl (oR 1 rfl (oP rfl (zaw rfl rfl (decide_eq_false hg7)) (oR 5 rfl (zq rfl ?_))))
       exact PD.sub ((2,dB (decide ((1:Int)≤((n:Nat):Int))&&decide (((n:Nat):Int)≤(30:Int))))::[(3,dN n)]) ⟨sc rfl (Cv.eq (congrArg (fun b=>D.v (.bool b)) (by first | (simp[hg7];done) | (simp_all;done)))),sk rfl,trivial⟩ hQ6
   · skip
     refine zj (zn rfl ?_)
     exact zh Tryz.results176 (.cons (zx (zl rfl) (Cv.eq (congrArg (fun b=>D.v (.bool b)) (by unfold zck;rw[hf,hrune];simp only[zcY];congr 1<;>exact decide_eq_decide.2 (by omega))))) .nil) rfl HSub.none ⟨rfl,rfl⟩
theorem J {α:Sort _} {a:α}:a=a:=rfl
end Lp
