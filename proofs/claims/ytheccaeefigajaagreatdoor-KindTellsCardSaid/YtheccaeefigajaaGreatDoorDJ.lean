import Derived.Lib.MakeNoZero
import Derived.Test.YtheccaeefigajaaGreatDoorV5
set_option linter.unusedSimpArgs false
set_option linter.unusedVariables false
set_option maxHeartbeats 4000000
set_option maxRecDepth 100000
namespace Lp
open Go Go.RowKit Go.Proofs
namespace HdYtheccaeefigajaaGreatDoorV4
theorem eqp_211_eql (x y:Operand) (a:Addr) (w:World):(do eqGuard .eql 211 x y (.pointer (some a)) (.pointer none);binOp .eql 211 (.pointer (some a)) (.pointer none):Sem Value).run Tryz.prog w=.ok (.bool false) w:=by kernel_rfl
theorem eqs_211_neq (d:Nat) (a:Addr) (w:World):(Op.equalIn (d+1) 211 (.pointer (some a)) (.pointer (some a))).run Tryz.prog w=.ok true w:=by
 rw[Op.equalIn]
 simp only[Sem.run_bind,run_underlying (show Tryz.prog.underlying 211=some (.pointer 213) by kernel_rfl),Result.andThen_ok,Tryz.sizeOf213]
 simp[sameAddr]
theorem eqt_211_neq (a:Addr) (w:World):(Op.equal 211 (.pointer (some a)) (.pointer (some a))).run Tryz.prog w=.ok true w:=eqs_211_neq 9999 a w
theorem eqq_211_neq (x y:Operand) (a:Addr) (w:World):(do eqGuard .neq 211 x y (.pointer (some a)) (.pointer (some a));binOp .neq 211 (.pointer (some a)) (.pointer (some a)):Sem Value).run Tryz.prog w=.ok (.bool false) w:=by simp[eqGuard,binOp,eqt_211_neq]
theorem fa_213_0 (b o:Nat):∀ w,(Instr.fieldAt 213 (.pointer (some ⟨b,o,none⟩)) 0).run Tryz.prog w=.ok (.pointer (some ⟨b,o+0,none⟩)) w:=fun _=>by kernel_rfl
theorem zbE (b o:Nat):∀ w,(Instr.fieldAt 213 (.pointer (some ⟨b,o,none⟩)) 1).run Tryz.prog w=.ok (.pointer (some ⟨b,o+1,none⟩)) w:=fun _=>by kernel_rfl
theorem zc0:∃ i,Tryz.prog.info? 5=some i∧i.zero=some (.int .u8 0)∧i.size=1∧i.bytes=1:=zbq (by kernel_rfl)
theorem zbo:Tryz.prog.underlying 103=some (.slice 5):=by kernel_rfl
end HdYtheccaeefigajaaGreatDoorV4
open HdYtheccaeefigajaaGreatDoorV4
theorem cv_up {w:World} {g:Nat} {c:Array Value} (h:w.heap[g]?=some (.cells c 213 (0,0))) (hc:c.size=2):(convert 211 245 (.pointer (some ⟨g,0,none⟩))).run Tryz.prog w=.ok (.pointer (some ⟨g,0,none⟩)) w:=by
 simp[convert,run_underlying (show Tryz.prog.underlying 211=some _ by kernel_rfl),run_underlying (show Tryz.prog.underlying 245=some _ by kernel_rfl),Conv.unsafePointer,Conv.seenAt,viewAt,cellsIn,run_shape,h,hc,World.shape?,Tryz.sizeOf213]
theorem cv_down {w:World} {g:Nat} {c:Array Value} (h:w.heap[g]?=some (.cells c 213 (0,0))) (hc:c.size=2):(convert 245 211 (.pointer (some ⟨g,0,none⟩))).run Tryz.prog w=.ok (.pointer (some ⟨g,0,none⟩)) w:=by
 have e:liesAt Tryz.prog Tryz.prog.depth 213 (2 / Tryz.prog.cellsOf 213) 0 213 1=true:=by kernel_rfl
 simp[convert,run_underlying (show Tryz.prog.underlying 211=some _ by kernel_rfl),run_underlying (show Tryz.prog.underlying 245=some _ by kernel_rfl),Conv.unsafePointer,Conv.seenAt,viewAt,cellsIn,run_shape,h,hc,World.shape?,Tryz.sizeOf213,variablesAt,e]
theorem p_upto {ty:TypeId} {K:Kd} {H:List Hp} {t1 t2:TypeId} {x:Operand} {g i:Nat} {X:D} (ht:(t1=211∧t2=245)∨(t1=245∧t2=211)) (hx:opD K x=some (dP g 0)) (hm:nth H i=some (.bx g 213 X)) (hX:Nat.beq X.cells.length 2=true):Pu Tryz.prog (.convert t1 t2 x) ty K H (dP g 0):=
 ⟨fun ρ w F hk _ hH=>by
  obtain ⟨u,h1,h2,h3⟩:=hH _ (zaj hm)
  have hl:=za9 (D.rep_cells h1 h2)
  have hc:u.cells.size=2:=by have:=Nat.eq_of_beq_eq_true hX;rw[←hl] at this;simpa [vcs] using this
  have e:ev ρ x=_:=hk.op hx
  refine EOp.of_run (v:=.pointer (some ⟨g,0,none⟩)) (w':=w) ?_ ⟨rfl,rfl⟩
  rcases ht with ⟨rfl,rfl⟩ | ⟨rfl,rfl⟩
  · have:=zbw (cv_up h3 hc);simpa [execOp,zas,e] using this
  · have:=zbw (cv_down h3 hc);simpa [execOp,zas,e] using this⟩
theorem p_noEscape {ty:TypeId} {K:Kd} {H:List Hp} {x:Operand} {ats:Array TypeId} {v:Value} (hx:opD K x=some (.v v)):Pu Tryz.prog (.call { callee:=.value (.func 214),args:=#[x],argTypes:=ats }) ty K H (.v v):=
 ⟨fun ρ w F hk _ _=>e_ext (vs:=[v]) (zA ρ [x]) (by rw[show (#[x]:Array Operand).toList=[x] from rfl,zb7 ρ [x] [x] (fun _ h=>h)];have e:ev ρ x=v:=hk.op hx;simp[e]) (fun w=>by
  rw[run_callFunc_extern Tryz.func214 (by kernel_rfl) (by kernel_rfl) (by kernel_rfl) (e:=Extern.AbiNoEscape.same) (by kernel_rfl)];rfl) ⟨rfl,rfl⟩⟩
theorem copyCheck_c (g:Nat) (p:Value) (x:D) (hp:p=.pointer none∨p=.pointer (some ⟨g,0,none⟩)):
 CD Tryz.prog 193 [.bx g 213 (.agg [.v p,x])] [dP g 0] (fun r H'=>r=.tup []∧H'=[.bx g 213 (.agg [dP g 0,x])]):=by
 refine zp Tryz.func193 rfl (N:=20) rfl rfl (fun C=>?_)
 refine jk [0] rfl ?_
 rcases hp with rfl | rfl
 · skip
   refine jT rfl (oR 2 rfl (oP rfl (zd rfl fa_213_0 rfl) (oP rfl (ze rfl (i:=0) rfl Tryz.isAgg211 rfl) (oP rfl (zdx (r:=.bool true) rfl rfl (fun _=>by kernel_rfl)) (oZ rfl (jCt rfl (zf rfl (oR 2 rfl (oP rfl (p_upto (i:=0) (by first | exact .inl ⟨rfl,rfl⟩ | exact .inr ⟨rfl,rfl⟩) rfl rfl rfl) (oP rfl (p_noEscape rfl) (oP rfl (p_upto (i:=0) (by first | exact .inl ⟨rfl,rfl⟩ | exact .inr ⟨rfl,rfl⟩) rfl rfl rfl) (oR 1 rfl (oP rfl (zd rfl fa_213_0 rfl) (oE rfl (zi (i:=0) (X':=.agg [dP g 0,x]) rfl rfl rfl (CellD.v rfl) Tryz.sizeOf211 rfl rfl rfl) ?_))))))))))))))
   rintro _ _ ⟨rfl,rfl⟩
   refine on rfl (zq rfl ?_)
   exact pd_end Tryz.results193 .nil rfl ⟨rfl,rfl⟩
 · skip
   refine jT rfl (oR 2 rfl (oP rfl (zd rfl fa_213_0 rfl) (oP rfl (ze rfl (i:=0) rfl Tryz.isAgg211 rfl) (oP rfl (zdx (r:=.bool false) rfl rfl (eqp_211_eql _ _ _)) (oZ rfl (jCf rfl (jT rfl (oR 2 rfl (oP rfl (zd rfl fa_213_0 rfl) (oP rfl (ze rfl (i:=0) rfl Tryz.isAgg211 rfl) (oR 1 rfl (oP rfl (zdx (r:=.bool false) rfl rfl (eqq_211_neq _ _ _)) (oZ rfl (jk [19] rfl (jCf rfl (zt rfl ?_))))))))))))))))
   exact pd_end Tryz.results193 .nil rfl ⟨rfl,rfl⟩
theorem zb5 (g:Nat) (p v:Value) (bs:List UInt8) (c:UInt8) (hp:p=.pointer none∨p=.pointer (some ⟨g,0,none⟩)) (hl:bs.length≤1000000000000):
 CD Tryz.prog 169 [.bx g 213 (.agg [.v p,.ov v]),.sl v 1 5 (bs.map dU8)] [dP g 0,.v (.int .u8 ((c.toNat:Nat):Int))] (fun r H'=>∃ v',r=.v .nilIface∧H'=[.bx g 213 (.agg [dP g 0,.ov v']),.sl v' 1 5 ((bs++[c]).map dU8)]):=by
 refine zp Tryz.func169 rfl (N:=17) rfl rfl (fun C=>?_)
 refine jk [0,1] rfl (jT rfl (oR 1 rfl (oZ rfl (jT rfl (oR 1 rfl (oE rfl (zm [.bx g 213 (.agg [.v p,.ov v])] [.sl v 1 5 (bs.map dU8)] [] rfl rfl (.cons ArgC.id .nil) zg Tryz.call193 (copyCheck_c g p (.ov v) hp) (.inl rfl)) ?_))))))
 rintro _ _ ⟨_,⟨rfl,rfl⟩,rfl⟩
 refine on rfl (oZ rfl (jT rfl (oR 3 rfl (oP rfl (zd rfl zbE rfl) (oP rfl (ze rfl (i:=0) rfl Tryz.isAgg103 rfl) (oR 1 rfl (oE rfl (zL [.tmp 12] rfl rfl (.cons (CellD.v rfl) .nil) rfl Tryz.runUnderlying103 Tryz.sizeOf5 Tryz.zeroValue5 rfl rfl rfl rfl) ?_)))))))
 rintro _ _ ⟨g1,rfl,rfl⟩
 refine oE rfl (zP (f:=dU8) (l:=bs) (l':=[c]) (i:=2) rfl rfl rfl (SrcD.own (j:=0) rfl rfl) zbo zc0 rfl rfl (by unfold maxLen;(try simp only[la,lc,ln,lm,lt',ld,ls,lr]);omega) (by (try simp only[la,lc,ln,lm,lt',ld,ls,lr]);omega)) ?_
 rintro _ _ ⟨v2,rfl,rfl⟩
 refine on rfl (oR 1 rfl (oP rfl (zd rfl zbE rfl) (oE rfl (zi (i:=1) (X':=.agg [dP g 0,.ov v2]) rfl rfl rfl (CellD.o) Tryz.sizeOf103 rfl rfl rfl) ?_)))
 rintro _ _ ⟨rfl,rfl⟩
 refine on rfl (oZ rfl (jk [4] rfl (jT rfl (oR 1 rfl (oZ rfl (zn rfl (PD.subH (HSub.perm (zc (i:=2) rfl)) (pn rfl (PD.subH (HSub.perm (zc (i:=2) rfl)) (pn rfl ?_))))))))))
 exact zh Tryz.results169 (.cons (zl rfl) .nil) rfl (HSub.fst 2 rfl) ⟨v2,rfl,rfl⟩
theorem WriteString_c (g:Nat) (p v:Value) (bs:List UInt8) (s:ByteArray) (hp:p=.pointer none∨p=.pointer (some ⟨g,0,none⟩)) (hl:bs.length≤1000000000000) (hs:s.size≤1000000000000):
 CD Tryz.prog 171 [.bx g 213 (.agg [.v p,.ov v]),.sl v 1 5 (bs.map dU8)] [dP g 0,.s s] (fun r H'=>∃ v',r=.tup [dI (s.size:Int),.v .nilIface]∧H'=[.bx g 213 (.agg [dP g 0,.ov v']),.sl v' 1 5 ((bs++s.data.toList).map dU8)]):=by
 refine zp Tryz.func171 rfl (N:=19) rfl rfl (fun C=>?_)
 refine jk [0,1] rfl ?_
 refine JD.bd 1 rfl (fun bd1=>?_)
 have sz1:s.size≤9223372036854775807:=bd1
 refine jT rfl (oR 2 rfl (oZ rfl (jT rfl (oR 1 rfl (oE rfl (zm [.bx g 213 (.agg [.v p,.ov v])] [.sl v 1 5 (bs.map dU8)] [] rfl rfl (.cons ArgC.id .nil) zg Tryz.call193 (copyCheck_c g p (.ov v) hp) (.inl rfl)) ?_)))))
 rintro _ _ ⟨_,⟨rfl,rfl⟩,rfl⟩
 refine on rfl (oZ rfl (jT rfl (oR 3 rfl (oP rfl (zd rfl zbE rfl) (oP rfl (ze rfl (i:=0) rfl Tryz.isAgg103 rfl) (oR 1 rfl (oE rfl (ef_append_s (i:=1) (bs:=bs) (s:=s) rfl rfl rfl zbo (by kernel_rfl) zc0 (by (try simp only[la,lc,ln]);omega)) ?_)))))))
 rintro _ _ ⟨v1,rfl,rfl⟩
 refine on rfl (oR 1 rfl (oP rfl (zd rfl zbE rfl) (oE rfl (zi (i:=0) (X':=.agg [dP g 0,.ov v1]) rfl rfl rfl (CellD.o) Tryz.sizeOf103 rfl rfl rfl) ?_)))
 rintro _ _ ⟨rfl,rfl⟩
 refine on rfl (oZ rfl (jk [1,4,5] rfl (jT rfl (oR 1 rfl (oP rfl (z7 rfl Tryz.runUnderlying9) (oR 2 rfl (oZ rfl (zn rfl ?_))))))))
 exact zh Tryz.results171 (.cons (zl rfl) (.cons (zl rfl) .nil)) rfl (HSub.fst 2 rfl) ⟨v1,rfl,rfl⟩
end Lp
set_option linter.unusedVariables false
namespace Lp
open Go Go.RowKit
abbrev Gh:=Nat→Value
def ug (γ:Gh) (k:Nat) (v:Value):Gh:=fun i=>bif Nat.beq i k then v else γ i
theorem ug_self (γ:Gh) (k:Nat) (v:Value):ug γ k v k=v:=by unfold ug;rw[Nat.beq_refl];rfl
theorem ug_ne (γ:Gh) {k i:Nat} (v:Value) (h:i≠k):ug γ k v i=γ i:=by unfold ug;rw[zb9 h];rfl
inductive Ex where
 | q (d:D)
  | r (d:D)
  | s (H:Gh→List Hp)
 | e (d:D) (H:Gh→List Hp)
 | o (H:Gh→List Hp)
 | f (m:Value→D) (H:Gh→List Hp)
def Ex.d (γ:Gh) (i:Nat):Ex→D
 | .q d=>d
 | .r d=>d
 | .s _=>.v undef
 | .e d _=>d
 | .o _=>.ov (γ i)
 | .f m _=>m (γ i)
def Ex.isS:Ex→Bool
 | .s _=>true
 | _=>false
def Ex.h (γ:Gh):Ex→Option (List Hp)
 | .q _=>none
 | .r _=>none
 | .s H=>some (H γ)
 | .e _ H=>some (H γ)
 | .o H=>some (H γ)
 | .f _ H=>some (H γ)
def gens (γ:Gh):Nat→List (Tmp×Ex)→List En
 | _,[]=>[]
 | i,(t,x)::r=>(t,x.d γ i,x.h γ)::gens γ (i+1) r
theorem gens_nth (γ:Gh):∀ (es:List (Tmp×Ex)) (s i:Nat) (t:Tmp) (x:Ex),nth es i=some (t,x)→nth (gens γ s es) i=some (t,x.d γ (s+i),x.h γ)
 | [],_,i,_,_,h=>by simp[nth] at h
 | (t,x)::r,s,0,t',x',h=>by simp[nth] at h;obtain ⟨rfl,rfl⟩:=h;simp[gens,nth]
 | (t,x)::r,s,i+1,t',x',h=>by
  have:=gens_nth γ r (s+1) i t' x' (by simpa [nth] using h)
  rw[show s+1+i=s+(i+1) by omega] at this
  simpa [gens,nth] using this
theorem gens_nth' (γ:Gh):∀ (es:List (Tmp×Ex)) (s i:Nat) (t:Tmp) (d:D) (e:Option (List Hp)),nth (gens γ s es) i=some (t,d,e)→∃ x,nth es i=some (t,x)∧d=x.d γ (s+i)∧e=x.h γ
 | [],_,i,_,_,_,h=>by simp[gens,nth] at h
 | (t,x)::r,s,0,t',d',e',h=>by simp[gens,nth] at h;obtain ⟨rfl,rfl,rfl⟩:=h;exact⟨x,by simp[nth],rfl,rfl⟩
 | (t,x)::r,s,i+1,t',d',e',h=>by
  obtain ⟨y,h1,h2,h3⟩:=gens_nth' γ r (s+1) i t' d' e' (by simpa [gens,nth] using h)
  exact⟨y,by simpa [nth] using h1,by rw[show s+(i+1)=s+1+i by omega];exact h2,h3⟩
theorem gens_len (γ:Gh):∀ (es:List (Tmp×Ex)) (s:Nat),(gens γ s es).length=es.length
 | [],_=>rfl
 | _::r,s=>by simp[gens,gens_len γ r]
theorem zcP (γ γ':Gh):∀ (es:List (Tmp×Ex)) (s k:Nat),isEf (gens γ s es) k=isEf (gens γ' s es) k
 | [],_,_=>rfl
 | (t,x)::r,s,0=>by cases x<;>simp[gens,isEf,nth,Ex.h]
 | (t,x)::r,s,k+1=>by have:=zcP γ γ' r (s+1) k;simpa [gens,isEf,nth] using this
theorem gens_lastEf (γ γ':Gh) (es:List (Tmp×Ex)) (s:Nat):∀ k,zdb (gens γ s es) k=zdb (gens γ' s es) k
 | 0=>rfl
 | k+1=>by simp[zdb,zcP γ γ' es s k,gens_lastEf γ γ' es s k]
def runO (P:Program) (op:Op) (ty:TypeId) (K:Kd) (Hs Hk:List Hp) (γ:Gh) (k:Nat):Ex→Prop
 | .q d=>Qu P op ty K Hs d
 | .r d=>Qu P op ty K Hk d
 | .s H'=>Ef P op ty K Hk (fun d' H''=>H''=H' γ)∧HSub (H' γ) Hs
 | .e d H'=>Ef P op ty K Hk (fun d' H''=>d'=d∧H''=H' γ)∧HSub (H' γ) Hs
 | .o H'=>Ef P op ty K Hk (fun d' H''=>∃ v,d'=.ov v∧H''=H' (ug γ k v))∧∀ v,HSub (H' (ug γ k v)) Hs
 | .f m H'=>Ef P op ty K Hk (fun d' H''=>∃ v,d'=m v∧H''=H' (ug γ k v))∧∀ v,HSub (H' (ug γ k v)) Hs
def zd0 (ens:List En):Nat→Nat→Option Nat
 | 0,_=>none
 | f+1,i=>bif isEf ens i then some i else zd0 ens f (i+1)
theorem nextEf_some {ens:List En}:∀ (f s i:Nat),s≤i→i<s+f→isEf ens i=true→∃ j,zd0 ens f s=some j∧s≤j∧j≤i∧isEf ens j=true
 | 0,s,i,h1,h2,_=>by omega
 | f+1,s,i,h1,h2,h3=>by
  unfold zd0
  cases hs:isEf ens s with
  | true=>exact⟨s,rfl,Nat.le_refl _,h1,hs⟩
  | false=>
   have:s≠i:=by rintro rfl;rw[hs] at h3;cases h3
   obtain ⟨j,j1,j2,j3,j4⟩:=nextEf_some f (s+1) i (by omega) (by omega) h3
   exact⟨j,j1,by omega,j3,j4⟩
theorem gens_nextEf (γ γ':Gh) (es:List (Tmp×Ex)) (s:Nat):∀ f k,zd0 (gens γ s es) f k=zd0 (gens γ' s es) f k
 | 0,_=>rfl
 | f+1,k=>by simp[zd0,zcP γ γ' es s k,gens_nextEf γ γ' es s f (k+1)]
def isRd (es:List (Tmp×Ex)) (k:Nat):Bool:=match nth es k with
 | some (_,.r _)=>true
 | _=>false
def readB (ops:List Oper) (es:List (Tmp×Ex)) (ens:List En):Bool:=(List.range es.length).all fun k=>!isRd es k||((match zdb ens k with
 | some l=>has0 (ancS ops k (zav ops k)) l
 | none=>true)&&(match zd0 ens es.length (k+1) with
 | some j=>has0 (ancS ops j (zav ops j)) k
 | none=>true))
def freshB' (ops:List Oper) (n N:Nat) (l:Kn):Bool:=
 Nat.ble n ops.length&&(List.range n).all fun i=>match zaU ops i with
  | some d=>Nat.blt d N&&!(keys l).contains d&&(List.range i).all fun j=>zaU ops j !=some d
  | none=>true
def drawB' (ops:List Oper) (n N:Nat) (l:Kn):Bool:=zer ops&&zeK ops n&&freshB' ops n N l
structure StepO (P:Program) (N:Nat) (ops:List Oper) (K:Kd) (Hs H0:List Hp) (γ:Gh) (es:List (Tmp×Ex)) (k:Nat):Prop where
 out:∃ t x dst op ty g,nth es k=some (t,x)∧opAt ops k=some (dst,op,ty,g)∧((dst=some t∧x.isS=false)∨(dst=none∧Nat.ble N t=true∧x.isS=true))∧
  match g with
  | none=>runO P op ty (kpre (gens γ 0 es) K (zav ops k)) Hs (hof H0 (gens γ 0 es) k) γ k x
  | some (j,want)=>∃ s u,zaU ops j=some s∧Nat.blt s N=true∧zax (kpre (gens γ 0 es) K (zav ops k)) s=some (.v u)∧(nb u=some want→runO P op ty (kpre (gens γ 0 es) K (zav ops k)) Hs (hof H0 (gens γ 0 es) k) γ k x)∧(nb u≠some want→x=.q (.v undef))
section
variable {P:Program} {N:Nat} {ops:List Oper} {K:Kd} {Hs H0:List Hp} {γ:Gh} {es:List (Tmp×Ex)} {k:Nat}
theorem so_q {t:Tmp} {d:D} {op:Op} {ty:TypeId} (he:nth es k=some (t,.q d)) (ho:opAt ops k=some (some t,op,ty,none)) {pre:List Nat} (hp:zav ops k=pre) (h:Qu P op ty (kpre (gens γ 0 es) K pre) Hs d):StepO P N ops K Hs H0 γ es k:=
 ⟨t,.q d,_,op,ty,none,he,ho,.inl ⟨rfl,rfl⟩,by subst hp;exact h⟩
theorem so_p {t:Tmp} {d:D} {op:Op} {ty:TypeId} (he:nth es k=some (t,.q d)) (ho:opAt ops k=some (some t,op,ty,none)) {pre:List Nat} (hp:zav ops k=pre) (h:Pu P op ty (kpre (gens γ 0 es) K pre) Hs d):StepO P N ops K Hs H0 γ es k:=so_q he ho hp h.qu
theorem so_e {t:Tmp} {d:D} {op:Op} {ty:TypeId} {H':Gh→List Hp} {Hk:List Hp} (he:nth es k=some (t,.e d H')) (ho:opAt ops k=some (some t,op,ty,none)) {pre:List Nat} (hp:zav ops k=pre) (hH:hof H0 (gens γ 0 es) k=Hk) (h:Ef P op ty (kpre (gens γ 0 es) K pre) Hk (fun d' H''=>d'=d∧H''=H' γ)) (hs:HSub (H' γ) Hs):StepO P N ops K Hs H0 γ es k:=
 ⟨t,.e d H',_,op,ty,none,he,ho,.inl ⟨rfl,rfl⟩,by subst hp;subst hH;exact⟨h,hs⟩⟩
theorem so_o {t:Tmp} {op:Op} {ty:TypeId} {H':Gh→List Hp} {Hk:List Hp} (he:nth es k=some (t,.o H')) (ho:opAt ops k=some (some t,op,ty,none)) {pre:List Nat} (hp:zav ops k=pre) (hH:hof H0 (gens γ 0 es) k=Hk) (h:Ef P op ty (kpre (gens γ 0 es) K pre) Hk (fun d' H''=>∃ v,d'=.ov v∧H''=H' (ug γ k v))) (hs:∀ v,HSub (H' (ug γ k v)) Hs):StepO P N ops K Hs H0 γ es k:=
 ⟨t,.o H',_,op,ty,none,he,ho,.inl ⟨rfl,rfl⟩,by subst hp;subst hH;exact⟨h,hs⟩⟩
def zen (P:Program) (N:Nat) (ops:List Oper) (K:Kd) (Hs H0:List Hp) (γ:Gh) (es:List (Tmp×Ex)):Nat→Nat→Prop
 | _,0=>True
 | k,todo+1=>StepO P N ops K Hs H0 γ es k∧zen P N ops K Hs H0 γ es (k+1) todo
theorem zen.get:∀ (todo k:Nat),zen P N ops K Hs H0 γ es k todo→∀ i,k≤i→i<k+todo→StepO P N ops K Hs H0 γ es i
 | 0,k,_,i,h1,h2=>by omega
 | todo+1,k,⟨h,hr⟩,i,h1,h2=>by
  rcases Nat.lt_or_ge k i with h3 | h3
  · exact zen.get todo (k+1) hr i h3 (by omega)
  · have:i=k:=by omega
    subst this;exact h
theorem jd_drawo {C:Ctx} {c:Code} {H:List Hp} {Q:zaH} (n:Nat) (es:List (Tmp×Ex)) (Hs:List Hp) {Hn:Gh→List Hp} (hm:P.follows .mixedOrders=true) (hc:zd2 c=some true) (hlen:Nat.beq es.length n=true) (hB:drawB' (zc9 c) n N (K.map fun x=>(x.1,Value.nilFunc))=true) (hch:chainB (zc9 c) (gens (fun _=>undef) 0 es)=true) (hrd:readB (zc9 c) es (gens (fun _=>undef) 0 es)=true) (hs0:HSub H Hs) (hHn:∀ γ,hof H (gens γ 0 es) n=Hn γ)
 (hsteps:∀ γ,zen P N (zc9 c) K Hs H γ es 0 n) (next:∀ γ,OpsD P N C (zc9 c) n (enK (gens γ 0 es) K) (Hn γ) (fun ρ w F=>Q .normal ρ w F)):JD P N C c K H Q:=by
 cases c<;>simp[zd2] at hc
 rename_i id opsA draw
 subst hc
 obtain rfl:Hn=fun γ=>hof H (gens γ 0 es) n:=funext fun γ=>(hHn γ).symm
 simp only[zc9] at hB hsteps hch hrd next
 generalize hops:opsA.toList=ops at hB hsteps hch hrd next
 have hA:opsA=ops.toArray:=by rw[←hops]
 subst hA
 have hlen:=Nat.eq_of_beq_eq_true hlen
 unfold drawB' at hB
 simp only[Bool.and_eq_true] at hB
 obtain ⟨⟨hback,htail⟩,hfresh⟩:=hB
 unfold freshB' at hfresh
 simp only[Bool.and_eq_true] at hfresh
 obtain ⟨hnl,hfr⟩:=hfresh
 have hnl:=Nat.le_of_ble_eq_true hnl
 rw[List.all_eq_true] at hfr
 have hpre:∀ k,k<ops.length→∀ j∈zav ops k,j<k:=by
  intro k hk j hj
  unfold zer at hback
  rw[List.all_eq_true] at hback
  have:=hback k (List.mem_range.2 hk)
  rw[List.all_eq_true] at this
  exact zbh.1 (this j hj)
 have hstep:∀ γ i,i<n→StepO P N ops K Hs H γ es i:=fun γ i hi=>zen.get n 0 (hsteps γ) i (Nat.zero_le _) (by omega)
 have hd:∀ i t,i<n→zaU ops i=some t→Nat.blt t N=true∧zax K t=none∧∀ j,j<i→zaU ops j≠some t:=by
  intro i t hi hdst
  have hf:=hfr i (List.mem_range.2 hi)
  rw[hdst] at hf
  simp only[Bool.and_eq_true,Bool.not_eq_true'] at hf
  refine⟨hf.1.1,lookD_keys hf.1.2,fun j hj=>?_⟩
  have:=hf.2
  rw[List.all_eq_true] at this
  have:=this j (List.mem_range.2 hj)
  simpa using this
 have hdn2:∀ i,i<n→∀ t x,nth es i=some (t,x)→(zaU ops i=some t∧x.isS=false)∨(zaU ops i=none∧Nat.ble N t=true∧x.isS=true):=by
  intro i hi t x hn
  obtain ⟨t',x',dst,op,ty,g,h1,h2,h3,_⟩:=(hstep (fun _=>undef) i hi).out
  rw[hn] at h1;cases h1
  have hdst:zaU ops i=dst:=by
   obtain ⟨o,q1,q2,_⟩:=zb3 h2
   have:nth ops i=some o:=by rw[zbu];simpa using q1
   simp[zaU,this,q2]
  rw[hdst];exact h3
 have hne:∀ i j t,i<n→j<n→i≠j→zaU ops i=some t→zaU ops j=some t→False:=by
  intro i j t hi hj hij h1 h2
  rcases Nat.lt_or_gt_of_ne hij with hlt | hlt
  · exact(hd j t hj h2).2.2 i hlt h1
  · exact(hd i t hi h1).2.2 j hlt h2
 have hfar:∀ (a:Act),Ok N a→∀ t,Nat.ble N t=true→zad a t=undef:=by
  intro a ok t ht
  have ht:=Nat.le_of_ble_eq_true ht
  simp only[zad,Array.getD_eq_getD_getElem?]
  rw[Array.getElem?_eq_none (by rw[ok.1];exact ht)];rfl
 have hchain:∀ γ k l,k<n→isEf (gens γ 0 es) k=true→zdb (gens γ 0 es) k=some l→l∈zav ops k:=by
  intro γ k l hk he hl
  rw[zcP γ (fun _=>undef)] at he
  rw[gens_lastEf γ (fun _=>undef)] at hl
  unfold chainB at hch
  rw[List.all_eq_true] at hch
  have:=hch k (List.mem_range.2 (by rw[gens_len];omega))
  rw[he,hl] at this
  exact has_mem (by simpa using this)
 refine⟨fun a w F ok hk g=>?_⟩
 apply wp_region_any hm
 have final:∀ (γ:Gh) (a:Act) (w':World) (F':Nat→Prop) (p:Nat),Ok N a→KOk w' F' (zad a) K→p≤n→Good C (hof H (gens γ 0 es) p) w' F'→(∀ i,p≤i→i<n→isEf (gens γ 0 es) i=false)→(∀ i t x,i<n→nth es i=some (t,x)→D.rep w' F' (x.d γ i) (zad a t))→
  wpOps P ops.toArray (fun e a' w'=>Ok N a'∧∃ F',Q e (zad a') w' F') (List.range' n (ops.length-n)) a w':=by
  intro γ a w' F' p ok hk hp g hno hrep
  rw[←zc2 (H0:=H) p n hp hno] at g
  have hK:=enK_ok (gens γ 0 es) K hk (fun j t d e hj=>by
   obtain ⟨x,x1,x2,x3⟩:=gens_nth' γ es 0 j t d e hj
   rw[Nat.zero_add] at x2
   subst x2
   exact hrep j t x (by rw[zbu] at x1;rw[←hlen];exact(List.getElem?_eq_some_iff.1 x1).1) x1)
  refine zba ?_ _ _ _ ((next γ).out a w' F' ok hK g)
  rintro e a' w'' ⟨rfl,h1,h2⟩
  exact⟨h1,h2⟩
 have key:∀ (fuel:Nat) (listed:Array Bool) (γ:Gh) (a:Act) (w':World) (F':Nat→Prop) (p:Nat),listed.size=ops.length→cnt ops.length listed≤fuel→Ok N a→KOk w' F' (zad a) K→p≤n→Good C (hof H (gens γ 0 es) p) w' F'→HSub (hof H (gens γ 0 es) p) Hs→
  (∀ i,i<p→isEf (gens γ 0 es) i=true→listed.getD i true=true)→(∀ i,p≤i→i<n→isEf (gens γ 0 es) i=true→listed.getD i true=false)→
  (∀ i t x,i<n→listed.getD i true=true→nth es i=some (t,x)→D.rep w' F' (x.d γ i) (zad a t))→(∀ i,i<n→listed.getD i true=true→∀ j∈zav ops i,listed.getD j true=true)→(∀ i,n≤i→i<ops.length→listed.getD i true=false)→
  wpAny P .any ops.toArray (fun e a' w'=>Ok N a'∧∃ F',Q e (zad a') w' F') fuel listed a w':=by
  intro fuel
  induction fuel with
  | zero=>
   intro listed γ a w' F' p hs hcnt ok hk hp g hsp hdone hnot hh hdn ht
   have hall:∀ i,i<ops.length→listed.getD i true=true:=by
    intro i hi
    cases hc:listed.getD i true with
    | true=>rfl
    | false=>have:=cnt_set hi hs hc;omega
   have hn:ops.length=n:=by
    rcases Nat.lt_or_ge n ops.length with h' | h'
    · have h1:=ht n (Nat.le_refl _) h'
      rw[hall n h'] at h1;cases h1
    · omega
   refine wpAny_tail (n:=n) hback htail 0 n listed a w' (by omega) (Nat.le_refl _) hnl hs (fun i hi=>by rw[hall i hi];simp;omega) ?_ 0 (by omega)
   refine final γ a w' F' p ok hk hp g (fun i h1 h2=>?_) (fun i t x hi hn=>hh i t x hi (hall i (by omega)) hn)
   cases he:isEf (gens γ 0 es) i with
   | false=>rfl
   | true=>have:=hnot i h1 h2 he;rw[hall i (by omega)] at this;cases this
  | succ fuel ih=>
   intro listed γ a w' F' p hs hcnt ok hk hp g hsp hdone hnot hh hdn ht
   by_cases hall:∀ i,i<n→listed.getD i true=true
   · refine wpAny_tail (n:=n) hback htail (ops.length-n) n listed a w' rfl (Nat.le_refl _) hnl hs (fun i hi=>?_) ?_ (fuel+1) ?_
     · rcases Nat.lt_or_ge i n with h' | h'
       · rw[hall i h'];simp[h']
       · rw[ht i h' hi];simp;omega
     · refine final γ a w' F' p ok hk hp g (fun i h1 h2=>?_) (fun i t x hi hn=>hh i t x hi (hall i hi) hn)
       cases he:isEf (gens γ 0 es) i with
       | false=>rfl
       | true=>have:=hnot i h1 h2 he;rw[hall i h2] at this;cases this
     · refine Nat.le_trans ?_ hcnt
       unfold cnt
       have hsplit:List.range ops.length=List.range n++List.range' n (ops.length-n):=by
        rw[List.range_eq_range',List.range_eq_range']
        have:=@List.range'_append 0 n (ops.length-n) 1
        simp only[Nat.one_mul,Nat.zero_add] at this
        rw[this];congr 1;omega
       rw[hsplit,List.countP_append]
       have:(List.range' n (ops.length-n)).countP (fun i=>!listed.getD i true)=ops.length-n:=by
        rw[List.countP_eq_length.2]
        · simp
        · intro i hi
          have:=List.mem_range'_1.1 hi
          rw[ht i (by omega) (by omega)];rfl
       omega
   · obtain ⟨i0,hi0⟩:=Classical.not_forall.1 hall
     obtain ⟨hi0n,hi0u⟩:=Classical.not_imp.1 hi0
     have hi0u:listed.getD i0 true=false:=by cases hx:listed.getD i0 true with | false=>rfl | true=>exact absurd hx hi0u
     refine⟨fun he=>absurd he (some_ready hs hback i0 (by omega) hi0u),fun i hi=>?_⟩
     obtain ⟨hu,hil,hps⟩:=zdi.1 hi
     have hin:i<n:=by
      rcases Nat.lt_or_ge i n with h' | h'
      · exact h'
      · exfalso
        have hpm:i0∈ancS ops i (zav ops i):=by
         have ht':=htail
         unfold zeK at ht'
         rw[List.all_eq_true] at ht'
         have:=ht' i (List.mem_range.2 hil)
         rw[Bool.or_eq_true] at this
         rcases this with h'' | h''
         · have:=zbh.1 h'';omega
         · rw[List.all_eq_true] at h''
           exact zdl (h'' i0 (List.mem_range.2 (by omega)))
        have:=zdN (p:=fun j=>j<ops.length∧listed.getD j true=true) (fun k hk j hj=>by
         have hkn:k<n:=by
          rcases Nat.lt_or_ge k n with hh | hh
          · exact hh
          · have:=ht k hh hk.1;rw[hk.2] at this;cases this
         exact⟨by have:=hpre k hk.1 j hj;omega,hdn k hkn hk.2 j hj⟩) i _ (fun j hj=>by
         have hjl:j<ops.length:=by have:=hpre i hil j hj;omega
         exact⟨hjl,by rw[zdP hs hjl];exact hps j hj⟩) i0 hpm
        rw[hi0u] at this
        cases this.2
     obtain ⟨t,x,dst,op,ty,gd,h1,h2,hdx,h3⟩:=(hstep γ i hin).out
     have hdst:zaU ops i=dst:=by
      obtain ⟨o,q1,q2,_⟩:=zb3 h2
      have:nth ops i=some o:=by rw[zbu];simpa using q1
      simp[zaU,this,q2]
     have h1g:=gens_nth γ es 0 i t x h1
     rw[Nat.zero_add] at h1g
     have hpl:∀ j∈zav ops i,listed.getD j true=true:=fun j hj=>by
      have hjl:j<ops.length:=by have:=hpre i hil j hj;omega
      rw[zdP hs hjl];exact hps j hj
     have hkp:KOk w' F' (zad a) (kpre (gens γ 0 es) K (zav ops i)):=kpre_ok hk _ (fun j hj t' d' e' hn'=>by
      obtain ⟨y,y1,y2,y3⟩:=gens_nth' γ es 0 j t' d' e' hn'
      rw[Nat.zero_add] at y2
      subst y2
      exact hh j t' y (by have:=hpre i hil j hj;omega) (hpl j hj) y1)
     obtain ⟨o,o1,o2,o3,o4,o5⟩:=zb3 h2
     have hdok:dok N dst=true:=by
      cases hds:dst with
      | none=>rfl
      | some t'=>exact(hd i t' hin (by rw[hdst,hds])).1
     have after:∀ (γ':Gh) v w'' F'' q,(∀ j t' x',j≠i→nth es j=some (t',x')→x'.d γ' j=x'.d γ j)→q≤n→Good C (hof H (gens γ' 0 es) q) w'' F''→HSub (hof H (gens γ' 0 es) q) Hs→Keep w' F' w'' F''→(dst=some t→D.rep w'' F'' (x.d γ' i) v)→(∀ k,k<q→isEf (gens γ' 0 es) k=true→(listed.setIfInBounds i true).getD k true=true)→(∀ k,q≤k→k<n→isEf (gens γ' 0 es) k=true→(listed.setIfInBounds i true).getD k true=false)→
      wpAny P .any ops.toArray (fun e a' w'=>Ok N a'∧∃ F',Q e (zad a') w' F') fuel (listed.setIfInBounds i true) (a.put o.dst v) w'':=by
      intro γ' v w'' F'' q hoth hq g' hsq kp hv hdone' hnot'
      have henv:zad (a.put o.dst v)=upd (zad a) dst v:=by rw[o2];exact zcQ ok hdok v
      refine ih _ γ' _ _ F'' q (by simp[hs]) ?_ (ok.put _ _) ?_ hq g' hsq hdone' hnot' ?_ ?_ ?_
      · have:=cnt_set hil hs hu;omega
      · rw[henv]
        cases hds:dst with
        | none=>exact hk.keep kp
        | some t'=>exact(hk.keep kp).other (hd i t' hin (by rw[hdst,hds])).2.1
      · intro j t' x' hj hl hn'
        rw[henv]
        rcases hdn2 j hj t' x' hn' with ⟨e1,e2⟩ | ⟨e1,e2,e3⟩
        · by_cases hij:i=j
          · subst hij
            rw[h1] at hn';cases hn'
            rw[hdst] at e1;subst e1
            simpa [upd] using hv rfl
          · rw[getD_set_ne true hij] at hl
            have hkeep:upd (zad a) dst v t'=zad a t':=by
             cases hds:dst with
             | none=>rfl
             | some t2=>
              have:t'≠t2:=by rintro rfl;exact hne i j t' hin hj hij (by rw[hdst,hds]) e1
              simp only[upd,this,if_false]
            rw[hkeep,hoth j t' x' (fun e=>hij e.symm) hn']
            exact D.keep kp _ _ (hh j t' x' hj hl hn')
        · rw[←henv]
          have:x'.d γ' j=.v undef:=by cases x'<;>simp[Ex.isS] at e3;rfl
          rw[this]
          exact hfar _ (ok.put _ _) t' e2
      · intro j hj hl k hk'
        by_cases hij:i=j
        · subst hij
          have:=hpl k hk'
          have hki:i≠k:=by have:=hpre i hil k hk';omega
          rw[getD_set_ne true hki];exact this
        · rw[getD_set_ne true hij] at hl
          have:=hdn j hj hl k hk'
          by_cases hik:i=k
          · subst hik;rw[hu] at this;cases this
          · rw[getD_set_ne true hik];exact this
      · intro j hj hjl
        rw[getD_set_ne true (by omega)]
        exact ht j hj hjl
     have hset:(listed.setIfInBounds i true).getD i true=true:=by
      have:i<listed.size:=by omega
      simp[this]
     have stay:isEf (gens γ 0 es) i=false→(∀ k,k<p→isEf (gens γ 0 es) k=true→(listed.setIfInBounds i true).getD k true=true)∧(∀ k,p≤k→k<n→isEf (gens γ 0 es) k=true→(listed.setIfInBounds i true).getD k true=false):=by
      intro hq
      refine⟨fun k h1 h2=>?_,fun k h1 h2 h3=>?_⟩
      · by_cases hik:i=k
        · subst hik;exact hset
        · rw[getD_set_ne true hik];exact hdone k h1 h2
      · by_cases hik:i=k
        · subst hik;rw[hq] at h3;cases h3
        · rw[getD_set_ne true hik];exact hnot k h1 h2 h3
     have gs:=hsp.out _ _ _ g
     have nothing:∀ (γ':Gh),isEf (gens γ 0 es) i=true→(∀ k,p≤k→k<i→isEf (gens γ 0 es) k=false)→p≤i→(∀ k,k<i+1→isEf (gens γ' 0 es) k=true→(listed.setIfInBounds i true).getD k true=true)∧(∀ k,i+1≤k→k<n→isEf (gens γ' 0 es) k=true→(listed.setIfInBounds i true).getD k true=false):=by
      intro γ' hq hno hpi
      refine⟨fun k hk1 hk2=>?_,fun k hk1 hk2 hk3=>?_⟩
      · rw[zcP γ' γ] at hk2
        by_cases hik:i=k
        · subst hik;exact hset
        · rw[getD_set_ne true hik]
          rcases Nat.lt_or_ge k p with h' | h'
          · exact hdone k h' hk2
          · have:=hno k h' (by omega);rw[hk2] at this;cases this
      · rw[zcP γ' γ] at hk3
        rw[getD_set_ne true (by omega)];exact hnot k (by omega) hk2 hk3
     have front:isEf (gens γ 0 es) i=true→p≤i∧(∀ k,p≤k→k<i→isEf (gens γ 0 es) k=false)∧Good C (hof H (gens γ 0 es) i) w' F':=by
      intro hq
      have hpi:p≤i:=by
       rcases Nat.lt_or_ge i p with h' | h'
       · have:=hdone i h' hq;rw[hu] at this;cases this
       · exact h'
      have hno:∀ k,p≤k→k<i→isEf (gens γ 0 es) k=false:=by
       intro k hk1 hk2
       cases hke:isEf (gens γ 0 es) k with
       | false=>rfl
       | true=>
        obtain ⟨l,l1,l2,l3,l4⟩:=lastEf_some i k hk2 hke
        have:=hpl l (hchain γ i l hin hq l1)
        rw[hnot l (by omega) (by omega) l4] at this;cases this
      exact⟨hpi,hno,by rw[zc2 (H0:=H) p i hpi hno];exact g⟩
     have run:runO P op ty (kpre (gens γ 0 es) K (zav ops i)) Hs (hof H (gens γ 0 es) i) γ i x→EOp P op ty (zad a) w' (fun v w''=>wpAny P .any ops.toArray (fun e a' w'=>Ok N a'∧∃ F',Q e (zad a') w' F') fuel (listed.setIfInBounds i true) (a.put o.dst v) w''):=by
      intro hrun
      cases x with
      | q d=>
       have hq:isEf (gens γ 0 es) i=false:=by simp[isEf,h1g,Ex.h]
       refine(Qu.out hrun _ w' F' hkp g.flt gs.h.ok).mono ?_
       rintro v w'' ⟨E,hrep⟩
       obtain ⟨g',kp⟩:=Good.fn g E
       exact after γ v w'' _ p (fun _ _ _ _ _=>rfl) hp g' hsp kp (fun _=>hrep) (stay hq).1 (stay hq).2
      | r d=>
       have hq:isEf (gens γ 0 es) i=false:=by simp[isEf,h1g,Ex.h]
       have gr:Good C (hof H (gens γ 0 es) i) w' F':=by
        have hb:isRd es i=true:=by simp[isRd,h1]
        have hr:=hrd
        unfold readB at hr
        rw[List.all_eq_true] at hr
        have hr:=hr i (List.mem_range.2 (by omega))
        rw[hb] at hr
        simp only[Bool.not_true,Bool.false_or,Bool.and_eq_true] at hr
        rw[gens_lastEf _ γ,gens_nextEf _ γ] at hr
        have anc:∀ k,k<n→(∀ j∈zav ops k,listed.getD j true=true)→∀ j∈ancS ops k (zav ops k),listed.getD j true=true:=by
         intro k hkn hk1
         have:=zdN (ops:=ops) (p:=fun j=>j<ops.length∧listed.getD j true=true) (fun k hk j hj=>by
          have hkn:k<n:=by
           rcases Nat.lt_or_ge k n with hh | hh
           · exact hh
           · have:=ht k hh hk.1;rw[hk.2] at this;cases this
          exact⟨by have:=hpre k hk.1 j hj;omega,hdn k hkn hk.2 j hj⟩) k _ (fun j hj=>⟨by have:=hpre k (by omega) j hj;omega,hk1 j hj⟩)
         exact fun j hj=>(this j hj).2
        rcases Nat.lt_or_ge i p with hip | hip
        · rw[zc2 (H0:=H) i p (by omega) (fun k k1 k2=>?_)] at g
          · exact g
          · cases hke:isEf (gens γ 0 es) k with
            | false=>rfl
            | true=>
             have hki:k≠i:=by rintro rfl;rw[hq] at hke;cases hke
             obtain ⟨j,j1,j2,j3,j4⟩:=nextEf_some es.length (i+1) k (by omega) (by omega) hke
             rw[j1] at hr
             have hjl:=hdone j (by omega) j4
             have:=anc j (by omega) (hdn j (by omega) hjl) i (zdl hr.2)
             rw[hu] at this;cases this
        · rw[←zc2 (H0:=H) p i hip (fun k k1 k2=>?_)] at g
          · exact g
          · cases hke:isEf (gens γ 0 es) k with
            | false=>rfl
            | true=>
             obtain ⟨l,l1,l2,l3,l4⟩:=lastEf_some i k k2 hke
             rw[l1] at hr
             have:=anc i hin hpl l (zdl hr.1)
             rw[hnot l (by omega) (by omega) l4] at this;cases this
       refine(Qu.out hrun _ w' F' hkp g.flt gr.h.ok).mono ?_
       rintro v w'' ⟨E,hrep⟩
       obtain ⟨g',kp⟩:=Good.fn g E
       exact after γ v w'' _ p (fun _ _ _ _ _=>rfl) hp g' hsp kp (fun _=>hrep) (stay hq).1 (stay hq).2
      | s H'=>
       have hq:isEf (gens γ 0 es) i=true:=by simp[isEf,h1g,Ex.h]
       obtain ⟨hef,hsH⟩:=hrun
       obtain ⟨hpi,hno,gi⟩:=front hq
       refine(hef.out C _ w' F' hkp gi).mono ?_
       rintro v w'' ⟨F'',d',H'',rfl,hrep,g',kp⟩
       have hh1:=zc1 (gens γ 0 es) H i t _ _ h1g
       refine after γ v w'' F'' (i+1) (fun _ _ _ _ _=>rfl) (by omega) (by rw[hh1];exact g') (by rw[hh1];exact hsH) kp (fun ht'=>?_) (nothing γ hq hno hpi).1 (nothing γ hq hno hpi).2
       rcases hdx with ⟨_,e⟩ | ⟨e,_,_⟩
       · cases e
       · rw[e] at ht';cases ht'
      | e d H'=>
       have hq:isEf (gens γ 0 es) i=true:=by simp[isEf,h1g,Ex.h]
       obtain ⟨hef,hsH⟩:=hrun
       obtain ⟨hpi,hno,gi⟩:=front hq
       refine(hef.out C _ w' F' hkp gi).mono ?_
       rintro v w'' ⟨F'',d',H'',⟨rfl,rfl⟩,hrep,g',kp⟩
       have hh1:=zc1 (gens γ 0 es) H i t _ _ h1g
       exact after γ v w'' F'' (i+1) (fun _ _ _ _ _=>rfl) (by omega) (by rw[hh1];exact g') (by rw[hh1];exact hsH) kp (fun _=>hrep) (nothing γ hq hno hpi).1 (nothing γ hq hno hpi).2
      | o H'=>
       have hq:isEf (gens γ 0 es) i=true:=by simp[isEf,h1g,Ex.h]
       obtain ⟨hef,hsH⟩:=hrun
       obtain ⟨hpi,hno,gi⟩:=front hq
       refine(hef.out C _ w' F' hkp gi).mono ?_
       rintro v w'' ⟨F'',d',H'',⟨vv,rfl,rfl⟩,hrep,g',kp⟩
       have h1n:=gens_nth (ug γ i vv) es 0 i t _ h1
       have hh1:=zc1 (gens (ug γ i vv) 0 es) H i t _ _ h1n
       refine after (ug γ i vv) v w'' F'' (i+1) (fun j t' x' hj _=>?_) (by omega) (by rw[hh1];exact g') (by rw[hh1];exact hsH vv) kp ?_ (nothing _ hq hno hpi).1 (nothing _ hq hno hpi).2
       · cases x' with
         | q _=>rfl
         | r _=>rfl
         | s _=>rfl
         | e _ _=>rfl
         | o _=>simp only[Ex.d,ug_ne γ vv hj]
         | f _ _=>simp only[Ex.d,ug_ne γ vv hj]
       · intro _;simp only[Ex.d,ug_self];exact hrep
      | f m H'=>
       have hq:isEf (gens γ 0 es) i=true:=by simp[isEf,h1g,Ex.h]
       obtain ⟨hef,hsH⟩:=hrun
       obtain ⟨hpi,hno,gi⟩:=front hq
       refine(hef.out C _ w' F' hkp gi).mono ?_
       rintro v w'' ⟨F'',d',H'',⟨vv,rfl,rfl⟩,hrep,g',kp⟩
       have h1n:=gens_nth (ug γ i vv) es 0 i t _ h1
       have hh1:=zc1 (gens (ug γ i vv) 0 es) H i t _ _ h1n
       refine after (ug γ i vv) v w'' F'' (i+1) (fun j t' x' hj _=>?_) (by omega) (by rw[hh1];exact g') (by rw[hh1];exact hsH vv) kp ?_ (nothing _ hq hno hpi).1 (nothing _ hq hno hpi).2
       · cases x' with
         | q _=>rfl
         | r _=>rfl
         | s _=>rfl
         | e _ _=>rfl
         | o _=>simp only[Ex.d,ug_ne γ vv hj]
         | f _ _=>simp only[Ex.d,ug_ne γ vv hj]
       · intro _;simp only[Ex.d,ug_self];exact hrep
     unfold wpOp
     rw[o1]
     simp only
     subst o5
     cases hgo:o.guard with
     | none=>
      rw[hgo] at h3
      rw[if_pos (by unfold Region.wanted;rw[hgo])]
      left
      apply zcN
      rw[o3,o4]
      exact run h3
     | some jw=>
      obtain ⟨j,want⟩:=jw
      rw[hgo] at h3
      obtain ⟨s,u,t1,t2,t3,t4,t5⟩:=h3
      have hyv:yielded ops.toArray a.tmps j=nb u:=by
       have he:zad a s=u:=hkp s _ t3
       have hts:s<a.tmps.size:=by rw[ok.1];exact zbh.1 t2
       have hg':a.tmps[s]?=some u:=by
        simp only[zad,Array.getD_eq_getD_getElem?] at he
        rw[Array.getElem?_eq_getElem hts] at he ⊢
        simpa using he
       unfold yielded
       unfold zaU at t1
       cases hn:nth ops j with
       | none=>rw[hn] at t1;cases t1
       | some oj=>
        rw[hn] at t1
        have:ops.toArray[j]?=some oj:=by rw[zbu] at hn;simpa using hn
        rw[this]
        simp only[Option.bind_some,t1,hg']
        cases u<;>rfl
      by_cases hb:nb u=some want
      · rw[if_pos (by unfold Region.wanted;rw[hgo];simp[hyv,hb])]
        left
        apply zcN
        rw[o3,o4]
        exact run (t4 hb)
      · rw[if_neg (by unfold Region.wanted;rw[hgo];simp[hyv,hb])]
        obtain rfl:=t5 hb
        have hq:isEf (gens γ 0 es) i=false:=by simp[isEf,h1g,Ex.h]
        exact after γ undef w' F' p (fun _ _ _ _ _=>rfl) hp g hsp Keep.rfl' (fun _=>rfl) (stay hq).1 (stay hq).2
 have gd:=(Good.fn g (Ext.drew w)).1
 have hkd:=hk.keep (Good.fn g (Ext.drew w)).2
 refine key ops.toArray.size (Array.replicate ops.toArray.size false) (fun _=>undef) a _ _ 0 (by simp) ?_ ok hkd (Nat.zero_le _) (by rw[hof_zero];exact gd) (by rw[hof_zero];exact hs0) (fun i hi _=>by omega) (fun i _ hi _=>?_) ?_ ?_ ?_
 · unfold cnt
   refine Nat.le_trans (List.countP_le_length) (by simp)
 · have:i<ops.length:=by omega
   simp[this]
 · intro i t x hi hl
   have:i<ops.length:=by omega
   simp[this] at hl
 · intro i hi hl
   have:i<ops.length:=by omega
   simp[this] at hl
 · intro i _ hi
   simp[hi]
end
end Lp
set_option linter.unusedVariables false
namespace Lp
open Go Go.RowKit
theorem fdiv_nat (a n:Nat):Int.fdiv (a:Int) (2 ^ n)=((a / 2 ^ n:Nat):Int):=by
 rw[show (2:Int) ^ n=((2 ^ n:Nat):Int) by push_cast;rfl]
 rw[Int.fdiv_eq_ediv_of_nonneg _ (Int.natCast_nonneg _)]
 exact(Int.natCast_ediv a (2 ^ n)).symm
section
variable {P:Program} {ty:TypeId} {K:Kd} {H:List Hp} {t t':TypeId} {x y:Operand}
theorem zdw {k k':IntKind} {a n m:Nat} (hx:opD K x=some (.v (.int k (a:Int)))) (hy:opD K y=some (.v (.int k' (n:Int)))) (hn:n≤k.bits) (hm:2 ^ n=m):Pu P (.binOp .shr t x y t') ty K H (.v (.int k ((a / m:Nat):Int))):=
 zdx hx hy (fun w=>by
  subst hm
  have h1:¬((n:Nat):Int)<0:=by omega
  have h2:min n k.bits=n:=by omega
  simp[eqGuard,binOp,Op.shift,h1,h2,fdiv_nat])
theorem bv8 (a b:Nat) (ha:a<256) (hb:b<256):(BitVec.ofInt IntKind.u8.bits (a:Int)&&& BitVec.ofInt IntKind.u8.bits (b:Int)).toNat=a&&& b:=by
 rw[BitVec.toNat_and,BitVec.toNat_ofInt,BitVec.toNat_ofInt]
 have e:(2:Nat) ^ IntKind.u8.bits=256:=rfl
 rw[e]
 congr 1<;>omega
theorem bv8o (a b:Nat) (ha:a<256) (hb:b<256):(BitVec.ofInt IntKind.u8.bits (a:Int)||| BitVec.ofInt IntKind.u8.bits (b:Int)).toNat=a||| b:=by
 rw[BitVec.toNat_or,BitVec.toNat_ofInt,BitVec.toNat_ofInt]
 have e:(2:Nat) ^ IntKind.u8.bits=256:=rfl
 rw[e]
 congr 1<;>omega
theorem wrap8 {n:Nat} (h:n<256):IntKind.u8.wrap (n:Int)=(n:Int):=by simp[IntKind.wrap,IntKind.bits,IntKind.signed];omega
theorem zcH {a b c:Nat} (hx:opD K x=some (.v (.int .u8 (a:Int)))) (hy:opD K y=some (.v (.int .u8 (b:Int)))) (ha:a<256) (hb:b<256) (hc:a&&& b=c):Pu P (.binOp .and t x y t') ty K H (.v (.int .u8 (c:Int))):=
 zdx hx hy (fun w=>by
  subst hc
  have h:a&&& b<256:=Nat.lt_of_le_of_lt Nat.and_le_left ha
  simp only[eqGuard,binOp,Op.intBits,bv8 a b ha hb,wrap8 h]
  rfl)
theorem zcJ {a b c:Nat} (hx:opD K x=some (.v (.int .u8 (a:Int)))) (hy:opD K y=some (.v (.int .u8 (b:Int)))) (ha:a<256) (hb:b<256) (hc:a||| b=c):Pu P (.binOp .or t x y t') ty K H (.v (.int .u8 (c:Int))):=
 zdx hx hy (fun w=>by
  subst hc
  have h:a||| b<256:=Nat.or_lt_two_pow (n:=8) ha hb
  simp only[eqGuard,binOp,Op.intBits,bv8o a b ha hb,wrap8 h]
  rfl)
theorem zdM (a:Nat):a&&& 63=a % 64:=Nat.and_two_pow_sub_one_eq_mod a 6
theorem and15 (a:Nat):a&&& 15=a % 16:=Nat.and_two_pow_sub_one_eq_mod a 4
theorem zdI:∀ a,a<64→128||| a=128+a:=by decide
theorem or192:∀ a,a<32→192||| a=192+a:=by decide
theorem or224:∀ a,a<16→224||| a=224+a:=by decide
theorem or240:∀ a,a<8→240||| a=240+a:=by decide
end
end Lp
