import Derived.Test.YtheccaeefigajaaGreatDoorPKind
set_option linter.unusedVariables false
namespace Lp
open Go
theorem zcf {l:List Nd} {x:Nd} (h:x∈l):x.cnt≤Nd.cntL l:=by
 induction l with
 | nil=>cases h
 | cons y l ih=>
  simp only[Nd.cntL]
  rcases List.mem_cons.1 h with e | e
  · rw[e];omega
  · have:=ih e;omega
theorem Nd.ind {p:Nd→Prop} (h:∀ op text n mode names ms kids,(∀ x∈kids,p x)→p (.mk op text n mode names ms kids)):∀ q,p q:=by
 have key:∀ (n:Nat) (q:Nd),q.cnt=n→p q:=by
  intro n
  induction n using Nat.strongRecOn with
  | _ n ih=>
   intro q hq
   obtain ⟨op,text,n',mode,names,ms,kids⟩:=q
   refine h op text n' mode names ms kids (fun x hx=>ih x.cnt ?_ x J)
   have:=zcf hx
   simp only[Nd.cnt] at hq;omega
 exact fun q=>key q.cnt q J
theorem zc7:∀ l:List Nd,l.length≤Nd.cntL l
 | []=>Nat.le_refl _
 | x::r=>by
  have:=zc7 r
  have h:1≤x.cnt:=by cases x;simp[Nd.cnt]
  simp only[Nd.cntL,List.length_cons];omega
theorem cntL_app (a b:List Nd):Nd.cntL (a++b)=Nd.cntL a+Nd.cntL b:=by
 induction a with
 | nil=>simp[Nd.cntL]
 | cons x a ih=>simp only[List.cons_append,Nd.cntL,ih];omega
theorem cntL_take (l:List Nd) (k:Nat):Nd.cntL (l.take k)≤Nd.cntL l:=by
 have:=cntL_app (l.take k) (l.drop k)
 rw[List.take_append_drop] at this;omega
theorem deepL_take (l:List Nd) (k:Nat):Nd.deepL (l.take k)≤Nd.cntL l:=Nat.le_trans (deepL_cnt _) (cntL_take l k)
theorem addN_len (out l:List ByteArray):(addN out l).length≤out.length+l.length:=by
 unfold addN
 induction l generalizing out with
 | nil=>simp
 | cons m l ih=>
  rw[List.foldl_cons]
  split
  · have:=ih out;simp only[List.length_cons];omega
  · have:=ih (out++[m]);simp only[List.length_cons,List.length_append,List.length_nil] at*;omega
mutual
theorem mets_len:∀ q:Nd,q.mets.length≤q.cnt
 | .mk op text n mode names ms kids=>by
  simp only[Nd.mets,Nd.cnt]
  have h:=metsL_len (if op=nSel∧text≠ByteArray.empty then [text] else []) kids
  have h2:(if op=nSel∧text≠ByteArray.empty then [text] else []).length≤1:=by split<;>simp
  omega
theorem metsL_len:∀ (out:List ByteArray) (l:List Nd),(Nd.metsL out l).length≤out.length+Nd.cntL l
 | out,[]=>by simp[Nd.metsL,Nd.cntL]
 | out,x::r=>by
  simp only[Nd.metsL,Nd.cntL]
  have h1:=metsL_len (addN out (Nd.mets x)) r
  have h2:=addN_len out (Nd.mets x)
  have h3:=mets_len x
  omega
end
inductive Ask where
 | leaf (k:Int)
 | whole (a b:Int)
 | plain
 | pair (m:Int)
 | none
def zbG (op text:ByteArray) (n mode:Int) (len:Nat):Ask:=
 if op=tNum then .leaf 1
 else if op=nSel∧0<n then .leaf 3
 else if op=nSel then .leaf 2
 else if op=tFn∧len=1 then .whole 3 2
 else if op=tAgg∧len=1∧zbC text n=true then .whole 2 2
 else if op=tNeg∧len=1 then .plain
 else if op=tBin∧len=2 then .pair mode
 else .none
def Ask.fits:Ask→Nat→Prop
 | .whole _ _,n=>n=1
 | .plain,n=>n=1
 | .pair _,n=>n=2
 | _,_=>True
def Ask.kind:Ask→List Int→Int
 | .leaf k,_=>k
 | .whole a b,ks=>if ks.headD 0=a then b else 0
 | .plain,ks=>if ks.headD 0=3 then 0 else ks.headD 0
 | .pair m,ks=>zdU m (ks.headD 0) (ks.tail.headD 0)
 | .none,_=>0
theorem ask_kind (op text:ByteArray) (n mode:Int) (ks:List Int):zcb op text n mode ks=(zbG op text n mode ks.length).kind ks:=by
 unfold zcb zbG;repeat' split
 all_goals first | rfl | (simp only[Ask.kind];rw[if_pos (by assumption)]) | (simp only[Ask.kind];rw[if_neg (by assumption)])
theorem ask_fits (op text:ByteArray) (n mode:Int) (len:Nat):(zbG op text n mode len).fits len:=by
 unfold zbG;repeat' split
 all_goals first | trivial | (rename_i h;exact h.2) | (rename_i h;exact h.2.1)
theorem kinds_len:∀ {l:List Nd} {ks:List Int},Nd.kinds l=some ks→ks.length=l.length
 | [],ks,h=>by simp[Nd.kinds] at h;subst h;rfl
 | x::r,ks,h=>by
  simp only[Nd.kinds] at h
  split at h
  · cases h
  · cases e:Nd.kinds r with
    | none=>rw[e] at h;cases h
    | some k2=>rw[e] at h;simp at h;subst h;simp[kinds_len e]
theorem kinds_one (x:Nd):Nd.kinds [x]=if x.kind=0 then none else some [x.kind]:=by simp[Nd.kinds]
theorem kinds_go {l:List Nd} {k:Nat} {x:Nd} {o:List Int} (hx:l[k]?=some x) (h:Nd.kinds (l.take k)=some o) (hk:¬x.kind=0):Nd.kinds (l.take (k+1))=some (o++[x.kind]):=by
 rw[zaI hx,kinds_app,h,kinds_one,if_neg hk];rfl
theorem kinds_bad {l:List Nd} {k:Nat} {x:Nd} {o:List Int} (hx:l[k]?=some x) (h:Nd.kinds (l.take k)=some o) (hk:x.kind=0):Nd.kinds l=none:=by
 have e:l=l.take (k+1)++l.drop (k+1):=(List.take_append_drop _ _).symm
 rw[e,kinds_app,zaI hx,kinds_app,h,kinds_one,if_pos hk];rfl
def Nd.kindE (q:Nd):Int:=if q.kind=0 then 3 else 0
def zbZ (l:List Nd):List Int:=(Nd.kinds l).getD []
def zdc (l:List Nd):Int:=if (Nd.kinds l).isSome=true then 0 else 3
theorem kinds_no {l:List Nd} (h:Nd.kinds l=none):[]=zbZ l∧3=zdc l:=by unfold zbZ zdc;rw[h];exact⟨rfl,rfl⟩
theorem kinds_yes {l:List Nd} {o:List Int} (h:Nd.kinds l=some o):o=zbZ l∧0=zdc l:=by unfold zbZ zdc;rw[h];exact⟨rfl,rfl⟩
theorem kindE_c (l:List Nd):(zdc l=0∧Nd.kinds l=some (zbZ l))∨(zdc l=3∧Nd.kinds l=none):=by
 unfold zbZ zdc
 cases Nd.kinds l with
 | none=>exact .inr ⟨rfl,rfl⟩
 | some ks=>exact .inl ⟨rfl,rfl⟩
theorem kind_no {op text:ByteArray} {n mode:Int} {names:List ByteArray} {ms:List MatD} {kids:List Nd} (h:Nd.kinds kids=none):(Nd.mk op text n mode names ms kids).kind=0:=by simp only[Nd.kind,h]
theorem kind_yes {op text:ByteArray} {n mode:Int} {names:List ByteArray} {ms:List MatD} {kids:List Nd} {ks:List Int} (h:Nd.kinds kids=some ks):(Nd.mk op text n mode names ms kids).kind=(zbG op text n mode kids.length).kind ks:=by
 simp only[Nd.kind,h];rw[ask_kind,kinds_len h]
def Nd.checkE (q:Nd):Int:=if q.kind=0∨q.kind=3 then 3 else 0
abbrev alS1:ByteArray:=⟨#[114,97,116,101,40,99,112,117,91,53,109,93,41,32,43,32,49]⟩
abbrev alS2:ByteArray:=⟨#[114,97,116,101,40,99,112,117,41]⟩
end Lp
set_option linter.unusedSimpArgs false
set_option linter.unusedVariables false
set_option maxHeartbeats 4000000
set_option maxRecDepth 100000
namespace Lp
open Go Go.RowKit Go.Proofs
namespace HdYtheccaeefigajaaGreatDoorV102
theorem zaB (b o:Nat):∀ w,(Instr.fieldAt 27 (.pointer (some ⟨b,o,none⟩)) 0).run Tryz.prog w=.ok (.pointer (some ⟨b,o+0,none⟩)) w:=fun _=>by kernel_rfl
theorem zaA (b o:Nat):∀ w,(Instr.fieldAt 27 (.pointer (some ⟨b,o,none⟩)) 1).run Tryz.prog w=.ok (.pointer (some ⟨b,o+1,none⟩)) w:=fun _=>by kernel_rfl
theorem zap (b o:Nat):∀ w,(Instr.fieldAt 27 (.pointer (some ⟨b,o,none⟩)) 6).run Tryz.prog w=.ok (.pointer (some ⟨b,o+6,none⟩)) w:=fun _=>by kernel_rfl
theorem zcI:∃ i,Tryz.prog.info? 9=some i∧i.zero=some (.string ByteArray.empty)∧i.size=1∧i.bytes=16:=zbq (by kernel_rfl)
theorem zcE:Tryz.prog.underlying 23=some (.slice 9):=by kernel_rfl
end HdYtheccaeefigajaaGreatDoorV102
open HdYtheccaeefigajaaGreatDoorV102
def Ask.d:Ask→D
 | .leaf k=>.ifc 143 (.agg [dI k])
 | .whole a b=>.ifc 146 (.agg [dI a,dI b])
 | .plain=>.ifc 153 (.agg [])
 | .pair m=>.ifc 149 (.agg [dI m])
 | .none=>.v .nilIface
theorem hd_0 {l:List Int} {x:Int} (h:l[0]?=some x):l.headD 0=x:=by
 cases l with
 | nil=>cases h
 | cons y r=>injection h
theorem hd_1 {l:List Int} {x:Int} (h:l[1]?=some x):l.tail.headD 0=x:=by
 cases l with
 | nil=>cases h
 | cons y r=>cases r with
  | nil=>cases h
  | cons z r=>injection h
theorem deep_s (op text:ByteArray) (n mode:Int) (names:List ByteArray) (ms:List MatD) (kids:List Nd) (ih:∀ x∈kids,CD Tryz.prog 19 [] [Nd.d x] (isR (dN x.deep))) (hc:Nd.cntL kids≤1000000):
 CD Tryz.prog 19 [] [.agg [.s op,.s text,dI n,dI mode,.sh 1 (names.map D.s),.sh 3 (ms.map MatD.d),.sh 7 (kids.map Nd.d)]] (isR (dN (Nd.mk op text n mode names ms kids).deep)):=by
 refine zp Tryz.func19 J (N:=20) J J (fun C=>?_)
 refine jk [0] J ?_
 refine JD.bd 0 J (fun bd0=>?_)
 have hkl:=zc7 kids
 refine jT J (oE J (zaY J (CellD.agg)) ?_)
 rintro _ _ ⟨g1,rfl,rfl⟩
 refine oR 1 J (oZ J (jT J (oR 1 J (oZ J (jS J (jT J (oP J (zd J zap J) (oP J (ze J (i:=0) J Tryz.isAgg25 J) (oP J (zbf (n:=kids.length) J Tryz.runUnderlying25 (by simp only[lm,lc,ln])) (oR 1 rfl (oZ rfl (jB rfl (jl1 (fun (a_:Nat)=>[(2,dI 0),(7,.sh 7 (kids.map Nd.d)),(8,dN kids.length),(9,dN a_),(3,dN (Nd.deepL (kids.take a_)))]) (fun a_=>[.bx g1 27 (.agg [.s op,.s text,dI n,dI mode,.sh 1 (names.map D.s),.sh 3 (ms.map MatD.d),.sh 7 (kids.map Nd.d)])]) (fun a_=>(a_≤kids.length)) (fun a_=>kids.length-a_) 0 rfl ⟨sk rfl,sk rfl,sk rfl,sk rfl,sc rfl (Cv.rfl'),trivial⟩ HSub.rfl' (Nat.zero_le _) ?_)))))))))))))
 rintro k hk
 refine ja J (jn J ?_)
 have hdl:=deepL_take kids k
 refine jT J (oP J (zN J J J) (oZ J (jS J ?_)))
 refine jD J (fun hc2=>?_) (fun hc2=>?_)
 · skip
   refine zt J (zj (jS J (jB J (jT J ?_))))
   obtain ⟨x1,hx1⟩:=zW kids k (by omega)
   obtain ⟨yax1,ybx1,ycx1,ydx1,yex1,yfx1,ygx1⟩:=x1
   have hmcx1:=zcf (List.mem_of_getElem? hx1)
   refine oP J (zI (k:=k) J J Tryz.runUnderlying25 Tryz.sizeOf27 (by first | rfl | omega) (zK hx1)) (oP rfl (zan (d:=.agg [.s yax1,.s ybx1,dI ycx1,dI ydx1,.sh 1 (yex1.map D.s),.sh 3 (yfx1.map MatD.d),.sh 7 (Nd.ds ygx1)]) rfl Tryz.isAgg27 Tryz.sizeOf27 rfl rfl) (oE rfl (zC (zv:=(.agg #[(.string ByteArray.empty),(.string ByteArray.empty),(.int .i64 0),(.int .i64 0),(.slice none 0 0),(.slice none 0 0),(.slice none 0 0)])) Tryz.zeroValue27 ⟨rfl,rfl,rfl,rfl,rfl,rfl,rfl,trivial⟩ (Cv.vagg (by decide))) ?_))
   rintro _ _ ⟨g3,rfl,rfl⟩
   refine oE J (zi (i:=0) (X':=.agg [.s yax1,.s ybx1,dI ycx1,dI ydx1,.sh 1 (yex1.map D.s),.sh 3 (yfx1.map MatD.d),.sh 7 (Nd.ds ygx1)]) J J J (CellD.agg) Tryz.sizeOf27 J J J) ?_
   rintro _ _ ⟨rfl,rfl⟩
   refine on J (oZ J (zf J (oR 1 J (oP J (zH (d:=.agg [.s yax1,.s ybx1,dI ycx1,dI ydx1,.sh 1 (yex1.map D.s),.sh 3 (yfx1.map MatD.d),.sh 7 (Nd.ds ygx1)]) J (i:=0) J Tryz.isAgg27 Tryz.sizeOf27 J J) (oE J (zm [] [.bx g3 27 (.agg [.s yax1,.s ybx1,dI ycx1,dI ydx1,.sh 1 (yex1.map D.s),.sh 3 (yfx1.map MatD.d),.sh 7 (Nd.ds ygx1)]),.bx g1 27 (.agg [.s op,.s text,dI n,dI mode,.sh 1 (names.map D.s),.sh 3 (ms.map MatD.d),.sh 7 (kids.map Nd.d)])] [] J J (.cons ArgC.id .nil) zg Tryz.call19 (ih (Nd.mk yax1 ybx1 ycx1 ydx1 yex1 yfx1 ygx1) (List.mem_of_getElem? hx1)) (.inl J)) ?_)))))
   rintro _ _ ⟨_,⟨rfl,rfl⟩,rfl⟩
   refine on J (oP J (p_max J J J) (oR 1 J (zq J (zB (zj (zf J (oP J (zaz (c:=((k+1:Nat):Int)) J J (zab (by omega) (by omega))) (oR 1 rfl (zq rfl ?_)))))))))
   exact pl1 (k+1) ⟨sk J,sk J,sk J,sk J,sc J (Cv.eq (congrArg dI (by rw[deepL_snoc hx1];first | done | omega))),trivial⟩ (HSub.lst 1 rfl) (by show k+1≤kids.length;omega) (by omega)
 · skip
   refine zF J (zw (zu (zr (zj (jT J (oR 1 J (oP J (zaz (c:=(((Nd.deepL (kids.take k))+1:Nat):Int)) J J (zab (by omega) (by omega))) (oR 1 rfl (oZ rfl (zn rfl ?_))))))))))
   exact zh Tryz.results19 (.cons (zx (zl J) (Cv.eq (congrArg dI (show _=(((Nd.mk op text n mode names ms kids).deep:Nat):Int) from by simp only[Nd.deep];rw[List.take_of_length_le (by omega)];first | done | omega)))) .nil) rfl HSub.none ⟨rfl,rfl⟩
theorem deep_c:∀ q:Nd,q.cnt≤1000000→CD Tryz.prog 19 [] [Nd.d q] (isR (dN q.deep)):=Nd.ind (fun op text n mode names ms kids ih hc=>by
 simp only[Nd.cnt] at hc
 rw[Nd.d_mk]
 exact deep_s op text n mode names ms kids (fun x hx=>ih x hx (by have:=zcf hx;omega)) (by omega))
theorem mets_s (op text:ByteArray) (n mode:Int) (names:List ByteArray) (ms:List MatD) (kids:List Nd) (ih:∀ x∈kids,CD Tryz.prog 17 [] [Nd.d x] (zdV 1 9 (x.mets.map D.s))) (hc:Nd.cntL kids≤100000):
 CD Tryz.prog 17 [] [.agg [.s op,.s text,dI n,dI mode,.sh 1 (names.map D.s),.sh 3 (ms.map MatD.d),.sh 7 (kids.map Nd.d)]] (zdV 1 9 ((Nd.mk op text n mode names ms kids).mets.map D.s)):=by
 refine zp Tryz.func17 J (N:=46) J J (fun C=>?_)
 refine jk [0] J ?_
 refine JD.bd 0 J (fun bd0=>?_)
 have hkl:=zc7 kids
 refine jT J (oE J (zaY J (CellD.agg)) ?_)
 rintro _ _ ⟨g1,rfl,rfl⟩
 refine oR 1 J (oZ J (jT J (oR 1 J (oZ J (jS J (jS J (jk [1,2,3] J ?_)))))))
 refine zR 15 ((decide (op=(⟨#[115,101,108]⟩:ByteArray))&&decide (text≠ByteArray.empty))) [.bx g1 27 (.agg [.s op,.s text,dI n,dI mode,.sh 1 (names.map D.s),.sh 3 (ms.map MatD.d),.sh 7 (kids.map Nd.d)])] (fun _ hQ2=>?_) ?_
 · skip
   by_cases hg3:op=(⟨#[115,101,108]⟩:ByteArray)
   · skip
     refine zf J (oP J (zd J zaB J) (oP J (ze J (i:=0) J Tryz.isAgg9 J) (oP J (zQ J J (decide_eq_true hg3)) (oR 1 J (oG J (zd J zaA J) (oG J (ze J (i:=0) J Tryz.isAgg9 J) (oG J (zeQ J J J) (oR 1 J (zq J ?_)))))))))
     exact PD.sub ((15,dB (decide (op=(⟨#[115,101,108]⟩:ByteArray))&&decide (text≠ByteArray.empty)))::[(1,dP g1 0),(2,dZ),(3,dZ)]) ⟨sc J (Cv.eq (congrArg (fun b=>D.v (.bool b)) (by first | (simp[hg3];done) | (simp_all;done) | (simp_all;exact Iff.rfl)))),sk rfl,sk rfl,sk rfl,trivial⟩ hQ2
   · skip
     refine zf J (oP J (zd J zaB J) (oP J (ze J (i:=0) J Tryz.isAgg9 J) (oP J (zQ J J (decide_eq_false hg3)) (oR 5 J (zq J ?_)))))
     exact PD.sub ((15,dB (decide (op=(⟨#[115,101,108]⟩:ByteArray))&&decide (text≠ByteArray.empty)))::[(1,dP g1 0),(2,dZ),(3,dZ)]) ⟨sc J (Cv.eq (congrArg (fun b=>D.v (.bool b)) (by first | (simp[hg3];done) | (simp_all;done) | (simp_all;exact Iff.rfl)))),sk rfl,sk rfl,sk rfl,trivial⟩ hQ2
 · skip
   refine zj ?_
   refine zct (fun (jg:Value×List ByteArray)=>[(1,dP g1 0),(2,dZ),(3,.ov jg.1)]) (fun (jg:Value×List ByteArray)=>[.sl jg.1 1 9 (jg.2.map D.s),.bx g1 27 (.agg [.s op,.s text,dI n,dI mode,.sh 1 (names.map D.s),.sh 3 (ms.map MatD.d),.sh 7 (kids.map Nd.d)])]) (fun (jg:Value×List ByteArray)=>(jg.2=(if op=nSel∧text≠ByteArray.empty then [text] else []))) (fun _ hQ4=>?_) ?_
   · skip
     refine jC J (fun hc5=>?_) (fun hc5=>?_)
     · simp only[bA,bB,bC,bD,bE,bF,bG,bH,bI,bJ] at hc5
       have hsel:op=nSel∧text≠ByteArray.empty:=hc5
       refine zf J (oR 1 J (oP J (zd J zaA J) (oP J (ze J (i:=0) J Tryz.isAgg9 J) (oE J (Qu.ef (d:=.sh 1 ([text].map D.s)) (zy [.tmp 18] J J (.cons CellD.s .nil) J Tryz.runUnderlying23 Tryz.sizeOf9 Tryz.zeroValue9 J J J J)) ?_))))
       rintro _ _ ⟨rfl,rfl⟩
       refine oE J (ef_append_n (f:=D.s) (l':=[text]) J J (SrcD.sh) zcE zcI J J (by unfold maxLen;(try simp only[la,lc,ln,lm,lt',ld,ls,lr]);omega) (by (try simp only[la,lc,ln,lm,lt',ld,ls,lr]);omega)) ?_
       rintro _ _ ⟨v6,rfl,rfl⟩
       refine oR 1 J (zq J (pn J ?_))
       exact PD.sub [(1,dP g1 0),(2,dZ),(3,.ov v6)] (sa J) (hQ4 (v6,[text]) ((if_pos hsel).symm))
     · simp only[bA,bB,bC,bD,bE,bF,bG,bH,bI,bJ] at hc5
       have hsel:¬(op=nSel∧text≠ByteArray.empty):=by rintro ⟨a,b⟩;have h:=hc5;rcases h with h | h;exact h a;exact b h
       refine zt J (PD.subH (HSub.nil 1 9) (pn J (pn J ?_)))
       exact PD.sub [(1,dP g1 0),(2,dZ),(3,.ov (.slice none 0 0))] ⟨sk J,sk J,sc J (Cv.ov J),trivial⟩ (hQ4 ((.slice none 0 0),[]) ((if_neg hsel).symm))
   · skip
     rintro ⟨ov,o⟩ ho0
     replace ho0:o=(if op=nSel∧text≠ByteArray.empty then [text] else []):=ho0
     refine pk [1,2,3] J (pn J (zj (jS J (jT J (oP J (zd J zap J) (oP J (ze J (i:=1) J Tryz.isAgg25 J) (oP J (zbf (n:=kids.length) J Tryz.runUnderlying25 (by simp only[lm,lc,ln])) (oR 1 rfl (oZ rfl (jB rfl (jl3 (fun (a_:Nat) (b_:Value) (c_:List ByteArray)=>[(2,dZ),(22,.sh 7 (kids.map Nd.d)),(23,dN kids.length),(24,dN a_),(3,.ov b_)]) (fun a_ b_ c_=>[.sl b_ 1 9 (c_.map D.s),.bx g1 27 (.agg [.s op,.s text,dI n,dI mode,.sh 1 (names.map D.s),.sh 3 (ms.map MatD.d),.sh 7 (kids.map Nd.d)])]) (fun a_ b_ c_=>(a_≤kids.length)∧(c_=Nd.metsL (if op=nSel∧text≠ByteArray.empty then [text] else []) (kids.take a_))) (fun a_ b_ c_=>kids.length-a_) 0 ov o rfl (sa rfl) HSub.rfl' ⟨Nat.zero_le _,ho0⟩ ?_)))))))))))
     rintro k ov o ⟨hk,ho⟩
     refine ja J (jn J ?_)
     have h3q:(if op=nSel∧text≠ByteArray.empty then [text] else []).length≤1:=by split<;>simp
     have hol:o.length≤1+Nd.cntL kids:=by have h:=metsL_len (if op=nSel∧text≠ByteArray.empty then [text] else []) (kids.take k);rw[←ho] at h;have h2:=cntL_take kids k;omega
     refine jT J (oP J (zN J J J) (oZ J (jS J ?_)))
     refine jD J (fun hc7=>?_) (fun hc7=>?_)
     · skip
       refine zt J (zj (jS J (jB J (jT J ?_))))
       obtain ⟨x1,hx1⟩:=zW kids k (by omega)
       obtain ⟨yax1,ybx1,ycx1,ydx1,yex1,yfx1,ygx1⟩:=x1
       have hmcx1:=zcf (List.mem_of_getElem? hx1)
       refine oP J (zI (k:=k) J J Tryz.runUnderlying25 Tryz.sizeOf27 (by first | rfl | omega) (zK hx1)) (oP rfl (zan (d:=.agg [.s yax1,.s ybx1,dI ycx1,dI ydx1,.sh 1 (yex1.map D.s),.sh 3 (yfx1.map MatD.d),.sh 7 (Nd.ds ygx1)]) rfl Tryz.isAgg27 Tryz.sizeOf27 rfl rfl) (oE rfl (zC (zv:=(.agg #[(.string ByteArray.empty),(.string ByteArray.empty),(.int .i64 0),(.int .i64 0),(.slice none 0 0),(.slice none 0 0),(.slice none 0 0)])) Tryz.zeroValue27 ⟨rfl,rfl,rfl,rfl,rfl,rfl,rfl,trivial⟩ (Cv.vagg (by decide))) ?_))
       rintro _ _ ⟨g8,rfl,rfl⟩
       refine oE J (zi (i:=0) (X':=.agg [.s yax1,.s ybx1,dI ycx1,dI ydx1,.sh 1 (yex1.map D.s),.sh 3 (yfx1.map MatD.d),.sh 7 (Nd.ds ygx1)]) J J J (CellD.agg) Tryz.sizeOf27 J J J) ?_
       rintro _ _ ⟨rfl,rfl⟩
       refine on J (oZ J (jT J (oP J (zH (d:=.agg [.s yax1,.s ybx1,dI ycx1,dI ydx1,.sh 1 (yex1.map D.s),.sh 3 (yfx1.map MatD.d),.sh 7 (Nd.ds ygx1)]) J (i:=0) J Tryz.isAgg27 Tryz.sizeOf27 J J) (oE J (zm [] [.bx g8 27 (.agg [.s yax1,.s ybx1,dI ycx1,dI ydx1,.sh 1 (yex1.map D.s),.sh 3 (yfx1.map MatD.d),.sh 7 (Nd.ds ygx1)]),.sl ov 1 9 (o.map D.s),.bx g1 27 (.agg [.s op,.s text,dI n,dI mode,.sh 1 (names.map D.s),.sh 3 (ms.map MatD.d),.sh 7 (kids.map Nd.d)])] [] J J (.cons ArgC.id .nil) zg Tryz.call17 (ih (Nd.mk yax1 ybx1 ycx1 ydx1 yex1 yfx1 ygx1) (List.mem_of_getElem? hx1)) (.inl J)) ?_))))
       rintro _ _ ⟨_,⟨mw9,rfl,rfl⟩,rfl⟩
       refine on J (oP J (zay (n:=((Nd.mk yax1 ybx1 ycx1 ydx1 yex1 yfx1 ygx1).mets).length) (j:=0) J J Tryz.runUnderlying23 (List.length_map _)) (oR 1 J (oZ J (jB J (JD.subH (HSub.perm (zc (i:=3) J)) (jn J (JD.subH (HSub.perm (zc (i:=2) J)) (jn J (JD.subH (HSub.perm (zc (i:=2) J)) (jn J (JD.subH (HSub.perm (zc (i:=3) J)) (jn J ?_))))))))))))
       have hml:=mets_len (Nd.mk yax1 ybx1 ycx1 ydx1 yex1 yfx1 ygx1)
       refine jl3 (fun (a_:Nat) (b_:Value) (c_:List ByteArray)=>[(2,dZ),(5,dP g8 0),(22,.sh 7 (kids.map Nd.d)),(23,dN kids.length),(24,dN k),(25,dB (decide (((k:Nat):Int)<((kids.length:Nat):Int)))),(26,.el (.agg [.s yax1,.s ybx1,dI ycx1,dI ydx1,.sh 1 (yex1.map D.s),.sh 3 (yfx1.map MatD.d),.sh 7 (Nd.ds ygx1)]) 0),(27,.agg [.s yax1,.s ybx1,dI ycx1,dI ydx1,.sh 1 (yex1.map D.s),.sh 3 (yfx1.map MatD.d),.sh 7 (Nd.ds ygx1)]),(28,.agg [.s yax1,.s ybx1,dI ycx1,dI ydx1,.sh 1 (yex1.map D.s),.sh 3 (yfx1.map MatD.d),.sh 7 (Nd.ds ygx1)]),(29,.ov mw9),(30,dN (((Nd.mk yax1 ybx1 ycx1 ydx1 yex1 yfx1 ygx1).mets).length)),(31,dN a_),(3,.ov b_)]) (fun a_ b_ c_=>[.sl b_ 1 9 (c_.map D.s),.sl mw9 1 9 (((Nd.mk yax1 ybx1 ycx1 ydx1 yex1 yfx1 ygx1).mets).map D.s),.bx g8 27 (.agg [.s yax1,.s ybx1,dI ycx1,dI ydx1,.sh 1 (yex1.map D.s),.sh 3 (yfx1.map MatD.d),.sh 7 (Nd.ds ygx1)]),.bx g1 27 (.agg [.s op,.s text,dI n,dI mode,.sh 1 (names.map D.s),.sh 3 (ms.map MatD.d),.sh 7 (kids.map Nd.d)])]) (fun a_ b_ c_=>(a_≤((Nd.mk yax1 ybx1 ycx1 ydx1 yex1 yfx1 ygx1).mets).length)∧(c_=addN o ((Nd.mk yax1 ybx1 ycx1 ydx1 yex1 yfx1 ygx1).mets.take a_))∧(c_.length≤o.length+a_)) (fun a_ b_ c_=>((Nd.mk yax1 ybx1 ycx1 ydx1 yex1 yfx1 ygx1).mets).length-a_) 0 ov o J (sa J) HSub.rfl' ⟨Nat.zero_le _,J,Nat.le_refl _⟩ ?_
       rintro j w o2 ⟨hj,hin0,hol2⟩
       refine ja J (jn J (jT J (oP J (zN J J J) (oZ J (jS J ?_)))))
       refine jD J (fun hc10=>?_) (fun hc10=>?_)
       · skip
         refine zt J (zj (jS J (jB J (jT J ?_))))
         obtain ⟨x2,hx2⟩:=zW ((Nd.mk yax1 ybx1 ycx1 ydx1 yex1 yfx1 ygx1).mets) j (by omega)
         refine oP J (zT (k:=j) (j:=1) J J J Tryz.runUnderlying23 Tryz.sizeOf9 (by first | rfl | omega) (zK hx2)) (oP rfl (zaC rfl (i:=1) rfl (zK hx2) Tryz.isAgg9 rfl) (oR 1 rfl (oZ rfl (jT rfl (oR 2 rfl (oE rfl (zm [] _ [.sl w 1 9 (o2.map D.s)] rfl rfl (.cons (ArgC.own (j:=0) rfl rfl) (.cons ArgC.id .nil)) (zbt (j:=0) rfl zg) Tryz.call46 (containsS_c o2 x2) (.inr (zcA rfl))) ?_))))))
         rintro _ _ ⟨_,⟨rfl,rfl⟩,rfl⟩
         refine on J (oP J (zaZ J) (oZ J ?_))
         refine jC J (fun hc11=>?_) (fun hc11=>?_)
         · simp only[bA,bB,bC,bD,bE,bF,bG,bH,bI,bJ] at hc11
           refine zf J (oR 2 J (oE J (Qu.ef (d:=.sh 1 ([x2].map D.s)) (zy [.tmp 40] J J (.cons CellD.s .nil) J Tryz.runUnderlying23 Tryz.sizeOf9 Tryz.zeroValue9 J J J J)) ?_))
           rintro _ _ ⟨rfl,rfl⟩
           refine oE J (zP (f:=D.s) (l:=o2) (l':=[x2]) (i:=0) J J J (SrcD.sh) zcE zcI J J (by unfold maxLen;(try simp only[la,lc,ln,lm,lt',ld,ls,lr]);omega) (by (try simp only[la,lc,ln,lm,lt',ld,ls,lr]);omega)) ?_
           rintro _ _ ⟨v12,rfl,rfl⟩
           refine on J (oR 1 J (zq J (zB (zj (zf J (oP J (zaz (c:=((j+1:Nat):Int)) J J (zab (by omega) (by omega))) (oR 1 rfl (zq rfl (pn rfl ?_)))))))))
           exact pl3 (j+1) v12 (o2++[x2]) (sa J) HSub.rfl' ⟨by show j+1≤((Nd.mk yax1 ybx1 ycx1 ydx1 yex1 yfx1 ygx1).mets).length;omega,by rw[addN_snoc hx2,←hin0];exact(if_neg (by simpa using hc11)).symm,(by (try simp only[la,List.length_singleton]);omega)⟩ (by omega)
         · simp only[bA,bB,bC,bD,bE,bF,bG,bH,bI,bJ] at hc11
           refine zt J (zB (zj (zf J (oP J (zaz (c:=((j+1:Nat):Int)) J J (zab (by omega) (by omega))) (oR 1 rfl (zq rfl (pn rfl ?_)))))))
           exact pl3 (j+1) w o2 (sa J) HSub.rfl' ⟨by show j+1≤((Nd.mk yax1 ybx1 ycx1 ydx1 yex1 yfx1 ygx1).mets).length;omega,by rw[addN_snoc hx2,←hin0];exact(if_pos (by simpa using hc11)).symm,(by (try simp only[la,List.length_singleton]);omega)⟩ (by omega)
       · skip
         have hin:o2=addN o ((Nd.mk yax1 ybx1 ycx1 ydx1 yex1 yfx1 ygx1).mets.take j):=hin0
         refine zF J (zw (zu (zr (zB (zj (zf J (oP J (zaz (c:=((k+1:Nat):Int)) J J (zab (by omega) (by omega))) (oR 1 rfl (zq rfl (PD.subH (HSub.perm (zc (i:=3) rfl)) (pn rfl (PD.subH (HSub.perm (zc (i:=1) rfl)) (pn rfl (PD.subH (HSub.fst 2 rfl) (pn rfl ?_)))))))))))))))
         exact pl3 (k+1) w o2 (sa J) HSub.rfl' ⟨by show k+1≤kids.length;omega,by rw[metsL_snoc hx1,←ho];rw[hin];rw[List.take_of_length_le (by omega)]⟩ (by omega)
     · skip
       refine zF J (zw (zu (zr (zj (jT J (oR 2 J (oZ J (zn J (PD.subH (HSub.less (zd5 (i:=0) J)) (PD.subH (HSub.turn (h':=.sl ov 1 9 (((Nd.mk op text n mode names ms kids).mets).map D.s)) J (Hp.eq_sl (show List.map D.s o=List.map D.s ((Nd.mk op text n mode names ms kids).mets) from congrArg _ (by rw[ho];simp only[Nd.mets];rw[List.take_of_length_le (by omega)])))) ?_))))))))))
       exact zew Tryz.results17 (.cons (zl J) .nil) J ⟨_,J,J⟩
theorem mets_c:∀ q:Nd,q.cnt≤100000→CD Tryz.prog 17 [] [Nd.d q] (zdV 1 9 (q.mets.map D.s)):=Nd.ind (fun op text n mode names ms kids ih hc=>by
 simp only[Nd.cnt] at hc
 rw[Nd.d_mk]
 exact mets_s op text n mode names ms kids (fun x hx=>ih x hx (by have:=zcf hx;omega)) (by omega))
end Lp
