import Derived.Test.YtheccaeefigajaaGreatDoorV95
set_option linter.unusedSimpArgs false
set_option linter.unusedVariables false
set_option maxHeartbeats 4000000
set_option maxRecDepth 100000
namespace Lp
open Go Go.RowKit Go.Proofs
theorem bd_291:BdP Tryz.prog #[⟨"m",65,0,false, "", "leporello/store",0⟩,⟨"p",289,3,false, "", "leporello/store",40⟩] [(0,3),(3,1)]:=fun _=>by kernel_rfl
theorem bd_298:BdP Tryz.prog #[⟨"l",130,0,false, "", "leporello/pattern",0⟩,⟨"bad",4,1,false, "", "leporello/pattern",24⟩] [(0,1),(1,1)]:=fun _=>by kernel_rfl
theorem bd_302:BdP Tryz.prog #[⟨"text",9,0,false, "", "leporello/pattern",0⟩,⟨"steps",300,1,false, "", "leporello/pattern",16⟩,⟨"first",3,2,false, "", "leporello/pattern",40⟩] [(0,1),(1,1),(2,1)]:=fun _=>by kernel_rfl
noncomputable def patE (s:ByteArray):Int:=if 40<(zo s).length then 1 else if patR (zo s)=true then 0 else 2
theorem pat_e {s:ByteArray} {x:Pt} {s1:PR} (e:(x,s1)=altF ((zo s).length+1) ⟨zo s,false⟩):patR (zo s)=(decide ((zo s).length≤40)&&!s1.b&&decide (s1.l=[])):=by unfold patR;rw[←e]
theorem pat_long {s:ByteArray} (h:40<(zo s).length):1=patE s:=by unfold patE;rw[if_pos h]
theorem pat_bad {s:ByteArray} {x:Pt} {s1:PR} (e:(x,s1)=altF ((zo s).length+1) ⟨zo s,false⟩) (h:¬40<(zo s).length) (hb:s1.b=true∨0<s1.l.length):2=patE s:=by
 unfold patE;rw[if_neg h,if_neg];rw[pat_e e]
 rcases hb with hb | hb
 · rw[hb];simp
 · rw[decide_eq_false (List.ne_nil_of_length_pos hb)];simp
theorem pat_good {s:ByteArray} {x:Pt} {s1:PR} (e:(x,s1)=altF ((zo s).length+1) ⟨zo s,false⟩) (h:¬40<(zo s).length) (hb:s1.b=false∧s1.l.length=0):0=patE s:=by
 unfold patE;rw[if_neg h,if_pos];rw[pat_e e,hb.1,decide_eq_true (List.length_eq_zero_iff.1 hb.2),decide_eq_true (by omega)];rfl
theorem pt_facts {f:Nat} {s s':PR} {x:Pt} (e:(x,s')=altF f s):x.sz+3*s'.l.length≤3*s.l.length+2∧x.ok:=by
 have h:=altF_sz f s
 rw[←e] at h;exact h
theorem Cv.any {u:Value} (h:u.oneCell'=true):Cv (.v u) .any:=⟨fun _ _ _ e=>by rw[show _=u from e];exact h⟩
theorem Cv.oany {u:Value}:Cv (.ov u) .any:=⟨fun _ _ _ e=>by rw[e.1];exact e.2⟩
theorem runes_ok (s:ByteArray):ROk (zo s):=by
 have key:∀ (n p:Nat),s.size-p=n→ROk (zao s p):=by
  intro n
  induction n using Nat.strongRecOn with
  | _ n ih=>
   intro p hn
   by_cases hp:p<s.size
   · have hw:=zp s p
     rw[zX hp]
     intro c hc
     rcases List.mem_cons.1 hc with rfl | hc
     · have:=za9 s p;omega
     · exact ih (s.size-(p+decW s p)) (by omega) _ O c hc
   · rw[zaf (by omega)];intro c hc;cases hc
 exact key _ 0 O
theorem patE_0 (s:ByteArray):decide (patE s=0)=patR (zo s):=by
 unfold patE
 split
 · rename_i h;unfold patR;rw[decide_eq_false (by omega:¬(zo s).length≤40)];simp
 · split
   · rename_i h;rw[h];rfl
   · rename_i h;simp[h]
theorem pcompile_c (s:ByteArray) (hs:s.size≤1000000):
 CD Tryz.prog 259 [] [.s s] (fun r H'=>r=.tup [.any,dI (patE s)]∧H'=[]):=by
 refine tZ Tryz.func259 O O (fun C=>?_)
 refine T.bd 0 O (fun bd0=>?_)
 have sz0:s.size≤9223372036854775807:=bd0
 have hrl:=runesAt_len s _ 0 O
 have hrl2:(zo s).length≤s.size:=by have e:(zo s).length=(zao s 0).length:=rfl;omega
 refine g' 9 O (tX [] O O acs (Spell_c s (by omega)) ?_)
 rintro _ _ ⟨v1,rfl,rfl⟩
 refine g' 7 O (tP O (zV (n:=(zo s).length) (j:=0) O O Tryz.runUnderlying130 (List.length_map _)) (g' 3 O ?_))
 refine tD O (fun hc2=>?_) (fun hc2=>?_)
 · skip
   have hlg:=pat_long (s:=s) (by have h:=hc2;omega)
   refine g' 8 O ?_
   exact tRs O Tryz.results259 (.cons (zd (zc O) (Cv.any O)) (.cons (zd (zc O) (Cv.eq (congrArg dI hlg))) .nil)) O HSub.none ⟨O,O⟩
 · skip
   have hsh:¬40<(zo s).length:=by have h:=hc2;omega
   refine g' 3 O (T.mv (Mv.freeze (K':=[(0,.s s),(2,.v (.pointer none)),(3,dI 0),(4,.sh 1 ((zo s).map dR)),(9,.s s),(10,.sh 1 ((zo s).map dR)),(11,.sh 1 ((zo s).map dR)),(12,dN ((zo s).length)),(13,dB (decide ((40:Int)<(((zo s).length:Nat):Int))))]) [.sl v1 1 21 ((zo s).map dR)] (H1:=[]) (H1':=[]) ⟨⟨_,O,ArgC.id⟩,⟨_,O,ArgC.id⟩,⟨_,O,ArgC.id⟩,⟨_,O,ArgC.own (j:=0) O O⟩,⟨_,O,ArgC.id⟩,⟨_,O,ArgC.own (j:=0) O O⟩,⟨_,O,ArgC.own (j:=0) O O⟩,⟨_,O,ArgC.id⟩,⟨_,O,ArgC.id⟩,trivial⟩ .nil) (g' 2 O (tP O (zf [0] [.tmp 14] (zv:=(.agg #[(.slice none 0 0),(.bool false)])) O O (.cons CellD.sh .nil) (Tryz.runUnderlying298) Tryz.zeroValue298 bd_298 ⟨O,O,trivial⟩ O) ?_)))
   refine tA O (fun g3=>?_)
   refine g' 4 O ?_
   obtain ⟨z,ez⟩:∃ x:PR,x=⟨zo s,false⟩:=⟨_,rfl⟩
   have hzl:z.l=zo s:=by rw[ez]
   have hzT:ROk z.l:=by rw[hzl];exact runes_ok s
   have hzn:z.l.length=(zo s).length:=by rw[hzl]
   refine T.norm [.bx g3 298 (.agg [.sh 1 (z.l.map dR),dB z.b])] (by rw[ez]<;>rfl) (g' 2 O (tX [0] O O acs (altOk ((zo s).length+1) g3 z (by omega) (by omega) hzT) ?_))
   rintro _ _ ⟨x4,s4,e4,rfl,rfl⟩
   obtain ⟨hsz4,hok4⟩:=pt_facts e4
   rw[ez] at e4
   have kd4:s4.l.length≤1000000:=by omega
   refine gQ 11 [0] O O ?_
   refine tOr 4 6 (c:=decide ((0:Int)<((s4.l.length:Nat):Int))) O O O O O O (fun hb5 nx6=>?_) ?_
   · skip
     refine gQ 4 [0] O O (tG O (z8 (n:=s4.l.length) O Tryz.runUnderlying130 (by simp only[lm,lc,ln])) (g' 1 O ?_))
     exact nx6 _ O O (kx 6 O O)
   refine g' 2 O ?_
   refine tC O (fun hc7=>?_) (fun hc7=>?_)
   · simp only[bX,bJ] at hc7
     have hbd:=pat_bad e4 hsh (by have h:=hc7;rcases h with h | h;exact .inl h;exact .inr (by omega))
     refine g' 8 O ?_
     exact tRs O Tryz.results259 (.cons (zd (zc O) (Cv.any O)) (.cons (zd (zc O) (Cv.eq (congrArg dI hbd))) .nil)) O HSub.none ⟨O,O⟩
   · simp only[bX,bJ] at hc7
     have hgd:=pat_good e4 hsh (by have h:=hc7;exact⟨h.1,by omega⟩)
     refine g' 5 O (tP O (zf [0] [.tmp 31] (zv:=(.agg #[(.string ByteArray.empty),(.slice none 0 0),(.int .i64 0)])) O O (.cons CellD.s .nil) (Tryz.runUnderlying302) Tryz.zeroValue302 bd_302 ⟨O,O,O,trivial⟩ O) ?_)
     refine tA O (fun g8=>?_)
     refine g' 4 O (T.subH (HSub.nil 6 308) (T.front 1 O (T.subH (HSub.turn (h':=.bx g8 302 (.agg [.s s,.ov (.slice none 0 0),dI 0])) O (Hp.cv_bx (Cv.agg (gc (.cons (Cv.ov O) (gc .nil)))))) (g' 2 O (tP O (zf [2,3] [.const (.int .i64 (-1)),.const (.int .i64 (-1))] (zv:=(.agg #[(.bool false),(.bool false),(.slice none 0 0),(.bool false),(.int .i64 0),(.int .i64 0)])) O O (.cons (CellD.v O) (.cons (CellD.v O) .nil)) (Tryz.runUnderlying308) Tryz.zeroValue308 zfa ⟨O,O,O,O,O,O,trivial⟩ O) (tX [0,0] O O (ga (.cons (ArgC.cv (Cv.agg (gc (gc (.cons Cv.nil (gc (gc (gc .nil)))))))) .nil)) (ze3 g8 (.s s) (.slice none 0 0) 0 ([]:List StepD) false false [] false (-1) (-1) (by (try simp only[la,List.length_singleton,ln]);omega)) ?_))))))
     rintro _ _ ⟨mv9,rfl,rfl⟩
     have halmv9:(([]:List StepD)++[StepD.mk false false [] false (-1) (-1)]).length=([]:List StepD).length+1:=by simp only[la,List.length_singleton,ln]
     refine g' 9 O (tX [0,0] O O acs ((buildOk x4.sz) g8 (.s s) mv9 0 (([]:List StepD)++[StepD.mk false false [] false (-1) (-1)]) x4 ((([]:List StepD).length:Nat):Int) hok4 (Nat.le_refl _) (by (try simp only[la,List.length_singleton,ln]);omega)) ?_)
     rintro _ _ ⟨mv10,ys10,bi10,hba10,hbb10,rfl,rfl⟩
     refine gQ 13 [0] O O ?_
     exact tRs O Tryz.results259 (.cons (zd (zc O) (Cv.any O)) (.cons (zd (zc O) (Cv.eq (congrArg dI hgd))) .nil)) O HSub.none ⟨O,O⟩
def tstD (m:MatD):D:=.agg [.s m.n,dI m.op,.s m.v,.any]
def noMat:MatD:=⟨ByteArray.empty,0,ByteArray.empty⟩
theorem ready_c (m:MatD) (hn:m.n.size≤1000000) (hv:m.v.size≤1000000):
 CD Tryz.prog 257 [] [MatD.d m] (fun r H'=>∃ m',r=.tup [tstD m',dB (zbs m)]∧(zbs m=true→m'=m)∧H'=[]):=by
 refine tZ Tryz.func257 O O (fun C=>?_)
 refine T.bd 0 O (fun bd0=>?_)
 refine g' 2 O ?_
 refine tA O (fun g1=>?_)
 refine tA O (fun g2=>?_)
 refine gQ 8 [1] O O (tW O acs (Name_c m.n) (g' 2 O ?_))
 refine tOr 4 3 (c:=decide (m.op<(1:Int))) O O O O O O (fun hb3 nx4=>?_) ?_
 · skip
   have hf5:=notF hb3
   refine gQ 3 [1] O O ?_
   exact nx4 _ O O (kx 3 O O)
 refine g' 1 O ?_
 refine tOr 9 3 (c:=decide ((4:Int)<m.op)) O O O O O O (fun hb6 nx7=>?_) ?_
 · skip
   obtain ⟨hf8,hf9⟩:=orF hb6
   have hf10:=notF hf8
   have hf11:=of_decide_eq_false hf9
   refine gQ 3 [1] O O ?_
   exact nx7 _ O O (kx 3 O O)
 refine g' 2 O ?_
 refine tC O (fun hc12=>?_) (fun hc12=>?_)
 · simp only[bX,bJ] at hc12
   have hrd:zbs m=false:=by unfold zbs;have h:=hc12;rcases h with (h | h) | h;(rw[h];rfl);(rw[decide_eq_false (by omega:¬(1≤m.op∧m.op≤4))];simp);(rw[decide_eq_false (by omega:¬(1≤m.op∧m.op≤4))];simp)
   refine g' 2 O (tP O (zf [] [] (zv:=(.agg #[(.string ByteArray.empty),(.int .i64 0),(.string ByteArray.empty),(.pointer none)])) O O (.nil) (Tryz.runUnderlying291) Tryz.zeroValue291 bd_291 ⟨O,O,O,O,trivial⟩ O) (gQ 6 [0] O O ?_))
   exact tRs O Tryz.results257 (.cons (zd (zh (X:=.agg [.v (.string ByteArray.empty),dI 0,.v (.string ByteArray.empty),.v (.pointer none)]) (d:=.agg [.v (.string ByteArray.empty),dI 0,.v (.string ByteArray.empty),.v (.pointer none)]) (i:=0) O O Tryz.isAgg291 Tryz.sizeOf291 O O) (Cv.agg (.cons cS (gc (.cons cS (.cons (Cv.any O) .nil)))))) (.cons (zd (zc O) (Cv.eq (congrArg dB hrd.symm))) .nil)) O HSub.none ⟨noMat,O,(fun h=>by rw[hrd] at h;cases h),O⟩
 · simp only[bX,bJ] at hc12
   have hgd:zbN m.n=true∧(1≤m.op∧m.op≤4):=by have h:=hc12;exact⟨h.1.1,by omega⟩
   refine gQ 10 [1] O O ?_
   refine tD O (fun hc13=>?_) (fun hc13=>?_)
   · skip
     have hrd:zbs m=true:=by unfold zbs;rw[hgd.1,decide_eq_true hgd.2,decide_eq_true (by have h:=hc13;omega:m.op<3)];rfl
     refine gQ 3 [1] O O (tP O (zf [0] [.tmp 24] (zv:=(.agg #[(.string ByteArray.empty),(.int .i64 0),(.string ByteArray.empty),(.pointer none)])) O O (.cons CellD.agg .nil) (Tryz.runUnderlying291) Tryz.zeroValue291 bd_291 ⟨O,O,O,O,trivial⟩ O) (gQ 6 [0] O O ?_))
     exact tRs O Tryz.results257 (.cons (zd (zh (X:=.agg [.s m.n,dI m.op,.s m.v,.v (.pointer none)]) (d:=.agg [.s m.n,dI m.op,.s m.v,.v (.pointer none)]) (i:=0) O O Tryz.isAgg291 Tryz.sizeOf291 O O) (Cv.agg (gc (gc (gc (.cons (Cv.any O) .nil)))))) (.cons (zd (zc O) (Cv.eq (congrArg dB (hrd.symm)))) .nil)) O HSub.none ⟨m,O,(fun _=>rfl),O⟩
   · skip
     have hrd:zbs m=patR (zo m.v):=by unfold zbs;rw[hgd.1,decide_eq_true hgd.2,decide_eq_false (by have h:=hc13;omega:¬m.op<3)];simp
     refine gQ 6 [1] O O (tW O acs (pcompile_c m.v (by omega)) (gQ 11 [1] O O (tP O (zf [0,1] [.tmp 32,.tmp 33] (zv:=(.agg #[(.string ByteArray.empty),(.int .i64 0),(.string ByteArray.empty),(.pointer none)])) O O (.cons CellD.agg (.cons CellD.any .nil)) (Tryz.runUnderlying291) Tryz.zeroValue291 bd_291 ⟨O,O,O,O,trivial⟩ O) (gQ 7 [0] O O ?_))))
     exact tRs O Tryz.results257 (.cons (zd (zh (X:=.agg [.s m.n,dI m.op,.s m.v,.any]) (d:=.agg [.s m.n,dI m.op,.s m.v,.any]) (i:=0) O O Tryz.isAgg291 Tryz.sizeOf291 O O) (Cv.agg (gc (gc (gc (gc .nil)))))) (.cons (zd (zc O) (Cv.eq (congrArg dB ((patE_0 m.v).trans hrd.symm)))) .nil)) O HSub.none ⟨m,O,(fun _=>rfl),O⟩
end Lp
set_option linter.unusedSimpArgs false
set_option linter.unusedVariables false
set_option maxHeartbeats 4000000
set_option maxRecDepth 100000
namespace Lp
open Go Go.RowKit Go.Proofs
theorem bd_268:BdP Tryz.prog #[⟨"of",266,0,false, "", "leporello/window",0⟩] [(0,1)]:=fun _=>by kernel_rfl
theorem bd_271:BdP Tryz.prog #[⟨"of",269,0,false, "", "leporello/window",0⟩] [(0,1)]:=fun _=>by kernel_rfl
theorem bd_273:BdP Tryz.prog #[⟨"each",4,0,false, "", "leporello/window",0⟩] [(0,1)]:=fun _=>by kernel_rfl
theorem infz_291:IzP Tryz.prog 291 (.agg #[(.string ByteArray.empty),(.int .i64 0),(.string ByteArray.empty),(.pointer none)]) 4 48:=zcs (by kernel_rfl)
theorem und_282:Tryz.prog.underlying 282=some (.slice 291):=by kernel_rfl
theorem rm_bad {m:List MatD} {k:Nat} {x:MatD} (hx:m[k]?=some x) (h:zbs x=false):false=rmD m:=by
 unfold rmD
 rw[List.all_eq_false.2 ⟨x,List.mem_of_getElem? hx,by rw[h];simp⟩];rfl
theorem rm_end {m:List MatD} {k:Nat} (h:(m.take k).all zbs=true) (hk:m.length≤k):decide (((m.length:Nat):Int)≤10)=rmD m:=by
 rw[List.take_of_length_le hk] at h
 unfold rmD;rw[h,Bool.true_and];exact decide_eq_decide.2 (by omega)
theorem all_c (m:List MatD) (hl:m.length≤2000000) (hm:∀ x∈m,x.n.size≤1000∧x.v.size≤1000):
 CD Tryz.prog 252 [] [.sh 3 (m.map MatD.d)] (fun r H'=>r=.tup [.any,dB (rmD m)]∧H'=[]):=by
 refine tZ Tryz.func252 O O (fun C=>?_)
 refine T.bd 0 O (fun bd0=>?_)
 have nl0:=zbK bd0
 refine g' 15 O (tP O (z8 (n:=m.length) O Tryz.runUnderlying24 (by simp only[lm,lc,ln])) (g' 4 O (tl3 (fun (a_:Nat) (b_:Value) (c_:List MatD)=>[(0,.sh 3 (m.map MatD.d)),(9,.sh 3 (m.map MatD.d)),(10,dN m.length),(11,dN a_),(4,.ov b_)]) (fun a_ b_ c_=>[.sl b_ 4 291 (c_.map tstD)]) (fun a_ b_ c_=>(a_≤m.length)∧((m.take a_).all zbs=true)∧(c_.length≤a_)) (fun a_ b_ c_=>m.length-a_) 0 (.slice none 0 0) [] O ⟨sk O,sk O,sk O,sk O,sc O (Cv.ov O),trivial⟩ (HSub.nil 4 291) ⟨Nat.zero_le _,O,Nat.le_refl _⟩ ?_)))
 rintro k ov o ⟨hk,ho,hol⟩
 refine g' 6 O ?_
 refine tD O (fun hc1=>?_) (fun hc1=>?_)
 · skip
   refine g' 6 O ?_
   obtain ⟨x1,hx1⟩:=zN m k (by omega)
   have hmx:=hm x1 (List.mem_of_getElem? hx1)
   refine tP O (zr (k:=k) O O Tryz.runUnderlying24 Tryz.sizeOf65 (by first | rfl | omega) (zI hx1)) (g' 1 O ?_)
   refine tA O (fun g2=>?_)
   refine gQ 6 [0,0] O O (tX [] O O acs (ready_c x1 (by omega) (by omega)) ?_)
   rintro _ _ ⟨tm3,rfl,hqtm3,rfl⟩
   refine g' 3 O ?_
   refine tA O (fun g4=>?_)
   refine gQ 11 [0] O O ?_
   refine tC O (fun hc5=>?_) (fun hc5=>?_)
   · simp only[bX,bJ] at hc5
     refine g' 13 O ?_
     exact tRs O Tryz.results252 (.cons (zd (zc O) (Cv.any O)) (.cons (zd (zc O) (Cv.eq (congrArg dB (rm_bad hx1 (by simpa using hc5))))) .nil)) O HSub.none ⟨O,O⟩
   · simp only[bX,bJ] at hc5
     refine gQ 5 [0] O O (tE O (zE [.tmp 23] O O (.cons CellD.agg .nil) O Tryz.runUnderlying282 Tryz.sizeOf291 Tryz.zeroValue291 O O O O) ?_)
     rintro _ _ ⟨g6,rfl,rfl⟩
     refine tE O (zz (f:=tstD) (l:=o) (l':=[tm3]) (i:=3) O O O (SrcD.own (j:=0) O O) und_282 infz_291 O O (by unfold maxLen;(try simp only[la,lc,ln,lm,lt',ld,ls,lr]);omega) (by (try simp only[la,lc,ln,lm,lt',ld,ls,lr]);omega)) ?_
     rintro _ _ ⟨v7,rfl,rfl⟩
     refine g' 5 O (tP O (zy (c:=((k+1:Nat):Int)) O O (zn (by omega) (by omega))) (g' 2 O (T.front 3 O (T.subH (HSub.fst 1 O) ?_))))
     exact tp3 (k+1) v7 (o++[tm3]) (sa O) HSub.rfl' ⟨by show k+1≤m.length;omega,by rw[zbZ hx1,List.all_append,ho];simpa using hc5,by simp only[la,List.length_singleton];omega⟩ (by omega)
 · skip
   refine g' 9 O (tP O (z8 (n:=m.length) O Tryz.runUnderlying24 (by simp only[lm,lc,ln])) (g' 6 O ?_))
   exact tRs O Tryz.results252 (.cons (zd (zc O) (Cv.oany)) (.cons (zd (zc O) (Cv.eq (congrArg dB (rm_end ho (by omega))))) .nil)) O HSub.none ⟨O,O⟩
theorem rightM_c (m:List MatD) (hl:m.length≤2000000) (hm:∀ x∈m,x.n.size≤1000∧x.v.size≤1000):
 CD Tryz.prog 245 [] [.sh 3 (m.map MatD.d)] (isR (dB (rmD m))):=by
 refine tZ Tryz.func245 O O (fun C=>?_)
 refine T.bd 0 O (fun bd0=>?_)
 have nl0:=zbK bd0
 refine g' 8 O (tW O acs (all_c m (by omega) hm) (g' 14 O ?_))
 exact tR O HSub.none ⟨O,O⟩
theorem aggs_c  :
 CD Tryz.prog 93 [] [] (isOwn 1 9 (aggN.map D.s)):=by
 refine tZ Tryz.func93 O O (fun C=>?_)
 refine g' 7 O (tE O (zE [.const (.string (⟨#[115,117,109]⟩:ByteArray)),.const (.string (⟨#[109,105,110]⟩:ByteArray)),.const (.string (⟨#[109,97,120]⟩:ByteArray)),.const (.string (⟨#[99,111,117,110,116]⟩:ByteArray)),.const (.string (⟨#[97,118,103]⟩:ByteArray)),.const (.string (⟨#[116,111,112,107]⟩:ByteArray)),.const (.string (⟨#[113,117,97,110,116,105,108,101]⟩:ByteArray))] O O (.cons (CellD.v O) (.cons (CellD.v O) (.cons (CellD.v O) (.cons (CellD.v O) (.cons (CellD.v O) (.cons (CellD.v O) (.cons (CellD.v O) .nil))))))) O Tryz.runUnderlying23 Tryz.sizeOf9 Tryz.zeroValue9 O O O O) ?_)
 rintro _ _ ⟨g1,rfl,rfl⟩
 refine g' 4 O (T.subH (HSub.turn (h':=.sl (vS g1 7 7) 1 9 ([(⟨#[115,117,109]⟩:ByteArray),(⟨#[109,105,110]⟩:ByteArray),(⟨#[109,97,120]⟩:ByteArray),(⟨#[99,111,117,110,116]⟩:ByteArray),(⟨#[97,118,103]⟩:ByteArray),(⟨#[116,111,112,107]⟩:ByteArray),(⟨#[113,117,97,110,116,105,108,101]⟩:ByteArray)].map D.s)) O (Hp.cvs_sl (.cons cS (.cons cS (.cons cS (.cons cS (.cons cS (.cons cS (.cons cS .nil))))))))) (T.subH (HSub.less (sub_one (i:=0) O)) (T.subH (HSub.turn (h':=.sl (vS g1 7 7) 1 9 (aggN.map D.s)) O (Hp.eq_sl (show List.map D.s [(⟨#[115,117,109]⟩:ByteArray),(⟨#[109,105,110]⟩:ByteArray),(⟨#[109,97,120]⟩:ByteArray),(⟨#[99,111,117,110,116]⟩:ByteArray),(⟨#[97,118,103]⟩:ByteArray),(⟨#[116,111,112,107]⟩:ByteArray),(⟨#[113,117,97,110,116,105,108,101]⟩:ByteArray)]=List.map D.s aggN from congrArg _ (by rfl)))) ?_)))
 exact tR O HSub.rfl' ⟨_,O,O⟩
theorem Agg_c (name:ByteArray) :
 CD Tryz.prog 29 [] [.s name] (isR (dB (hasN aggN name))):=by
 refine tZ Tryz.func29 O O (fun C=>?_)
 refine T.bd 0 O (fun bd0=>?_)
 have sz0:name.size≤9223372036854775807:=bd0
 refine g' 7 O (tX [] O O acs (aggs_c) ?_)
 rintro _ _ ⟨v1,rfl,rfl⟩
 refine g' 1 O (tV [0] O O (.cons (ArgC.own (j:=0) O O) (ga .nil)) (containsS_c aggN name) O (g' 4 O ?_))
 exact tR O HSub.none ⟨O,O⟩
theorem fnN_no {t:ByteArray} (h0:¬t=⟨#[115,117,109,95,111,118,101,114]⟩) (h1:¬t=⟨#[97,118,103,95,111,118,101,114]⟩) (h2:¬t=⟨#[109,105,110,95,111,118,101,114]⟩) (h3:¬t=⟨#[109,97,120,95,111,118,101,114]⟩) (h4:¬t=⟨#[99,111,117,110,116,95,111,118,101,114]⟩) (h5:¬t=⟨#[108,97,115,116,95,111,118,101,114]⟩) (h6:¬t=⟨#[105,110,99,114,101,97,115,101]⟩) (h7:¬t=⟨#[114,97,116,101]⟩):hasN fnN t=false:=by
 unfold hasN fnN
 simp only[List.any_cons,List.any_nil,Bool.or_false,Bool.or_eq_false_iff,decide_eq_false_iff_not]
 exact⟨Ne.symm h0,Ne.symm h1,Ne.symm h2,Ne.symm h3,Ne.symm h4,Ne.symm h5,Ne.symm h6,Ne.symm h7⟩
theorem winfn_c (name:ByteArray) :
 CD Tryz.prog 231 [] [.s name] (fun r H'=>((∃ t x,r=.ifc t x∧hasN fnN name=true)∨(r=.v .nilIface∧hasN fnN name=false))∧H'=[]):=by
 refine tZ Tryz.func231 O O (fun C=>?_)
 refine T.bd 0 O (fun bd0=>?_)
 have sz0:name.size≤9223372036854775807:=bd0
 refine g' 18 O ?_
 refine tD O (fun hc1=>?_) (fun hc1=>?_)
 · skip
   refine g' 2 O (tP O (zf [0] [.func 238] (zv:=(.agg #[.nilFunc])) O O (.cons CellD.fn .nil) (Tryz.runUnderlying268) Tryz.zeroValue268 bd_268 ⟨O,trivial⟩ O) (g' 7 O ?_))
   exact tR O HSub.none ⟨.inl ⟨268,_,O,by rw[hc1];decide⟩,O⟩
 · skip
   refine g' 6 O ?_
   refine tD O (fun hc2=>?_) (fun hc2=>?_)
   · skip
     refine g' 2 O (tP O (zf [0] [.func 239] (zv:=(.agg #[.nilFunc])) O O (.cons CellD.fn .nil) (Tryz.runUnderlying268) Tryz.zeroValue268 bd_268 ⟨O,trivial⟩ O) (g' 7 O ?_))
     exact tR O HSub.none ⟨.inl ⟨268,_,O,by rw[hc2];decide⟩,O⟩
   · skip
     refine g' 6 O ?_
     refine tD O (fun hc3=>?_) (fun hc3=>?_)
     · skip
       refine g' 2 O (tP O (zf [0] [.func 240] (zv:=(.agg #[.nilFunc])) O O (.cons CellD.fn .nil) (Tryz.runUnderlying271) Tryz.zeroValue271 bd_271 ⟨O,trivial⟩ O) (g' 7 O ?_))
       exact tR O HSub.none ⟨.inl ⟨271,_,O,by rw[hc3];decide⟩,O⟩
     · skip
       refine g' 6 O ?_
       refine tD O (fun hc4=>?_) (fun hc4=>?_)
       · skip
         refine g' 2 O (tP O (zf [0] [.func 241] (zv:=(.agg #[.nilFunc])) O O (.cons CellD.fn .nil) (Tryz.runUnderlying271) Tryz.zeroValue271 bd_271 ⟨O,trivial⟩ O) (g' 7 O ?_))
         exact tR O HSub.none ⟨.inl ⟨271,_,O,by rw[hc4];decide⟩,O⟩
       · skip
         refine g' 6 O ?_
         refine tD O (fun hc5=>?_) (fun hc5=>?_)
         · skip
           refine g' 2 O (tP O (zf [0] [.func 242] (zv:=(.agg #[.nilFunc])) O O (.cons CellD.fn .nil) (Tryz.runUnderlying271) Tryz.zeroValue271 bd_271 ⟨O,trivial⟩ O) (g' 7 O ?_))
           exact tR O HSub.none ⟨.inl ⟨271,_,O,by rw[hc5];decide⟩,O⟩
         · skip
           refine g' 6 O ?_
           refine tD O (fun hc6=>?_) (fun hc6=>?_)
           · skip
             refine g' 2 O (tP O (zf [0] [.func 243] (zv:=(.agg #[.nilFunc])) O O (.cons CellD.fn .nil) (Tryz.runUnderlying271) Tryz.zeroValue271 bd_271 ⟨O,trivial⟩ O) (g' 7 O ?_))
             exact tR O HSub.none ⟨.inl ⟨271,_,O,by rw[hc6];decide⟩,O⟩
           · skip
             refine g' 6 O ?_
             refine tD O (fun hc7=>?_) (fun hc7=>?_)
             · skip
               refine g' 2 O (tP O (zf [] [] (zv:=(.agg #[(.bool false)])) O O (.nil) (Tryz.runUnderlying273) Tryz.zeroValue273 bd_273 ⟨O,trivial⟩ O) (g' 7 O ?_))
               exact tR O HSub.none ⟨.inl ⟨273,_,O,by rw[hc7];decide⟩,O⟩
             · skip
               refine g' 6 O ?_
               refine tD O (fun hc8=>?_) (fun hc8=>?_)
               · skip
                 refine g' 2 O (tP O (zf [0] [.const (.bool true)] (zv:=(.agg #[(.bool false)])) O O (.cons (CellD.v O) .nil) (Tryz.runUnderlying273) Tryz.zeroValue273 bd_273 ⟨O,trivial⟩ O) (g' 7 O ?_))
                 exact tR O HSub.none ⟨.inl ⟨273,_,O,by rw[hc8];decide⟩,O⟩
               · skip
                 refine g' 9 O ?_
                 exact tR O HSub.none ⟨.inr ⟨O,fnN_no hc1 hc2 hc3 hc4 hc5 hc6 hc7 hc8⟩,O⟩
theorem CD.to {P:Program} {f:FuncId} {H:List Hp} {ds:List D} {R R':D→List Hp→Prop} (h:CD P f H ds R) (k:∀ r H',R r H'→R' r H'):CD P f H ds R':=
 ⟨fun w F vs h1 h2 h3=>(h.out w F vs h1 h2 h3).mono (by rintro e w' ⟨u,he,F',d,H',hR,hr,hg⟩;exact⟨u,he,F',d,H',k _ _ hR,hr,hg⟩)⟩
theorem winfn_t {name:ByteArray} (h:hasN fnN name=true):CD Tryz.prog 231 [] [.s name] (fun r H'=>∃ t x,r=.ifc t x∧H'=[]):=(winfn_c name).to (by
 rintro r H' ⟨⟨t,x,e,_⟩ | ⟨_,e⟩,e2⟩
 · exact⟨t,x,e,e2⟩
 · rw[h] at e;cases e)
theorem winfn_f {name:ByteArray} (h:hasN fnN name=false):CD Tryz.prog 231 [] [.s name] (fun r H'=>r=.v .nilIface∧H'=[]):=(winfn_c name).to (by
 rintro r H' ⟨⟨t,x,_,e⟩ | ⟨e,_⟩,e2⟩
 · rw[h] at e;cases e
 · exact⟨e,e2⟩)
theorem p_ifc_ne {ty t t':TypeId} {K:Kd} {H:List Hp} {x y:Operand} {T:TypeId} {d:D} (hx:opD K x=some (.ifc T d)) (hy:y=.const .nilIface) (ht:t=20):Pu Tryz.prog (.binOp .neq t x y t') ty K H (dB true):=
 ⟨fun ρ F0 F hk _ _=>by
  subst hy;subst ht
  obtain ⟨u,e,_⟩:=hk.op hx
  exact zcA (zj ρ [x,.const .nilIface]) (zbp ρ e) (zbo ρ O) (fun w=>by kernel_rfl) ⟨O,O⟩⟩
theorem Fn_c (name:ByteArray) :
 CD Tryz.prog 221 [] [.s name] (isR (dB (hasN fnN name))):=by
 refine tZ Tryz.func221 O O (fun C=>?_)
 refine T.bd 0 O (fun bd0=>?_)
 have sz0:name.size≤9223372036854775807:=bd0
 rcases Bool.eq_false_or_eq_true (hasN fnN name) with hw | hw
 · skip
   refine g' 8 O (tX [] O O acs (winfn_t hw) ?_)
   rintro _ _ ⟨tw,xw,rfl,rfl⟩
   refine tP O (p_ifc_ne O O O) (g' 4 O ?_)
   exact tRs O Tryz.results221 (.cons (zd (zc O) (cB ((by rw[hw])))) .nil) O HSub.none ⟨O,O⟩
 · skip
   refine g' 8 O (tW O acs (winfn_f hw) (tP O (zdU (r:=.bool false) O O (fun _=>by kernel_rfl)) (g' 4 O ?_)))
   exact tRs O Tryz.results221 (.cons (zd (zc O) (cB ((by rw[hw])))) .nil) O HSub.none ⟨O,O⟩
theorem kept_c (s:ByteArray) :
 CD Tryz.prog 232 [] [.s s] (isR (dB (zdc s))):=by
 refine tZ Tryz.func232 O O (fun C=>?_)
 refine T.bd 0 O (fun bd0=>?_)
 have sz0:s.size≤9223372036854775807:=bd0
 refine g' 8 O (tW O acs (Agg_c s) (g' 1 O ?_))
 refine tOr 2 2 (c:=hasN fnN s) O O O O O O (fun hb1 nx2=>?_) ?_
 · skip
   refine g' 1 O (tW O acs (Fn_c s) ?_)
   exact nx2 _ O O (kx 2 O O)
 refine g' 1 O ?_
 refine tOr 6 3 (c:=hasN [(⟨#[111,114,100,101,114]⟩:ByteArray),(⟨#[108,105,109,105,116]⟩:ByteArray),(⟨#[111,102,102,115,101,116]⟩:ByteArray),(⟨#[97,115,99]⟩:ByteArray),(⟨#[100,101,115,99]⟩:ByteArray),(⟨#[111,110]⟩:ByteArray),(⟨#[105,103,110,111,114,105,110,103]⟩:ByteArray),(⟨#[98,121]⟩:ByteArray),(⟨#[119,105,116,104,111,117,116]⟩:ByteArray)] s) O O O O O O (fun hb3 nx4=>?_) ?_
 · skip
   obtain ⟨hf5,hf6⟩:=orF hb3
   refine tF O (Qu.ef (d:=.sh 1 ([(⟨#[111,114,100,101,114]⟩:ByteArray),(⟨#[108,105,109,105,116]⟩:ByteArray),(⟨#[111,102,102,115,101,116]⟩:ByteArray),(⟨#[97,115,99]⟩:ByteArray),(⟨#[100,101,115,99]⟩:ByteArray),(⟨#[111,110]⟩:ByteArray),(⟨#[105,103,110,111,114,105,110,103]⟩:ByteArray),(⟨#[98,121]⟩:ByteArray),(⟨#[119,105,116,104,111,117,116]⟩:ByteArray)].map D.s)) ((ze [.const (.string (⟨#[111,114,100,101,114]⟩:ByteArray)),.const (.string (⟨#[108,105,109,105,116]⟩:ByteArray)),.const (.string (⟨#[111,102,102,115,101,116]⟩:ByteArray)),.const (.string (⟨#[97,115,99]⟩:ByteArray)),.const (.string (⟨#[100,101,115,99]⟩:ByteArray)),.const (.string (⟨#[111,110]⟩:ByteArray)),.const (.string (⟨#[105,103,110,111,114,105,110,103]⟩:ByteArray)),.const (.string (⟨#[98,121]⟩:ByteArray)),.const (.string (⟨#[119,105,116,104,111,117,116]⟩:ByteArray))] O O (.cons (CellD.v O) (.cons (CellD.v O) (.cons (CellD.v O) (.cons (CellD.v O) (.cons (CellD.v O) (.cons (CellD.v O) (.cons (CellD.v O) (.cons (CellD.v O) (.cons (CellD.v O) .nil))))))))) O Tryz.runUnderlying23 Tryz.sizeOf9 Tryz.zeroValue9 O O O O).cv (Cv.shs (.cons cS (.cons cS (.cons cS (.cons cS (.cons cS (.cons cS (.cons cS (.cons cS (.cons cS .nil)))))))))))) ?_
   rintro _ _ ⟨rfl,rfl⟩
   refine g' 1 O (tW O acs (containsS_c [(⟨#[111,114,100,101,114]⟩:ByteArray),(⟨#[108,105,109,105,116]⟩:ByteArray),(⟨#[111,102,102,115,101,116]⟩:ByteArray),(⟨#[97,115,99]⟩:ByteArray),(⟨#[100,101,115,99]⟩:ByteArray),(⟨#[111,110]⟩:ByteArray),(⟨#[105,103,110,111,114,105,110,103]⟩:ByteArray),(⟨#[98,121]⟩:ByteArray),(⟨#[119,105,116,104,111,117,116]⟩:ByteArray)] s) ?_)
   exact nx4 _ O O (kx 3 O O)
 refine g' 4 O ?_
 exact tRs O Tryz.results232 (.cons (zd (zc O) (cB ((by rfl)))) .nil) O HSub.none ⟨O,O⟩
theorem numbered_c (name:ByteArray) :
 CD Tryz.prog 146 [] [.s name] (isR (dB (zar name))):=by
 refine tZ Tryz.func146 O O (fun C=>?_)
 refine T.bd 0 O (fun bd0=>?_)
 have sz0:name.size≤9223372036854775807:=bd0
 refine g' 10 O ?_
 refine tOr 2 2 (c:=decide (name=(⟨#[113,117,97,110,116,105,108,101]⟩:ByteArray))) O O O O O O (fun hb1 nx2=>?_) ?_
 · skip
   have hf3:=of_decide_eq_false hb1
   refine g' 2 O ?_
   exact nx2 _ O O (kx 2 O O)
 refine g' 4 O ?_
 exact tRs O Tryz.results146 (.cons (zd (zc O) (cB ((by rfl)))) .nil) O HSub.none ⟨O,O⟩
theorem op_idx (t:ByteArray):(idxN t 0 [tEq,tNe,zcw,zaW]+1:Int)=opM t:=by
 unfold opM
 by_cases h1:t=tEq
 · rw[if_pos h1,h1];decide
 · by_cases h2:t=tNe
   · rw[if_neg h1,if_pos h2,h2];decide
   · by_cases h3:t=zcw
     · rw[if_neg h1,if_neg h2,if_pos h3,h3];decide
     · by_cases h4:t=zaW
       · rw[if_neg h1,if_neg h2,if_neg h3,if_pos h4,h4];decide
       · rw[if_neg h1,if_neg h2,if_neg h3,if_neg h4]
         simp only[idxN,if_neg h1,if_neg h2,if_neg h3,if_neg h4];rfl
theorem op_bd (t:ByteArray): -1≤idxN t 0 [tEq,tNe,zcw,zaW]∧idxN t 0 [tEq,tNe,zcw,zaW]≤3:=by
 have h:=op_idx t
 have h2:0≤opM t∧opM t≤4:=by unfold opM;repeat' split
                             all_goals omega
 omega
theorem opM_c (s:ByteArray) :
 CD Tryz.prog 244 [] [.s s] (isR (dI (opM s))):=by
 refine tZ Tryz.func244 O O (fun C=>?_)
 refine T.bd 0 O (fun bd0=>?_)
 have sz0:s.size≤9223372036854775807:=bd0
 have hob: -1≤idxN s 0 [(⟨#[61]⟩:ByteArray),(⟨#[33,61]⟩:ByteArray),(⟨#[61,126]⟩:ByteArray),(⟨#[33,126]⟩:ByteArray)]∧idxN s 0 [(⟨#[61]⟩:ByteArray),(⟨#[33,61]⟩:ByteArray),(⟨#[61,126]⟩:ByteArray),(⟨#[33,126]⟩:ByteArray)]≤3:=op_bd s
 refine g' 7 O (tE O (Qu.ef (d:=.sh 1 ([(⟨#[61]⟩:ByteArray),(⟨#[33,61]⟩:ByteArray),(⟨#[61,126]⟩:ByteArray),(⟨#[33,126]⟩:ByteArray)].map D.s)) ((ze [.const (.string (⟨#[61]⟩:ByteArray)),.const (.string (⟨#[33,61]⟩:ByteArray)),.const (.string (⟨#[61,126]⟩:ByteArray)),.const (.string (⟨#[33,126]⟩:ByteArray))] O O (.cons (CellD.v O) (.cons (CellD.v O) (.cons (CellD.v O) (.cons (CellD.v O) .nil)))) O Tryz.runUnderlying23 Tryz.sizeOf9 Tryz.zeroValue9 O O O O).cv (Cv.shs (.cons cS (.cons cS (.cons cS (.cons cS .nil))))))) ?_)
 rintro _ _ ⟨rfl,rfl⟩
 refine g' 1 O (tW O acs (indexS_c [(⟨#[61]⟩:ByteArray),(⟨#[33,61]⟩:ByteArray),(⟨#[61,126]⟩:ByteArray),(⟨#[33,126]⟩:ByteArray)] s) (tP O (zy (c:=(idxN s 0 [(⟨#[61]⟩:ByteArray),(⟨#[33,61]⟩:ByteArray),(⟨#[61,126]⟩:ByteArray),(⟨#[33,126]⟩:ByteArray)]+1)) O O (zn (by omega) (by omega))) (g' 4 O ?_)))
 exact tRs O Tryz.results244 (.cons (zd (zc O) (Cv.eq (congrArg (fun n=>D.v (.int .i64 n)) (by exact op_idx s)))) .nil) O HSub.none ⟨O,O⟩
end Lp
set_option linter.unusedSimpArgs false
set_option linter.unusedVariables false
set_option maxHeartbeats 4000000
set_option maxRecDepth 100000
namespace Lp
open Go Go.RowKit Go.Proofs
theorem zdd:BdP Tryz.prog #[⟨"Op",9,0,false, "", "",0⟩,⟨"Text",9,1,false, "", "",16⟩,⟨"N",3,2,false, "", "",32⟩,⟨"Mode",3,3,false, "", "",40⟩,⟨"Names",23,4,false, "", "",48⟩,⟨"Matchers",24,5,false, "", "",72⟩,⟨"Kids",25,6,false, "", "",96⟩] [(0,1),(1,1),(2,1),(3,1),(4,1),(5,1),(6,1)]:=fun _=>by kernel_rfl
theorem bd_65:BdP Tryz.prog #[⟨"Name",9,0,false, "", "",0⟩,⟨"Op",3,1,false, "", "",16⟩,⟨"Value",9,2,false, "", "",24⟩] [(0,1),(1,1),(2,1)]:=fun _=>by kernel_rfl
theorem infz_65:IzP Tryz.prog 65 (.agg #[(.string ByteArray.empty),(.int .i64 0),(.string ByteArray.empty)]) 3 40:=zcs (by kernel_rfl)
theorem und_24:Tryz.prog.underlying 24=some (.slice 65):=by kernel_rfl
theorem snoc_all {α:Type} {p:α→Prop} {l:List α} {x:α} (h:∀ y∈l,p y) (hx:p x):∀ y∈l++[x],p y:=fun y hy=>by
 rcases List.mem_append.1 hy with k | k
 · exact h y k
 · rw[List.mem_singleton.1 k];exact hx
theorem braces_c (g:Nat) (s:Rd) (hw:s.n+2*(s.l.length:Int)≤3000000) (hn:0≤s.n) (hT:TOk s.l):
 CD Tryz.prog 233 [RB g s] [dP g 0] (fun r H'=>∃ l s',(l,s')=s.braces rmD∧r=.sh 3 (l.map MatD.d)∧H'=[RB g s']):=by
 refine tZ Tryz.func233 O O (fun C=>?_)
 refine g' 13 O (tX [0] O O (ga (.cons (ArgC.cv cS) .nil)) (zbP g s (⟨#[123]⟩:ByteArray) (by omega) (by omega) hT) ?_)
 rintro _ _ ⟨s1,e1,rfl,rfl⟩
 obtain ⟨ka1,kb1,kc1,hT1⟩:=(zah e1).out hT
 refine g' 6 O (tE O (Qu.ef (d:=.sh 1 ([(⟨#[125]⟩:ByteArray)].map D.s)) ((ze [.const (.string (⟨#[125]⟩:ByteArray))] O O (.cons (CellD.v O) .nil) O Tryz.runUnderlying23 Tryz.sizeOf9 Tryz.zeroValue9 O O O O).cv (Cv.shs (.cons cS .nil)))) ?_)
 rintro _ _ ⟨rfl,rfl⟩
 refine tX [0] O O acs (is_c g s1 5 [(⟨#[125]⟩:ByteArray)] (by omega) (by omega) hT1) ?_
 rintro _ _ ⟨rfl,rfl⟩
 refine g' 2 O ?_
 refine tC O (fun hc3=>?_) (fun hc3=>?_)
 · skip
   refine g' 3 O (tX [0] O O (ga (.cons (ArgC.cv cS) .nil)) (zbP g s1 (⟨#[125]⟩:ByteArray) (by omega) (by omega) hT1) ?_)
   rintro _ _ ⟨s4,e4,rfl,rfl⟩
   obtain ⟨ka4,kb4,kc4,hT4⟩:=(zah e4).out hT1
   refine g' 9 O ?_
   exact tRs O Tryz.results233 (.cons (zd (zc O) (Cv.nil)) .nil) O (HSub.fst 1 O) ⟨[],⟨s4.l,s4.n,s4.b⟩,braces_0 rmD e1 hc3 e4,O,O⟩
 · skip
   refine g' 4 O (tl4 (fun (a_:Nat) (b_:Rd) (c_:Value) (d_:List MatD)=>[(0,dP g 0),(2,dZ),(3,.ov c_)]) (fun a_ b_ c_ d_=>[.sl c_ 3 65 (d_.map MatD.d),RB g b_]) (fun a_ b_ c_ d_=>(b_.l.length<a_)∧(zaq a_ d_ b_=zaq (s1.l.length+1) [] s1)∧(b_.n+2*(b_.l.length:Int)≤3000000)∧(0≤b_.n)∧(TOk b_.l)∧(d_.length+b_.l.length≤1500000)∧(∀ x∈d_,x.n.size≤1000∧x.v.size≤1000)) (fun a_ b_ c_ d_=>a_) (s1.l.length+1) s1 (.slice none 0 0) [] O ⟨sk O,sk O,sc O (Cv.ov O),trivial⟩ (HSub.nil 3 65) ⟨Nat.lt_succ_self _,O,(by omega),(by omega),hT1,(by show 0+s1.l.length≤_;omega),(fun x hx=>by cases hx)⟩ ?_)
   rintro f z ov o ⟨hlf,hf,hzw,hzn,hz,hol,hmo⟩
   obtain ⟨f,rfl⟩:∃ k,f=k+1:=⟨f-1,by omega⟩
   refine gQ 10 [1] O O ?_
   refine tC O (fun hc5=>?_) (fun hc5=>?_)
   · simp only[bX,bJ] at hc5
     have hbf:z.b=false:=by simpa using hc5
     refine g' 6 O (tX [1] O O acs (zeX g z 1 (by omega) (by omega) hz (by decide)) ?_)
     rintro _ _ ⟨t6,s6,e6,rfl,rfl⟩
     obtain ⟨ka6,kb6,kc6,hT6⟩:=(zch e6).out hz
     have kz6:=zcg e6 hz
     refine tP O (zf [0] [.tmp 22] (zv:=(.agg #[(.string ByteArray.empty),(.int .i64 0),(.string ByteArray.empty)])) O O (.cons CellD.s .nil) (Tryz.runUnderlying65) Tryz.zeroValue65 bd_65 ⟨O,O,O,trivial⟩ O) ?_
     refine tA O (fun g7=>?_)
     refine gQ 6 [0] O O (tE O (Qu.ef (d:=.sh 1 ([(⟨#[61]⟩:ByteArray),(⟨#[33,61]⟩:ByteArray),(⟨#[61,126]⟩:ByteArray),(⟨#[33,126]⟩:ByteArray)].map D.s)) ((ze [.const (.string (⟨#[61]⟩:ByteArray)),.const (.string (⟨#[33,61]⟩:ByteArray)),.const (.string (⟨#[61,126]⟩:ByteArray)),.const (.string (⟨#[33,126]⟩:ByteArray))] O O (.cons (CellD.v O) (.cons (CellD.v O) (.cons (CellD.v O) (.cons (CellD.v O) .nil)))) O Tryz.runUnderlying23 Tryz.sizeOf9 Tryz.zeroValue9 O O O O).cv (Cv.shs (.cons cS (.cons cS (.cons cS (.cons cS .nil))))))) ?_)
     rintro _ _ ⟨rfl,rfl⟩
     refine tX [1] O O acs (zcW g s6 5 [(⟨#[61]⟩:ByteArray),(⟨#[33,61]⟩:ByteArray),(⟨#[61,126]⟩:ByteArray),(⟨#[33,126]⟩:ByteArray)] (by omega) (by omega) hT6 (by decide)) ?_
     rintro _ _ ⟨t8,q8,s8,e8,rfl,rfl⟩
     obtain ⟨ka8,kb8,kc8,hT8⟩:=(zcV e8).out hT6
     have kz8:=zcU e8 hT6
     refine gQ 15 [0] O O ?_
     refine tOr 5 2 (c:=!q8) O O O O O O (fun hb9 nx10=>?_) ?_
     · skip
       refine g' 2 O ?_
       exact nx10 _ O O (kx 2 O O)
     refine gQ 6 [0] O O ?_
     obtain ⟨s11,e11⟩:∃ x:Rd,x=⟨s8.l,s8.n,(s8.b||!q8)⟩:=⟨_,rfl⟩
     have hl11:s11.l=s8.l:=by rw[e11]
     have hn11:s11.n=s8.n:=by rw[e11]
     have hT11:TOk s11.l:=by rw[hl11];exact hT8
     have hk11:s11.l.length=s8.l.length:=by rw[hl11]
     refine T.norm [RB g s11,.bx g7 65 (.agg [.s t6,dI 0,.v (.string ByteArray.empty)]),.sl ov 3 65 (o.map MatD.d)] (by rw[e11]<;>rfl) (g' 2 O (tW O acs (opM_c t8) (g' 1 O (tX [0] O O acs (zeX g s11 3 (by omega) (by omega) hT11 (by decide)) ?_))))
     rintro _ _ ⟨t12,s12,e12,rfl,rfl⟩
     obtain ⟨ka12,kb12,kc12,hT12⟩:=(zch e12).out hT11
     have kz12:=zcg e12 hT11
     refine gQ 10 [1,1,1] O O (tE O (Qu.ef (d:=.sh 3 ([(MatD.mk t6 (opM t8) t12)].map MatD.d)) (ze [.tmp 48] O O (.cons CellD.agg .nil) O Tryz.runUnderlying24 Tryz.sizeOf65 Tryz.zeroValue65 O O O O)) ?_)
     rintro _ _ ⟨rfl,rfl⟩
     refine tE O (zz (f:=MatD.d) (l:=o) (l':=[(MatD.mk t6 (opM t8) t12)]) (i:=2) O O O (SrcD.sh) und_24 infz_65 O O (by unfold maxLen;(try simp only[la,lc,ln,lm,lt',ld,ls,lr]);omega) (by (try simp only[la,lc,ln,lm,lt',ld,ls,lr]);omega)) ?_
     rintro _ _ ⟨v13,rfl,rfl⟩
     refine g' 6 O (tE O (Qu.ef (d:=.sh 1 ([(⟨#[44]⟩:ByteArray)].map D.s)) ((ze [.const (.string (⟨#[44]⟩:ByteArray))] O O (.cons (CellD.v O) .nil) O Tryz.runUnderlying23 Tryz.sizeOf9 Tryz.zeroValue9 O O O O).cv (Cv.shs (.cons cS .nil)))) ?_)
     rintro _ _ ⟨rfl,rfl⟩
     refine tX [0] O O acs (zcW g s12 5 [(⟨#[44]⟩:ByteArray)] (by omega) (by omega) hT12 (by decide)) ?_
     rintro _ _ ⟨t14,q14,s14,e14,rfl,rfl⟩
     obtain ⟨ka14,kb14,kc14,hT14⟩:=(zcV e14).out hT12
     have kz14:=zcU e14 hT12
     refine g' 13 O ?_
     refine tC O (fun hc15=>?_) (fun hc15=>?_)
     · simp only[bX,bJ] at hc15
       have hff:=hf.symm.trans (braces_end hbf e6 e8 e11 e12 e14 (by simpa using hc15))
       have hmq:∀ x∈(o++[(MatD.mk t6 (opM t8) t12)]),x.n.size≤1000∧x.v.size≤1000:=snoc_all hmo ⟨by omega,by omega⟩
       have hlq:(o++[(MatD.mk t6 (opM t8) t12)]).length≤2000000:=by simp only[la,List.length_singleton];omega
       refine g' 8 O (tX [0] O O (ga (.cons (ArgC.cv cS) .nil)) (zbP g s14 (⟨#[125]⟩:ByteArray) (by omega) (by omega) hT14) ?_)
       rintro _ _ ⟨s16,e16,rfl,rfl⟩
       obtain ⟨ka16,kb16,kc16,hT16⟩:=(zah e16).out hT14
       refine gQ 10 [0] O O ?_
       refine tOr 5 3 (c:=!(rmD (o++[(MatD.mk t6 (opM t8) t12)]))) O O O O O O (fun hb17 nx18=>?_) ?_
       · skip
         refine g' 1 O (tV [2] O O (.cons (ArgC.own (j:=0) O O) .nil) (rightM_c (o++[(MatD.mk t6 (opM t8) t12)]) (by omega) hmq) O (g' 1 O ?_))
         exact nx18 _ O O (kx 3 O O)
       refine gQ 12 [0] O O (T.front 2 O ?_)
       refine T.mv (Mv.freeze (K':=[(0,dP g 0),(2,.sh 3 ((o++[(MatD.mk t6 (opM t8) t12)]).map MatD.d)),(3,.sh 3 ((o++[(MatD.mk t6 (opM t8) t12)]).map MatD.d)),(4,dP g7 0),(5,.s t8),(6,dB q8),(7,.s t14),(8,dB q14),(16,dP g 0),(17,dP g 0),(18,dP g 2),(19,dB z.b),(20,dB (!z.b)),(21,dP g 0),(22,.s t6),(23,.agg [.s t6,dI 0,.v (.string ByteArray.empty)]),(24,.tup [.s t8,dB q8]),(25,dP g 0),(26,.sh 1 ([(⟨#[61]⟩:ByteArray),(⟨#[33,61]⟩:ByteArray),(⟨#[61,126]⟩:ByteArray),(⟨#[33,126]⟩:ByteArray)].map D.s)),(27,.tup [.s t8,dB q8]),(28,.s t8),(29,dB q8),(30,dP g 0),(31,dP g 0),(32,dP g 0),(33,dP g 2),(34,dB s8.b),(35,dB s8.b),(38,dB (s8.b||!q8)),(39,dP g 0),(40,dP g 2),(41,.s t8),(42,dI (opM t8)),(43,dP g 0),(44,.s t12),(45,dP g7 1),(46,dP g7 2),(47,.ov ov),(48,.agg [.s t6,dI (opM t8),.s t12]),(49,.sh 3 ([(MatD.mk t6 (opM t8) t12)].map MatD.d)),(50,.sh 3 ((o++[(MatD.mk t6 (opM t8) t12)]).map MatD.d)),(51,.tup [.s t14,dB q14]),(52,dP g 0),(53,.sh 1 ([(⟨#[44]⟩:ByteArray)].map D.s)),(54,.tup [.s t14,dB q14]),(55,.s t14),(56,dB q14),(57,dB q14),(58,dB (!q14)),(59,dP g 0),(60,.tup []),(61,dP g 0),(62,dP g 0),(63,dP g 0),(64,dP g 2),(65,dB s16.b),(66,dB s16.b),(70,dB (s16.b||!(rmD (o++[(MatD.mk t6 (opM t8) t12)])))),(71,dP g 0),(72,dP g 2),(73,.sh 3 ((o++[(MatD.mk t6 (opM t8) t12)]).map MatD.d))]) [.sl v13 3 65 ((o++[(MatD.mk t6 (opM t8) t12)]).map MatD.d)] (H1:=[.bx g 72 (.agg [.sh 3 (s16.l.map TokD.d),dI s16.n,dB (s16.b||!(rmD (o++[(MatD.mk t6 (opM t8) t12)])))]),.bx g7 65 (.agg [.s t6,dI (opM t8),.s t12])]) (H1':=[.bx g 72 (.agg [.sh 3 (s16.l.map TokD.d),dI s16.n,dB (s16.b||!(rmD (o++[(MatD.mk t6 (opM t8) t12)])))]),.bx g7 65 (.agg [.s t6,dI (opM t8),.s t12])]) ⟨⟨_,O,ArgC.id⟩,⟨_,O,ArgC.own (j:=0) O O⟩,⟨_,O,ArgC.own (j:=0) O O⟩,⟨_,O,ArgC.id⟩,⟨_,O,ArgC.id⟩,⟨_,O,ArgC.id⟩,⟨_,O,ArgC.id⟩,⟨_,O,ArgC.id⟩,⟨_,O,ArgC.id⟩,⟨_,O,ArgC.id⟩,⟨_,O,ArgC.id⟩,⟨_,O,ArgC.id⟩,⟨_,O,ArgC.id⟩,⟨_,O,ArgC.id⟩,⟨_,O,ArgC.id⟩,⟨_,O,ArgC.id⟩,⟨_,O,ArgC.id⟩,⟨_,O,ArgC.id⟩,⟨_,O,ArgC.id⟩,⟨_,O,ArgC.id⟩,⟨_,O,ArgC.id⟩,⟨_,O,ArgC.id⟩,⟨_,O,ArgC.id⟩,⟨_,O,ArgC.id⟩,⟨_,O,ArgC.id⟩,⟨_,O,ArgC.id⟩,⟨_,O,ArgC.id⟩,⟨_,O,ArgC.id⟩,⟨_,O,ArgC.id⟩,⟨_,O,ArgC.id⟩,⟨_,O,ArgC.id⟩,⟨_,O,ArgC.id⟩,⟨_,O,ArgC.id⟩,⟨_,O,ArgC.id⟩,⟨_,O,ArgC.id⟩,⟨_,O,ArgC.id⟩,⟨_,O,ArgC.id⟩,⟨_,O,ArgC.id⟩,⟨_,O,ArgC.id⟩,⟨_,O,ArgC.id⟩,⟨_,O,ArgC.own (j:=0) O O⟩,⟨_,O,ArgC.id⟩,⟨_,O,ArgC.id⟩,⟨_,O,ArgC.id⟩,⟨_,O,ArgC.id⟩,⟨_,O,ArgC.id⟩,⟨_,O,ArgC.id⟩,⟨_,O,ArgC.id⟩,⟨_,O,ArgC.id⟩,⟨_,O,ArgC.id⟩,⟨_,O,ArgC.id⟩,⟨_,O,ArgC.id⟩,⟨_,O,ArgC.id⟩,⟨_,O,ArgC.id⟩,⟨_,O,ArgC.id⟩,⟨_,O,ArgC.id⟩,⟨_,O,ArgC.id⟩,⟨_,O,ArgC.id⟩,⟨_,O,ArgC.id⟩,⟨_,O,ArgC.id⟩,⟨_,O,ArgC.own (j:=0) O O⟩,trivial⟩ (.same (.same .nil))) ?_
       exact tR O (HSub.fst 1 O) ⟨(o++[(MatD.mk t6 (opM t8) t12)]),⟨s16.l,s16.n,(s16.b||!(rmD (o++[(MatD.mk t6 (opM t8) t12)])))⟩,braces_1 rmD e1 (by simpa using hc3) hff e16,O,O⟩
     · simp only[bX,bJ] at hc15
       obtain ⟨ky,_⟩:=take_y e14 (by decide) (by simpa using hc15)
       refine g' 2 O (T.front 2 O (T.subH (HSub.fst 2 O) ?_))
       exact tp4 f s14 v13 (o++[(MatD.mk t6 (opM t8) t12)]) (sa O) HSub.rfl' ⟨by omega,(braces_go hbf e6 e8 e11 e12 e14 (by simpa using hc15)).symm.trans hf,by omega,by omega,hT14,by simp only[la,List.length_singleton];omega,snoc_all hmo ⟨by omega,by omega⟩⟩ (by omega)
   · simp only[bX,bJ] at hc5
     have hff:=hf.symm.trans (braces_bad (by simpa using hc5))
     have hmq:=hmo
     have hlq:o.length≤2000000:=by omega
     refine g' 8 O (tX [1] O O (ga (.cons (ArgC.cv cS) .nil)) (zbP g z (⟨#[125]⟩:ByteArray) (by omega) (by omega) hz) ?_)
     rintro _ _ ⟨s19,e19,rfl,rfl⟩
     obtain ⟨ka19,kb19,kc19,hT19⟩:=(zah e19).out hz
     refine gQ 10 [0] O O ?_
     refine tOr 5 3 (c:=!(rmD o)) O O O O O O (fun hb20 nx21=>?_) ?_
     · skip
       refine g' 1 O (tV [1] O O (.cons (ArgC.own (j:=0) O O) .nil) (rightM_c o (by omega) hmq) O (g' 1 O ?_))
       exact nx21 _ O O (kx 3 O O)
     refine gQ 12 [0] O O (T.front 1 O ?_)
     refine T.mv (Mv.freeze (K':=[(0,dP g 0),(2,.sh 3 (o.map MatD.d)),(3,.sh 3 (o.map MatD.d)),(16,dP g 0),(17,dP g 0),(18,dP g 2),(19,dB z.b),(20,dB (!z.b)),(59,dP g 0),(60,.tup []),(61,dP g 0),(62,dP g 0),(63,dP g 0),(64,dP g 2),(65,dB s19.b),(66,dB s19.b),(70,dB (s19.b||!(rmD o))),(71,dP g 0),(72,dP g 2),(73,.sh 3 (o.map MatD.d))]) [.sl ov 3 65 (o.map MatD.d)] (H1:=[.bx g 72 (.agg [.sh 3 (s19.l.map TokD.d),dI s19.n,dB (s19.b||!(rmD o))])]) (H1':=[.bx g 72 (.agg [.sh 3 (s19.l.map TokD.d),dI s19.n,dB (s19.b||!(rmD o))])]) ⟨⟨_,O,ArgC.id⟩,⟨_,O,ArgC.own (j:=0) O O⟩,⟨_,O,ArgC.own (j:=0) O O⟩,⟨_,O,ArgC.id⟩,⟨_,O,ArgC.id⟩,⟨_,O,ArgC.id⟩,⟨_,O,ArgC.id⟩,⟨_,O,ArgC.id⟩,⟨_,O,ArgC.id⟩,⟨_,O,ArgC.id⟩,⟨_,O,ArgC.id⟩,⟨_,O,ArgC.id⟩,⟨_,O,ArgC.id⟩,⟨_,O,ArgC.id⟩,⟨_,O,ArgC.id⟩,⟨_,O,ArgC.id⟩,⟨_,O,ArgC.id⟩,⟨_,O,ArgC.id⟩,⟨_,O,ArgC.id⟩,⟨_,O,ArgC.own (j:=0) O O⟩,trivial⟩ (.same .nil)) ?_
     exact tR O (HSub.fst 1 O) ⟨o,⟨s19.l,s19.n,(s19.b||!(rmD o))⟩,braces_1 rmD e1 (by simpa using hc3) hff e19,O,O⟩
theorem selName_e {s s':Rd} {t:ByteArray} (e:(t,s')=s.selName):Stp 0 s s':=by
 have h:s'=s.selName.2:=congrArg Prod.snd e
 rw[h];unfold Rd.selName;split;exact zcu s 1;exact Stp.rfl' s
theorem selMs_e {s s':Rd} {t:ByteArray} {ms:List MatD} (e:(ms,s')=s.selMs rmD t):Stp 0 s s':=by
 have h:s'=(s.selMs rmD t).2:=congrArg Prod.snd e
 rw[h];unfold Rd.selMs;split;exact braces_stp rmD s;exact(Stp.rfl' s).bad _
theorem selWin_e {s s':Rd} {w:Int} (e:(w,s')=s.selWin):Stp 0 s s':=by
 have h:s'=s.selWin.2:=congrArg Prod.snd e
 rw[h];unfold Rd.selWin;split
 · exact(((zZ s 5 [tSq]).trans (zbj _ 4)).trans (zP _ _)).le (by omega)
 · exact zZ s 5 _
theorem selMs_bad {s:Rd} {t:ByteArray} (h:¬s.is 5 [zbb]=true) (ht:t=ByteArray.empty):([],(⟨s.l,s.n,true⟩:Rd))=s.selMs rmD t:=by rw[←selMs_0 rmD h,decide_eq_true ht,Bool.or_true]
theorem selMs_no {s:Rd} {t:ByteArray} (h:¬s.is 5 [zbb]=true) (ht:¬t=ByteArray.empty):([],(⟨s.l,s.n,s.b⟩:Rd))=s.selMs rmD t:=by rw[←selMs_0 rmD h,decide_eq_false ht,Bool.or_false]
theorem selector_c (g:Nat) (s:Rd) (ev es:Value) (hev:EvOk ev) (hes:EvOk es) (hw:s.n+2*(s.l.length:Int)≤3000000) (hn:0≤s.n) (hT:TOk s.l):
 CD Tryz.prog 222 [RB g s,HPow,HErr ev,HSyn es] [dP g 0] (NdR g ev es (s.selector rmD)):=by
 refine tZ Tryz.func222 O O (fun C=>?_)
 refine g' 2 O ?_
 refine tA O (fun g1=>?_)
 refine g' 4 O (tP O (zf [0] [.const (.string (⟨#[115,101,108]⟩:ByteArray))] (zv:=n9) O O (.cons (CellD.v O) .nil) (Tryz.runUnderlying27) Tryz.zeroValue27 zdd ⟨O,O,O,O,O,O,O,trivial⟩ O) ?_)
 refine tA O (fun g2=>?_)
 refine gQ 4 [0] O O (T.subH (HSub.turn (h':=.bx g2 27 (n7 nSel ByteArray.empty 0 0 ([]:List ByteArray) ([]:List MatD) ([]:List Nd))) O (Hp.cv_bx (Cv.agg (.cons cS (.cons cS (gc (gc (.cons Cv.nil (.cons Cv.nil (.cons Cv.nil .nil)))))))))) (g' 2 O (tX [2] O O acs (peek_c g s (by omega) (by omega) hT) ?_)))
 rintro _ _ ⟨rfl,rfl⟩
 refine tA O (fun g4=>?_)
 refine gQ 10 [0,0] O O ?_
 refine tAnd 3 4 (c:=!(zdc s.pk.t)) O O O O O O (fun hb5 nx6=>?_) ?_
 · skip
   have hf7:=of_decide_eq_true hb5
   refine gQ 2 [0] O O (tW O acs (kept_c s.pk.t) (g' 1 O ?_))
   exact nx6 _ O O (kx 4 O O)
 refine g' 2 O ?_
 refine tJ (fun (jg:ByteArray×Rd)=>[(0,dP g 0),(2,dP g1 0),(3,dP g2 0)]) (fun (jg:ByteArray×Rd)=>[.bx g1 27 n8,.bx g2 27 (n7 nSel jg.1 0 0 ([]:List ByteArray) ([]:List MatD) ([]:List Nd)),.bx g 72 (.agg [.sh 3 (jg.2.l.map TokD.d),dI jg.2.n,dB jg.2.b]),HPow,HErr ev,HSyn es]) (fun (jg:ByteArray×Rd)=>((jg.1,jg.2)=s.selName)) (fun _ hQ8=>?_) ?_
 · skip
   refine tC O (fun hc9=>?_) (fun hc9=>?_)
   · simp only[bX,bJ] at hc9
     have hkk:s.pk.k=1∧zdc s.pk.t=false:=by simpa using hc9
     refine g' 2 O (tX [1] O O acs (zeX g s 1 (by omega) (by omega) hT (by decide)) ?_)
     rintro _ _ ⟨t10,s10,e10,rfl,rfl⟩
     obtain ⟨ka10,kb10,kc10,hT10⟩:=(zch e10).out hT
     have kz10:=zcg e10 hT
     refine gQ 3 [2] O O (T.front 6 O (T.front 6 O (T.front 6 O (T.front 3 O (T.front 5 O (T.front 6 O (T.subH (HSub.fst 6 O) ?_)))))))
     exact tqe (hQ8 (t10,s10) (selName_1 hkk e10)) O
   · simp only[bX,bJ] at hc9
     have hkk:¬(s.pk.k=1∧zdc s.pk.t=false):=by rintro ⟨a,b⟩;have h:=hc9;rcases h with h | h;exact h a;(rw[b] at h;cases h)
     refine g' 1 O (T.front 6 O (T.front 6 O (T.front 6 O (T.front 4 O (T.front 5 O (T.front 6 O (T.subH (HSub.fst 6 O) ?_)))))))
     exact tqe (hQ8 (ByteArray.empty,s) (selName_0 hkk)) O
 · skip
   rintro ⟨t,z⟩ hsel
   replace hsel:(t,z)=s.selName:=hsel
   refine T.kk [(0,dP g 0),(2,dP g1 0),(3,dP g2 0)] O (T.norm [.bx g1 27 n8,.bx g2 27 (n7 nSel t 0 0 ([]:List ByteArray) ([]:List MatD) ([]:List Nd)),RB g z,HPow,HErr ev,HSyn es] (by rfl) (g' 3 O ?_))
   obtain ⟨kx1,ky1,kz1,hTj1⟩:=(selName_e hsel).out hT
   refine g' 2 O (tE O (Qu.ef (d:=.sh 1 ([(⟨#[123]⟩:ByteArray)].map D.s)) ((ze [.const (.string (⟨#[123]⟩:ByteArray))] O O (.cons (CellD.v O) .nil) O Tryz.runUnderlying23 Tryz.sizeOf9 Tryz.zeroValue9 O O O O).cv (Cv.shs (.cons cS .nil)))) ?_)
   rintro _ _ ⟨rfl,rfl⟩
   refine tX [2] O O acs (is_c g z 5 [(⟨#[123]⟩:ByteArray)] (by omega) (by omega) hTj1) ?_
   rintro _ _ ⟨rfl,rfl⟩
   refine g' 2 O ?_
   refine tJ (fun (jg:List MatD×Rd)=>[(0,dP g 0),(2,dP g1 0),(3,dP g2 0)]) (fun (jg:List MatD×Rd)=>[.bx g1 27 n8,.bx g2 27 (n7 nSel t 0 0 ([]:List ByteArray) jg.1 ([]:List Nd)),.bx g 72 (.agg [.sh 3 (jg.2.l.map TokD.d),dI jg.2.n,dB jg.2.b]),HPow,HErr ev,HSyn es]) (fun (jg:List MatD×Rd)=>((jg.1,jg.2)=z.selMs rmD t)) (fun _ hQ12=>?_) ?_
   · skip
     refine tC O (fun hc13=>?_) (fun hc13=>?_)
     · skip
       refine g' 2 O (tX [0] O O acs (braces_c g z (by omega) (by omega) hTj1) ?_)
       rintro _ _ ⟨l14,s14,e14,rfl,rfl⟩
       obtain ⟨ka14,kb14,kc14,hT14⟩:=(braces_e rmD e14).out hTj1
       refine gQ 3 [2] O O (T.front 5 O (T.front 5 O (T.front 5 O (T.front 3 O (T.front 5 O (T.front 5 O ?_))))))
       exact tqe (hQ12 (l14,s14) (selMs_1 rmD hc13 e14)) O
     · skip
       refine gQ 7 [2] O O ?_
       refine tD O (fun hc15=>?_) (fun hc15=>?_)
       · skip
         refine gQ 6 [0] O O (T.front 5 O (T.front 5 O (T.front 5 O (T.front 3 O (T.front 5 O (T.front 5 O ?_))))))
         exact tqe (hQ12 (([]:List MatD),(⟨z.l,z.n,true⟩:Rd)) (selMs_bad (by simpa using hc13) hc15)) O
       · skip
         refine g' 1 O (T.front 5 O (T.front 5 O (T.front 5 O (T.front 3 O (T.front 5 O (T.front 5 O ?_))))))
         exact tqe (hQ12 (([]:List MatD),(⟨z.l,z.n,z.b⟩:Rd)) (selMs_no (by simpa using hc13) hc15)) O
   · skip
     rintro ⟨ms,y⟩ hms
     replace hms:(ms,y)=z.selMs rmD t:=hms
     refine T.kk [(0,dP g 0),(2,dP g1 0),(3,dP g2 0)] O (T.norm [.bx g1 27 n8,.bx g2 27 (n7 nSel t 0 0 ([]:List ByteArray) ms ([]:List Nd)),RB g y,HPow,HErr ev,HSyn es] (by rfl) (g' 3 O ?_))
     obtain ⟨kx2,ky2,kz2,hTj2⟩:=(selMs_e hms).out hTj1
     refine g' 2 O (tE O (Qu.ef (d:=.sh 1 ([(⟨#[91]⟩:ByteArray)].map D.s)) ((ze [.const (.string (⟨#[91]⟩:ByteArray))] O O (.cons (CellD.v O) .nil) O Tryz.runUnderlying23 Tryz.sizeOf9 Tryz.zeroValue9 O O O O).cv (Cv.shs (.cons cS .nil)))) ?_)
     rintro _ _ ⟨rfl,rfl⟩
     refine tX [2] O O acs (zcW g y 5 [(⟨#[91]⟩:ByteArray)] (by omega) (by omega) hTj2 (by decide)) ?_
     rintro _ _ ⟨t16,q16,s16,e16,rfl,rfl⟩
     obtain ⟨ka16,kb16,kc16,hT16⟩:=(zcV e16).out hTj2
     have kz16:=zcU e16 hTj2
     refine g' 12 O ?_
     refine tJ (fun (jg:Int×Rd)=>[(0,dP g 0),(2,dP g1 0),(3,dP g2 0)]) (fun (jg:Int×Rd)=>[.bx g1 27 n8,.bx g2 27 (n7 nSel t jg.1 0 ([]:List ByteArray) ms ([]:List Nd)),.bx g 72 (.agg [.sh 3 (jg.2.l.map TokD.d),dI jg.2.n,dB jg.2.b]),HPow,HErr ev,HSyn es]) (fun (jg:Int×Rd)=>((jg.1,jg.2)=y.selWin)) (fun _ hQ17=>?_) ?_
     · skip
       refine tC O (fun hc18=>?_) (fun hc18=>?_)
       · skip
         refine g' 3 O (tX [0,2,2,2] O O acs (rdnum_c g s16 4 ev es hev hes (by omega) (by omega) hT16 (by omega)) ?_)
         rintro _ _ ⟨v19,s19,e19,rfl,rfl⟩
         obtain ⟨ka19,kb19,kc19,hT19⟩:=(number_e e19).out hT16
         have kv19:=number_bd e19 (by omega) hT16
         refine gQ 6 [5] O O (tX [0] O O (ga (.cons (ArgC.cv cS) .nil)) (zbP g s19 (⟨#[93]⟩:ByteArray) (by omega) (by omega) hT19) ?_)
         rintro _ _ ⟨s20,e20,rfl,rfl⟩
         obtain ⟨ka20,kb20,kc20,hT20⟩:=(zah e20).out hT19
         refine g' 1 O (T.front 3 O (T.front 3 O (T.front 3 O (T.front 3 O (T.front 5 O (T.front 5 O ?_))))))
         exact tqe (hQ17 (v19,s20) (selWin_1 e16 hc18 e19 e20)) O
       · skip
         refine g' 1 O (T.front 5 O (T.front 5 O (T.front 5 O (T.front 3 O (T.front 5 O (T.front 5 O ?_))))))
         exact tqe (hQ17 (0,s16) (selWin_0 e16 (by simpa using hc18))) O
     · skip
       rintro ⟨w,v⟩ hwi
       replace hwi:(w,v)=y.selWin:=hwi
       refine T.kk [(0,dP g 0),(2,dP g1 0),(3,dP g2 0)] O (T.norm [.bx g1 27 n8,.bx g2 27 (n7 nSel t w 0 ([]:List ByteArray) ms ([]:List Nd)),RB g v,HPow,HErr ev,HSyn es] (by rfl) (g' 2 O ?_))
       obtain ⟨kx3,ky3,kz3,hTj3⟩:=(selWin_e hwi).out hTj2
       refine gQ 3 [1] O O (tX [2] O O acs (zeP g v (.s nSel) (.s t) (dI w) (dI 0) (.sh 1 (([]:List ByteArray).map D.s)) (.sh 3 (ms.map MatD.d)) (.sh 7 (Nd.ds ([]:List Nd))) (by omega) (by omega) hTj3) ?_)
       rintro _ _ ⟨s21,e21,rfl,rfl⟩
       obtain ⟨ka21,kb21,kc21,hT21⟩:=(zeO e21).out hTj3
       refine gQ 4 [1] O O (T.front 5 O (T.front 5 O (T.front 5 O (T.front 3 O ?_))))
       exact tRs O Tryz.results222 (.cons (zh (i:=4) O O Tryz.isAgg27 Tryz.sizeOf27 O O) .nil) O (HSub.fst 4 O) ⟨nSel,t,w,0,([]:List ByteArray),ms,([]:List Nd),⟨s21.l,s21.n,s21.b⟩,selector_of rmD hsel hms hwi e21,O,O⟩
end Lp
