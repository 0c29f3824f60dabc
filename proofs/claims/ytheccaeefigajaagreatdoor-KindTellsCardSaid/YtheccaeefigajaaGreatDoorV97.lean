import Derived.Test.YtheccaeefigajaaGreatDoorV96
set_option linter.unusedSimpArgs false
set_option linter.unusedVariables false
set_option maxHeartbeats 4000000
set_option maxRecDepth 100000
namespace Lp
open Go Go.RowKit Go.Proofs
namespace HdYtheccaeefigajaaGreatDoorV97
theorem bd_268:∀ w,((#[⟨"of",266,0,false, "", "leporello/window",0⟩]:Array Field).mapM fun f=>do pure (f.offset,←Go.sizeOf f.type):Sem (Array (Nat×Nat))).run Tryz.prog w=.ok ([(0,1)]:List (Nat×Nat)).toArray w:=fun _=>by kernel_rfl
theorem bd_271:∀ w,((#[⟨"of",269,0,false, "", "leporello/window",0⟩]:Array Field).mapM fun f=>do pure (f.offset,←Go.sizeOf f.type):Sem (Array (Nat×Nat))).run Tryz.prog w=.ok ([(0,1)]:List (Nat×Nat)).toArray w:=fun _=>by kernel_rfl
theorem bd_273:∀ w,((#[⟨"each",4,0,false, "", "leporello/window",0⟩]:Array Field).mapM fun f=>do pure (f.offset,←Go.sizeOf f.type):Sem (Array (Nat×Nat))).run Tryz.prog w=.ok ([(0,1)]:List (Nat×Nat)).toArray w:=fun _=>by kernel_rfl
theorem infz_291:∃ i,Tryz.prog.info? 291=some i∧i.zero=some (.agg #[(.string ByteArray.empty),(.int .i64 0),(.string ByteArray.empty),(.pointer none)])∧i.size=4∧i.bytes=48:=zbq (by kernel_rfl)
theorem und_282:Tryz.prog.underlying 282=some (.slice 291):=by kernel_rfl
end HdYtheccaeefigajaaGreatDoorV97
open HdYtheccaeefigajaaGreatDoorV97
theorem rm_bad {m:List MatD} {k:Nat} {x:MatD} (hx:m[k]?=some x) (h:zcG x=false):false=rmD m:=by
 unfold rmD
 rw[List.all_eq_false.2 ⟨x,List.mem_of_getElem? hx,by rw[h];simp⟩];rfl
theorem rm_end {m:List MatD} {k:Nat} (h:(m.take k).all zcG=true) (hk:m.length≤k):decide (((m.length:Nat):Int)≤10)=rmD m:=by
 rw[List.take_of_length_le hk] at h
 unfold rmD;rw[h,Bool.true_and];exact decide_eq_decide.2 (by omega)
theorem all_c (m:List MatD) (hl:m.length≤2000000) (hm:∀ x∈m,x.n.size≤1000∧x.v.size≤1000):
 CD Tryz.prog 252 [] [.sh 3 (m.map MatD.d)] (fun r H'=>r=.tup [.any,dB (rmD m)]∧H'=[]):=by
 refine zp Tryz.func252 J (N:=31) J J (fun C=>?_)
 refine jk [0] J ?_
 refine JD.bd 0 J (fun bd0=>?_)
 have nl0:=zbF bd0
 refine jT J (oR 2 J (oZ J (jT J (oR 1 J (oZ J (jS J (jT J (oR 1 J (oP J (zbf (n:=m.length) J Tryz.runUnderlying24 (by simp only[lm,lc,ln])) (oR 1 rfl (oZ rfl (jB rfl (jl3 (fun (a_:Nat) (b_:Value) (c_:List MatD)=>[(0,.sh 3 (m.map MatD.d)),(9,.sh 3 (m.map MatD.d)),(10,dN m.length),(11,dN a_),(4,.ov b_)]) (fun a_ b_ c_=>[.sl b_ 4 291 (c_.map tstD)]) (fun a_ b_ c_=>(a_≤m.length)∧((m.take a_).all zcG=true)∧(c_.length≤a_)) (fun a_ b_ c_=>m.length-a_) 0 (.slice none 0 0) [] rfl ⟨sk rfl,sk rfl,sk rfl,sk rfl,sc rfl (Cv.ov rfl),trivial⟩ (HSub.nil 4 291) ⟨Nat.zero_le _,rfl,Nat.le_refl _⟩ ?_)))))))))))))
 rintro k ov o ⟨hk,ho,hol⟩
 refine ja J (jn J (jT J (oP J (zN J J J) (oZ J (jS J ?_)))))
 refine jD J (fun hc1=>?_) (fun hc1=>?_)
 · skip
   refine zt J (zj (jS J (jB J (jT J ?_))))
   obtain ⟨x1,hx1⟩:=zW m k (by omega)
   have hmx:=hm x1 (List.mem_of_getElem? hx1)
   refine oP J (zI (k:=k) J J Tryz.runUnderlying24 Tryz.sizeOf65 (by first | rfl | omega) (zK hx1)) (oP rfl (zan (d:=MatD.d x1) rfl Tryz.isAgg65 Tryz.sizeOf65 rfl rfl) (oE rfl (zC (zv:=(.agg #[(.string ByteArray.empty),(.int .i64 0),(.string ByteArray.empty)])) Tryz.zeroValue65 ⟨rfl,rfl,rfl,trivial⟩ (Cv.vagg (by decide))) ?_))
   rintro _ _ ⟨g2,rfl,rfl⟩
   refine oE J (zi (i:=0) (X':=MatD.d x1) J J J (CellD.agg) Tryz.sizeOf65 J J J) ?_
   rintro _ _ ⟨rfl,rfl⟩
   refine on J (oZ J (jT J (oP J (zH (d:=MatD.d x1) J (i:=0) J Tryz.isAgg65 Tryz.sizeOf65 J J) (oE J (zm [] [.bx g2 65 (MatD.d x1),.sl ov 4 291 (o.map tstD)] [] J J (.cons ArgC.id .nil) zg Tryz.call257 (ready_c x1 (by omega) (by omega)) (.inl rfl)) ?_))))
   rintro _ _ ⟨_,⟨tm3,rfl,hqtm3,rfl⟩,rfl⟩
   refine on J (oR 3 J (oE J (zC (zv:=(.agg #[(.string ByteArray.empty),(.int .i64 0),(.string ByteArray.empty),(.pointer none)])) Tryz.zeroValue291 ⟨J,J,J,J,trivial⟩ (Cv.vagg (by decide))) ?_))
   rintro _ _ ⟨g4,rfl,rfl⟩
   refine oE J (zi (i:=0) (X':=tstD tm3) J J J (CellD.agg) Tryz.sizeOf291 J J J) ?_
   rintro _ _ ⟨rfl,rfl⟩
   refine on J (oR 1 J (oZ J (jS J (jT J (oR 1 J (oP J (zaZ J) (oZ J ?_)))))))
   refine jC J (fun hc5=>?_) (fun hc5=>?_)
   · simp only[bA,bB,bC,bD,bE,bF,bG,bH,bI,bJ] at hc5
     refine jT J (oR 2 J (oZ J (zn J (zk (zo (zk (zal (zo (zk ?_)))))))))
     exact zh Tryz.results252 (.cons (zx (zl J) (Cv.any J)) (.cons (zx (zl J) (Cv.eq (congrArg dB (rm_bad hx1 (by simpa using hc5))))) .nil)) rfl HSub.none ⟨rfl,rfl⟩
   · simp only[bA,bB,bC,bD,bE,bF,bG,bH,bI,bJ] at hc5
     refine zt J (zj (zf J (oR 1 J (oP J (zH (d:=tstD tm3) J (i:=0) J Tryz.isAgg291 Tryz.sizeOf291 J J) (oE J (zL [.tmp 23] J J (.cons CellD.agg .nil) J Tryz.runUnderlying282 Tryz.sizeOf291 Tryz.zeroValue291 J J J J) ?_)))))
     rintro _ _ ⟨g6,rfl,rfl⟩
     refine oE J (zP (f:=tstD) (l:=o) (l':=[tm3]) (i:=3) J J J (SrcD.own (j:=0) J J) und_282 infz_291 J J (by unfold maxLen;(try simp only[la,lc,ln,lm,lt',ld,ls,lr]);omega) (by (try simp only[la,lc,ln,lm,lt',ld,ls,lr]);omega)) ?_
     rintro _ _ ⟨v7,rfl,rfl⟩
     refine on J (oR 1 J (zq J (zB (zj (zf J (oP J (zaz (c:=((k+1:Nat):Int)) J J (zab (by omega) (by omega))) (oR 1 rfl (zq rfl (PD.subH (HSub.perm (zc (i:=3) rfl)) (pn rfl (PD.subH (HSub.fst 1 rfl) (pn rfl ?_))))))))))))
     exact pl3 (k+1) v7 (o++[tm3]) (sa J) HSub.rfl' ⟨by show k+1≤m.length;omega,by rw[zaI hx1,List.all_append,ho];simpa using hc5,by simp only[la,List.length_singleton];omega⟩ (by omega)
 · skip
   refine zF J (zw (zu (zr (zj (jT J (oR 2 J (oP J (zbf (n:=m.length) J Tryz.runUnderlying24 (by simp only[lm,lc,ln])) (oP rfl (zbj rfl rfl rfl) (oR 2 rfl (oZ rfl (jk [2,3] rfl (zn rfl ?_))))))))))))
   exact zh Tryz.results252 (.cons (zx (zl J) (Cv.oany)) (.cons (zx (zl J) (Cv.eq (congrArg dB (rm_end ho (by omega))))) .nil)) rfl HSub.none ⟨rfl,rfl⟩
theorem rightM_c (m:List MatD) (hl:m.length≤2000000) (hm:∀ x∈m,x.n.size≤1000∧x.v.size≤1000):
 CD Tryz.prog 245 [] [.sh 3 (m.map MatD.d)] (isR (dB (rmD m))):=by
 refine zp Tryz.func245 J (N:=11) J J (fun C=>?_)
 refine jk [0] J ?_
 refine JD.bd 0 J (fun bd0=>?_)
 have nl0:=zbF bd0
 refine jT J (oR 1 J (oZ J (jT J (oR 1 J (oW J J acs Tryz.call252 (all_c m (by omega) hm) (oR 5 rfl (oZ rfl (jT rfl (oR 2 rfl (oZ rfl (jk [2] rfl (zn rfl ?_))))))))))))
 exact zh Tryz.results245 (.cons (zl J) .nil) J HSub.none ⟨rfl,J⟩
theorem aggs_c  :
 CD Tryz.prog 93 [] [] (zdV 1 9 (aggN.map D.s)):=by
 refine zp Tryz.func93 J (N:=2) J J (fun C=>?_)
 refine jk [] J (jT J (oR 1 J (oZ J (jT J (oE J (zL [.const (.string (⟨#[115,117,109]⟩:ByteArray)),.const (.string (⟨#[109,105,110]⟩:ByteArray)),.const (.string (⟨#[109,97,120]⟩:ByteArray)),.const (.string (⟨#[99,111,117,110,116]⟩:ByteArray)),.const (.string (⟨#[97,118,103]⟩:ByteArray)),.const (.string (⟨#[116,111,112,107]⟩:ByteArray)),.const (.string (⟨#[113,117,97,110,116,105,108,101]⟩:ByteArray))] J J (.cons (CellD.v J) (.cons (CellD.v J) (.cons (CellD.v J) (.cons (CellD.v J) (.cons (CellD.v J) (.cons (CellD.v J) (.cons (CellD.v J) .nil))))))) J Tryz.runUnderlying23 Tryz.sizeOf9 Tryz.zeroValue9 J J J J) ?_)))))
 rintro _ _ ⟨g1,rfl,rfl⟩
 refine oR 1 J (oZ J (zn J (PD.subH (HSub.turn (h':=.sl (vS g1 7 7) 1 9 ([(⟨#[115,117,109]⟩:ByteArray),(⟨#[109,105,110]⟩:ByteArray),(⟨#[109,97,120]⟩:ByteArray),(⟨#[99,111,117,110,116]⟩:ByteArray),(⟨#[97,118,103]⟩:ByteArray),(⟨#[116,111,112,107]⟩:ByteArray),(⟨#[113,117,97,110,116,105,108,101]⟩:ByteArray)].map D.s)) J (Hp.cvs_sl (.cons (Cv.str (by first | decide | (unfold maxLen;omega))) (.cons (Cv.str (by first | decide | (unfold maxLen;omega))) (.cons (Cv.str (by first | decide | (unfold maxLen;omega))) (.cons (Cv.str (by first | decide | (unfold maxLen;omega))) (.cons (Cv.str (by first | decide | (unfold maxLen;omega))) (.cons (Cv.str (by first | decide | (unfold maxLen;omega))) (.cons (Cv.str (by first | decide | (unfold maxLen;omega))) .nil))))))))) (PD.subH (HSub.less (zd5 (i:=0) rfl)) (PD.subH (HSub.turn (h':=.sl (vS g1 7 7) 1 9 (aggN.map D.s)) rfl (Hp.eq_sl (show List.map D.s [(⟨#[115,117,109]⟩:ByteArray),(⟨#[109,105,110]⟩:ByteArray),(⟨#[109,97,120]⟩:ByteArray),(⟨#[99,111,117,110,116]⟩:ByteArray),(⟨#[97,118,103]⟩:ByteArray),(⟨#[116,111,112,107]⟩:ByteArray),(⟨#[113,117,97,110,116,105,108,101]⟩:ByteArray)]=List.map D.s aggN from congrArg _ (by rfl)))) ?_)))))
 exact zew Tryz.results93 (.cons (zl J) .nil) J ⟨_,J,J⟩
theorem Agg_c (name:ByteArray) :
 CD Tryz.prog 29 [] [.s name] (isR (dB (hasN aggN name))):=by
 refine zp Tryz.func29 J (N:=6) J J (fun C=>?_)
 refine jk [0] J ?_
 refine JD.bd 0 J (fun bd0=>?_)
 have sz0:name.size≤9223372036854775807:=bd0
 refine jT J (oR 1 J (oZ J (jT J (oE J (zm [] _ [] J J (.nil) zg Tryz.call93 (aggs_c) (.inl J)) ?_))))
 rintro _ _ ⟨_,⟨v1,rfl,rfl⟩,rfl⟩
 refine on J (oR 1 J (oE J (zm [] _ [.sl v1 1 9 (aggN.map D.s)] J J (.cons (ArgC.own (j:=0) J J) (.cons ArgC.id .nil)) (zbt (j:=0) J zg) Tryz.call46 (containsS_c aggN name) (.inr (zcA J))) ?_))
 rintro _ _ ⟨_,⟨rfl,rfl⟩,rfl⟩
 refine on J (oR 1 J (oZ J (zn J ?_)))
 exact zh Tryz.results29 (.cons (zl J) .nil) J HSub.none ⟨rfl,J⟩
theorem fnN_no {t:ByteArray} (h0:¬t=⟨#[115,117,109,95,111,118,101,114]⟩) (h1:¬t=⟨#[97,118,103,95,111,118,101,114]⟩) (h2:¬t=⟨#[109,105,110,95,111,118,101,114]⟩) (h3:¬t=⟨#[109,97,120,95,111,118,101,114]⟩) (h4:¬t=⟨#[99,111,117,110,116,95,111,118,101,114]⟩) (h5:¬t=⟨#[108,97,115,116,95,111,118,101,114]⟩) (h6:¬t=⟨#[105,110,99,114,101,97,115,101]⟩) (h7:¬t=⟨#[114,97,116,101]⟩):hasN fnN t=false:=by
 unfold hasN fnN
 simp only[List.any_cons,List.any_nil,Bool.or_false,Bool.or_eq_false_iff,decide_eq_false_iff_not]
 exact⟨Ne.symm h0,Ne.symm h1,Ne.symm h2,Ne.symm h3,Ne.symm h4,Ne.symm h5,Ne.symm h6,Ne.symm h7⟩
theorem winfn_c (name:ByteArray) :
 CD Tryz.prog 231 [] [.s name] (fun r H'=>((∃ t x,r=.ifc t x∧hasN fnN name=true)∨(r=.v .nilIface∧hasN fnN name=false))∧H'=[]):=by
 refine zp Tryz.func231 J (N:=36) J J (fun C=>?_)
 refine jk [0] J ?_
 refine JD.bd 0 J (fun bd0=>?_)
 have sz0:name.size≤9223372036854775807:=bd0
 refine jT J (oR 1 J (oZ J (jS J (jT J (oR 1 J (oZ J (jB J (jT J (oP J (zQ J J J) (oR 1 J (oZ J ?_)))))))))))
 refine jD J (fun hc1=>?_) (fun hc1=>?_)
 · skip
   refine jT J (oP J (zJ [0] [.func 238] (zv:=(.agg #[.nilFunc])) J J (.cons CellD.fn .nil) (Tryz.runUnderlying268) Tryz.zeroValue268 bd_268 ⟨J,trivial⟩ J) (oP J (zZ J (fun _ _=>by kernel_rfl)) (oR 1 rfl (oZ rfl (zn rfl (zo (zk ?_)))))))
   exact zh Tryz.results231 (.cons (zl J) .nil) J HSub.none ⟨.inl ⟨268,_,J,by rw[hc1];decide⟩,rfl⟩
 · skip
   refine jT J (oP J (zQ J J J) (oR 1 J (oZ J ?_)))
   refine jD J (fun hc2=>?_) (fun hc2=>?_)
   · skip
     refine jT J (oP J (zJ [0] [.func 239] (zv:=(.agg #[.nilFunc])) J J (.cons CellD.fn .nil) (Tryz.runUnderlying268) Tryz.zeroValue268 bd_268 ⟨J,trivial⟩ J) (oP J (zZ J (fun _ _=>by kernel_rfl)) (oR 1 rfl (oZ rfl (zn rfl (zo (zk ?_)))))))
     exact zh Tryz.results231 (.cons (zl J) .nil) J HSub.none ⟨.inl ⟨268,_,J,by rw[hc2];decide⟩,rfl⟩
   · skip
     refine jT J (oP J (zQ J J J) (oR 1 J (oZ J ?_)))
     refine jD J (fun hc3=>?_) (fun hc3=>?_)
     · skip
       refine jT J (oP J (zJ [0] [.func 240] (zv:=(.agg #[.nilFunc])) J J (.cons CellD.fn .nil) (Tryz.runUnderlying271) Tryz.zeroValue271 bd_271 ⟨J,trivial⟩ J) (oP J (zZ J (fun _ _=>by kernel_rfl)) (oR 1 rfl (oZ rfl (jk [2] rfl (zn rfl (zo (zk ?_))))))))
       exact zh Tryz.results231 (.cons (zl J) .nil) J HSub.none ⟨.inl ⟨271,_,J,by rw[hc3];decide⟩,rfl⟩
     · skip
       refine jT J (oP J (zQ J J J) (oR 1 J (oZ J ?_)))
       refine jD J (fun hc4=>?_) (fun hc4=>?_)
       · skip
         refine jT J (oP J (zJ [0] [.func 241] (zv:=(.agg #[.nilFunc])) J J (.cons CellD.fn .nil) (Tryz.runUnderlying271) Tryz.zeroValue271 bd_271 ⟨J,trivial⟩ J) (oP J (zZ J (fun _ _=>by kernel_rfl)) (oR 1 rfl (oZ rfl (jk [2] rfl (zn rfl (zo (zk ?_))))))))
         exact zh Tryz.results231 (.cons (zl J) .nil) J HSub.none ⟨.inl ⟨271,_,J,by rw[hc4];decide⟩,rfl⟩
       · skip
         refine jT J (oP J (zQ J J J) (oR 1 J (oZ J (jk [2,3,20] J ?_))))
         refine jD J (fun hc5=>?_) (fun hc5=>?_)
         · skip
           refine jT J (oP J (zJ [0] [.func 242] (zv:=(.agg #[.nilFunc])) J J (.cons CellD.fn .nil) (Tryz.runUnderlying271) Tryz.zeroValue271 bd_271 ⟨J,trivial⟩ J) (oP J (zZ J (fun _ _=>by kernel_rfl)) (oR 1 rfl (oZ rfl (zn rfl (zo (zk ?_)))))))
           exact zh Tryz.results231 (.cons (zl J) .nil) J HSub.none ⟨.inl ⟨271,_,J,by rw[hc5];decide⟩,rfl⟩
         · skip
           refine jT J (oP J (zQ J J J) (oR 1 J (oZ J ?_)))
           refine jD J (fun hc6=>?_) (fun hc6=>?_)
           · skip
             refine jT J (oP J (zJ [0] [.func 243] (zv:=(.agg #[.nilFunc])) J J (.cons CellD.fn .nil) (Tryz.runUnderlying271) Tryz.zeroValue271 bd_271 ⟨J,trivial⟩ J) (oP J (zZ J (fun _ _=>by kernel_rfl)) (oR 1 rfl (oZ rfl (zn rfl (zo (zk ?_)))))))
             exact zh Tryz.results231 (.cons (zl J) .nil) J HSub.none ⟨.inl ⟨271,_,J,by rw[hc6];decide⟩,rfl⟩
           · skip
             refine jT J (oP J (zQ J J J) (oR 1 J (oZ J ?_)))
             refine jD J (fun hc7=>?_) (fun hc7=>?_)
             · skip
               refine jT J (oP J (zJ [] [] (zv:=(.agg #[(.bool false)])) J J (.nil) (Tryz.runUnderlying273) Tryz.zeroValue273 bd_273 ⟨J,trivial⟩ J) (oP J (zZ J (fun _ _=>by kernel_rfl)) (oR 1 rfl (oZ rfl (zn rfl (zo (zk ?_)))))))
               exact zh Tryz.results231 (.cons (zl J) .nil) J HSub.none ⟨.inl ⟨273,_,J,by rw[hc7];decide⟩,rfl⟩
             · skip
               refine jT J (oP J (zQ J J J) (oR 1 J (oZ J ?_)))
               refine jD J (fun hc8=>?_) (fun hc8=>?_)
               · skip
                 refine jT J (oP J (zJ [0] [.const (.bool true)] (zv:=(.agg #[(.bool false)])) J J (.cons (CellD.v J) .nil) (Tryz.runUnderlying273) Tryz.zeroValue273 bd_273 ⟨J,trivial⟩ J) (oP J (zZ J (fun _ _=>by kernel_rfl)) (oR 1 rfl (oZ rfl (jk [2] rfl (zn rfl (zo (zk ?_))))))))
                 exact zh Tryz.results231 (.cons (zl J) .nil) J HSub.none ⟨.inl ⟨273,_,J,by rw[hc8];decide⟩,rfl⟩
               · skip
                 refine zt J (zB (zj (jT J (oR 1 J (oZ J (zn J ?_))))))
                 exact zh Tryz.results231 (.cons (zl J) .nil) J HSub.none ⟨.inr ⟨rfl,fnN_no hc1 hc2 hc3 hc4 hc5 hc6 hc7 hc8⟩,J⟩
theorem CD.to {P:Program} {f:FuncId} {H:List Hp} {ds:List D} {R R':D→List Hp→Prop} (h:CD P f H ds R) (k:∀ r H',R r H'→R' r H'):CD P f H ds R':=
 ⟨fun w F vs h1 h2 h3=>(h.out w F vs h1 h2 h3).mono (by rintro e w' ⟨u,he,F',d,H',hR,hr,hg⟩;exact⟨u,he,F',d,H',k _ _ hR,hr,hg⟩)⟩
theorem winfn_t {name:ByteArray} (h:hasN fnN name=true):CD Tryz.prog 231 [] [.s name] (fun r H'=>∃ t x,r=.ifc t x∧H'=[]):=(winfn_c name).to (by
 rintro r H' ⟨⟨t,x,e,_⟩ | ⟨_,e⟩,e2⟩
 · exact⟨t,x,e,e2⟩
 · rw[h] at e;cases e)
theorem winfn_f {name:ByteArray} (h:hasN fnN name=false):CD Tryz.prog 231 [] [.s name] (fun r H'=>r=.v .nilIface∧H'=[]):=(winfn_c name).to (by
 rintro r H' ⟨⟨t,x,_,e⟩ | ⟨e,_⟩,e2⟩
 · rw[h] at e;cases e
 · exact⟨e,e2⟩)
theorem p_ifc_ne {ty t t':TypeId} {K:Kd} {H:List Hp} {x y:Operand} {T:TypeId} {d:D} (hx:opD K x=some (.ifc T d)) (hy:y=.const .nilIface) (ht:t=20):Pu Tryz.prog (.binOp .neq t x y t') ty K H (dB true):=
 ⟨fun ρ F0 F hk _ _=>by
  subst hy;subst ht
  obtain ⟨u,e,_⟩:=hk.op hx
  exact zc5 (zA ρ [x,.const .nilIface]) (zby ρ e) (zbx ρ rfl) (fun w=>by kernel_rfl) ⟨rfl,rfl⟩⟩
theorem Fn_c (name:ByteArray) :
 CD Tryz.prog 221 [] [.s name] (isR (dB (hasN fnN name))):=by
 refine zp Tryz.func221 J (N:=6) J J (fun C=>?_)
 refine jk [0] J ?_
 refine JD.bd 0 J (fun bd0=>?_)
 have sz0:name.size≤9223372036854775807:=bd0
 rcases Bool.eq_false_or_eq_true (hasN fnN name) with hw | hw
 · skip
   refine jT J (oR 1 J (oZ J (jT J (oR 1 J (oE J (zm [] [] [] J J (.cons ArgC.id .nil) zg Tryz.call231 (winfn_t hw) (.inl J)) ?_)))))
   rintro _ _ ⟨_,⟨tw,xw,rfl,rfl⟩,rfl⟩
   refine on J (oP J (p_ifc_ne J J J) (oR 1 J (oZ J (zn J ?_))))
   exact zh Tryz.results221 (.cons (zx (zl J) (Cv.eq (congrArg (fun b=>D.v (.bool b)) (by rw[hw])))) .nil) rfl HSub.none ⟨rfl,rfl⟩
 · skip
   refine jT J (oR 1 J (oZ J (jT J (oR 1 J (oE J (zm [] [] [] J J (.cons ArgC.id .nil) zg Tryz.call231 (winfn_f hw) (.inl J)) ?_)))))
   rintro _ _ ⟨_,⟨rfl,rfl⟩,rfl⟩
   refine on J (oP J (zdx (r:=.bool false) J J (fun _=>by kernel_rfl)) (oR 1 rfl (oZ rfl (zn rfl ?_))))
   exact zh Tryz.results221 (.cons (zx (zl J) (Cv.eq (congrArg (fun b=>D.v (.bool b)) (by rw[hw])))) .nil) rfl HSub.none ⟨rfl,rfl⟩
theorem kept_c (s:ByteArray) :
 CD Tryz.prog 232 [] [.s s] (isR (dB (zd9 s))):=by
 refine zp Tryz.func232 J (N:=14) J J (fun C=>?_)
 refine jk [0] J ?_
 refine JD.bd 0 J (fun bd0=>?_)
 have sz0:s.size≤9223372036854775807:=bd0
 refine jT J (oR 1 J (oZ J (jS J (jk [0] J ?_))))
 refine zR 2 (((hasN aggN s||hasN fnN s)||hasN [(⟨#[111,114,100,101,114]⟩:ByteArray),(⟨#[108,105,109,105,116]⟩:ByteArray),(⟨#[111,102,102,115,101,116]⟩:ByteArray),(⟨#[97,115,99]⟩:ByteArray),(⟨#[100,101,115,99]⟩:ByteArray),(⟨#[111,110]⟩:ByteArray),(⟨#[105,103,110,111,114,105,110,103]⟩:ByteArray),(⟨#[98,121]⟩:ByteArray),(⟨#[119,105,116,104,111,117,116]⟩:ByteArray)] s)) [] (fun _ hQ1=>?_) ?_
 · skip
   rcases Bool.eq_false_or_eq_true (hasN aggN s) with hg2 | hg2
   · skip
     refine zf J (oR 1 J (oW J J acs Tryz.call29 (Agg_c s) (os 4 J (congrArg (fun b=>D.v (.bool b)) hg2) (oR 10 J (zq J ?_)))))
     exact PD.sub ((2,dB ((hasN aggN s||hasN fnN s)||hasN [(⟨#[111,114,100,101,114]⟩:ByteArray),(⟨#[108,105,109,105,116]⟩:ByteArray),(⟨#[111,102,102,115,101,116]⟩:ByteArray),(⟨#[97,115,99]⟩:ByteArray),(⟨#[100,101,115,99]⟩:ByteArray),(⟨#[111,110]⟩:ByteArray),(⟨#[105,103,110,111,114,105,110,103]⟩:ByteArray),(⟨#[98,121]⟩:ByteArray),(⟨#[119,105,116,104,111,117,116]⟩:ByteArray)] s))::[(0,.s s)]) ⟨sc J (Cv.eq (congrArg (fun b=>D.v (.bool b)) (by first | (simp[hg2];done) | (simp_all;done)))),sk rfl,trivial⟩ hQ1
   · skip
     rcases Bool.eq_false_or_eq_true (hasN fnN s) with hg3 | hg3
     · skip
       refine zf J (oR 1 J (oW J J acs Tryz.call29 (Agg_c s) (os 4 J (congrArg (fun b=>D.v (.bool b)) hg2) (oR 2 J (oV J J acs Tryz.call221 (Fn_c s) (os 7 J (congrArg (fun b=>D.v (.bool b)) hg3) (oR 7 J (zq J ?_))))))))
       exact PD.sub ((2,dB ((hasN aggN s||hasN fnN s)||hasN [(⟨#[111,114,100,101,114]⟩:ByteArray),(⟨#[108,105,109,105,116]⟩:ByteArray),(⟨#[111,102,102,115,101,116]⟩:ByteArray),(⟨#[97,115,99]⟩:ByteArray),(⟨#[100,101,115,99]⟩:ByteArray),(⟨#[111,110]⟩:ByteArray),(⟨#[105,103,110,111,114,105,110,103]⟩:ByteArray),(⟨#[98,121]⟩:ByteArray),(⟨#[119,105,116,104,111,117,116]⟩:ByteArray)] s))::[(0,.s s)]) ⟨sc J (Cv.eq (congrArg (fun b=>D.v (.bool b)) (by first | (simp[hg2,hg3];done) | (simp_all;done)))),sk rfl,trivial⟩ hQ1
     · skip
       refine zf J (oR 1 J (oW J J acs Tryz.call29 (Agg_c s) (os 4 J (congrArg (fun b=>D.v (.bool b)) hg2) (oR 2 J (oV J J acs Tryz.call221 (Fn_c s) (os 7 J (congrArg (fun b=>D.v (.bool b)) hg3) (oR 2 J ?_)))))))
       refine oF J (Qu.ef (d:=.sh 1 ([(⟨#[111,114,100,101,114]⟩:ByteArray),(⟨#[108,105,109,105,116]⟩:ByteArray),(⟨#[111,102,102,115,101,116]⟩:ByteArray),(⟨#[97,115,99]⟩:ByteArray),(⟨#[100,101,115,99]⟩:ByteArray),(⟨#[111,110]⟩:ByteArray),(⟨#[105,103,110,111,114,105,110,103]⟩:ByteArray),(⟨#[98,121]⟩:ByteArray),(⟨#[119,105,116,104,111,117,116]⟩:ByteArray)].map D.s)) ((zy [.const (.string (⟨#[111,114,100,101,114]⟩:ByteArray)),.const (.string (⟨#[108,105,109,105,116]⟩:ByteArray)),.const (.string (⟨#[111,102,102,115,101,116]⟩:ByteArray)),.const (.string (⟨#[97,115,99]⟩:ByteArray)),.const (.string (⟨#[100,101,115,99]⟩:ByteArray)),.const (.string (⟨#[111,110]⟩:ByteArray)),.const (.string (⟨#[105,103,110,111,114,105,110,103]⟩:ByteArray)),.const (.string (⟨#[98,121]⟩:ByteArray)),.const (.string (⟨#[119,105,116,104,111,117,116]⟩:ByteArray))] J J (.cons (CellD.v J) (.cons (CellD.v J) (.cons (CellD.v J) (.cons (CellD.v J) (.cons (CellD.v J) (.cons (CellD.v J) (.cons (CellD.v J) (.cons (CellD.v J) (.cons (CellD.v J) .nil))))))))) J Tryz.runUnderlying23 Tryz.sizeOf9 Tryz.zeroValue9 J J J J).cv (Cv.shs (.cons (Cv.str (by first | decide | (unfold maxLen;omega))) (.cons (Cv.str (by first | decide | (unfold maxLen;omega))) (.cons (Cv.str (by first | decide | (unfold maxLen;omega))) (.cons (Cv.str (by first | decide | (unfold maxLen;omega))) (.cons (Cv.str (by first | decide | (unfold maxLen;omega))) (.cons (Cv.str (by first | decide | (unfold maxLen;omega))) (.cons (Cv.str (by first | decide | (unfold maxLen;omega))) (.cons (Cv.str (by first | decide | (unfold maxLen;omega))) (.cons (Cv.str (by first | decide | (unfold maxLen;omega))) .nil)))))))))))) ?_
       rintro _ _ ⟨rfl,rfl⟩
       refine oR 1 J (oV J J acs Tryz.call46 (containsS_c [(⟨#[111,114,100,101,114]⟩:ByteArray),(⟨#[108,105,109,105,116]⟩:ByteArray),(⟨#[111,102,102,115,101,116]⟩:ByteArray),(⟨#[97,115,99]⟩:ByteArray),(⟨#[100,101,115,99]⟩:ByteArray),(⟨#[111,110]⟩:ByteArray),(⟨#[105,103,110,111,114,105,110,103]⟩:ByteArray),(⟨#[98,121]⟩:ByteArray),(⟨#[119,105,116,104,111,117,116]⟩:ByteArray)] s) (oR 2 J (zq J ?_)))
       exact PD.sub ((2,dB ((hasN aggN s||hasN fnN s)||hasN [(⟨#[111,114,100,101,114]⟩:ByteArray),(⟨#[108,105,109,105,116]⟩:ByteArray),(⟨#[111,102,102,115,101,116]⟩:ByteArray),(⟨#[97,115,99]⟩:ByteArray),(⟨#[100,101,115,99]⟩:ByteArray),(⟨#[111,110]⟩:ByteArray),(⟨#[105,103,110,111,114,105,110,103]⟩:ByteArray),(⟨#[98,121]⟩:ByteArray),(⟨#[119,105,116,104,111,117,116]⟩:ByteArray)] s))::[(0,.s s)]) ⟨sc J (Cv.eq (congrArg (fun b=>D.v (.bool b)) (by first | (simp[hg2,hg3];done) | (simp_all;done)))),sk rfl,trivial⟩ hQ1
 · skip
   refine zj (zn J ?_)
   exact zh Tryz.results232 (.cons (zx (zl J) (Cv.eq (congrArg (fun b=>D.v (.bool b)) (by rfl)))) .nil) rfl HSub.none ⟨rfl,rfl⟩
theorem numbered_c (name:ByteArray) :
 CD Tryz.prog 146 [] [.s name] (isR (dB (zbk name))):=by
 refine zp Tryz.func146 J (N:=9) J J (fun C=>?_)
 refine jk [0] J ?_
 refine JD.bd 0 J (fun bd0=>?_)
 have sz0:name.size≤9223372036854775807:=bd0
 refine jT J (oR 1 J (oZ J (jS J (jk [0] J ?_))))
 refine zR 2 ((decide (name=(⟨#[116,111,112,107]⟩:ByteArray))||decide (name=(⟨#[113,117,97,110,116,105,108,101]⟩:ByteArray)))) [] (fun _ hQ1=>?_) ?_
 · skip
   by_cases hg2:name=(⟨#[116,111,112,107]⟩:ByteArray)
   · skip
     refine zf J (oR 1 J (oP J (zQ J J (decide_eq_true hg2)) (oR 5 J (zq J ?_))))
     exact PD.sub ((2,dB (decide (name=(⟨#[116,111,112,107]⟩:ByteArray))||decide (name=(⟨#[113,117,97,110,116,105,108,101]⟩:ByteArray))))::[(0,.s name)]) ⟨sc J (Cv.eq (congrArg (fun b=>D.v (.bool b)) (by first | (simp[hg2];done) | (simp_all;done)))),sk rfl,trivial⟩ hQ1
   · skip
     refine zf J (oR 1 J (oP J (zQ J J (decide_eq_false hg2)) (oR 2 J (oG J (zQ J J J) (oR 2 J (zq J ?_))))))
     exact PD.sub ((2,dB (decide (name=(⟨#[116,111,112,107]⟩:ByteArray))||decide (name=(⟨#[113,117,97,110,116,105,108,101]⟩:ByteArray))))::[(0,.s name)]) ⟨sc J (Cv.eq (congrArg (fun b=>D.v (.bool b)) (by first | (simp[hg2];done) | (simp_all;done)))),sk rfl,trivial⟩ hQ1
 · skip
   refine zj (zn J ?_)
   exact zh Tryz.results146 (.cons (zx (zl J) (Cv.eq (congrArg (fun b=>D.v (.bool b)) (by rfl)))) .nil) rfl HSub.none ⟨rfl,rfl⟩
theorem op_idx (t:ByteArray):(idxN t 0 [tEq,tNe,zbe,zao]+1:Int)=opM t:=by
 unfold opM
 by_cases h1:t=tEq
 · rw[if_pos h1,h1];decide
 · by_cases h2:t=tNe
   · rw[if_neg h1,if_pos h2,h2];decide
   · by_cases h3:t=zbe
     · rw[if_neg h1,if_neg h2,if_pos h3,h3];decide
     · by_cases h4:t=zao
       · rw[if_neg h1,if_neg h2,if_neg h3,if_pos h4,h4];decide
       · rw[if_neg h1,if_neg h2,if_neg h3,if_neg h4]
         simp only[idxN,if_neg h1,if_neg h2,if_neg h3,if_neg h4];rfl
theorem op_bd (t:ByteArray): -1≤idxN t 0 [tEq,tNe,zbe,zao]∧idxN t 0 [tEq,tNe,zbe,zao]≤3:=by
 have h:=op_idx t
 have h2:0≤opM t∧opM t≤4:=by unfold opM;repeat' split
                             all_goals omega
 omega
theorem opM_c (s:ByteArray) :
 CD Tryz.prog 244 [] [.s s] (isR (dI (opM s))):=by
 refine zp Tryz.func244 J (N:=7) J J (fun C=>?_)
 refine jk [0] J ?_
 refine JD.bd 0 J (fun bd0=>?_)
 have sz0:s.size≤9223372036854775807:=bd0
 have hob: -1≤idxN s 0 [(⟨#[61]⟩:ByteArray),(⟨#[33,61]⟩:ByteArray),(⟨#[61,126]⟩:ByteArray),(⟨#[33,126]⟩:ByteArray)]∧idxN s 0 [(⟨#[61]⟩:ByteArray),(⟨#[33,61]⟩:ByteArray),(⟨#[61,126]⟩:ByteArray),(⟨#[33,126]⟩:ByteArray)]≤3:=op_bd s
 refine jT J (oR 1 J (oZ J (jT J (oE J (Qu.ef (d:=.sh 1 ([(⟨#[61]⟩:ByteArray),(⟨#[33,61]⟩:ByteArray),(⟨#[61,126]⟩:ByteArray),(⟨#[33,126]⟩:ByteArray)].map D.s)) ((zy [.const (.string (⟨#[61]⟩:ByteArray)),.const (.string (⟨#[33,61]⟩:ByteArray)),.const (.string (⟨#[61,126]⟩:ByteArray)),.const (.string (⟨#[33,126]⟩:ByteArray))] J J (.cons (CellD.v J) (.cons (CellD.v J) (.cons (CellD.v J) (.cons (CellD.v J) .nil)))) J Tryz.runUnderlying23 Tryz.sizeOf9 Tryz.zeroValue9 J J J J).cv (Cv.shs (.cons (Cv.str (by first | decide | (unfold maxLen;omega))) (.cons (Cv.str (by first | decide | (unfold maxLen;omega))) (.cons (Cv.str (by first | decide | (unfold maxLen;omega))) (.cons (Cv.str (by first | decide | (unfold maxLen;omega))) .nil))))))) ?_))))
 rintro _ _ ⟨rfl,rfl⟩
 refine oR 1 J (oW J J acs Tryz.call117 (indexS_c [(⟨#[61]⟩:ByteArray),(⟨#[33,61]⟩:ByteArray),(⟨#[61,126]⟩:ByteArray),(⟨#[33,126]⟩:ByteArray)] s) (oP J (zaz (c:=(idxN s 0 [(⟨#[61]⟩:ByteArray),(⟨#[33,61]⟩:ByteArray),(⟨#[61,126]⟩:ByteArray),(⟨#[33,126]⟩:ByteArray)]+1)) J J (zab (by omega) (by omega))) (oR 1 rfl (oZ rfl (zn rfl ?_)))))
 exact zh Tryz.results244 (.cons (zx (zl J) (Cv.eq (congrArg (fun n=>D.v (.int .i64 n)) (by exact op_idx s)))) .nil) rfl HSub.none ⟨rfl,rfl⟩
end Lp
