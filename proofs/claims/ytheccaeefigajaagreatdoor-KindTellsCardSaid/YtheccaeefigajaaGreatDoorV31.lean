import Derived.Test.YtheccaeefigajaaGreatDoorPBook
set_option linter.unusedSimpArgs false
set_option linter.unusedVariables false
set_option maxHeartbeats 4000000
set_option maxRecDepth 100000
namespace Lp
open Go Go.RowKit Go.Proofs
namespace HdYtheccaeefigajaaGreatDoorV31
theorem zd3 {a:Int} (h:0≤a∧a≤255):∀ w,(convert 3 5 (.int .i64 a)).run Tryz.prog w=.ok (.int .u8 a) w:=fun w=>by
 have e:IntKind.u8.wrap a=a:=by simp[IntKind.wrap,IntKind.bits,IntKind.signed];omega
 simp[convert,run_underlying (show Tryz.prog.underlying 3=some _ by kernel_rfl),run_underlying (show Tryz.prog.underlying 5=some _ by kernel_rfl),Conv.intToInt,e]
theorem zbV (b o:Nat):∀ w,(Instr.fieldAt 48 (.pointer (some ⟨b,o,none⟩)) 0).run Tryz.prog w=.ok (.pointer (some ⟨b,o+0,none⟩)) w:=fun _=>by kernel_rfl
theorem fa_48_1 (b o:Nat):∀ w,(Instr.fieldAt 48 (.pointer (some ⟨b,o,none⟩)) 1).run Tryz.prog w=.ok (.pointer (some ⟨b,o+1,none⟩)) w:=fun _=>by kernel_rfl
theorem infz_23:∃ i,Tryz.prog.info? 23=some i∧i.zero=some (.slice none 0 0)∧i.size=1∧i.bytes=24:=zbq (by kernel_rfl)
theorem zcI:∃ i,Tryz.prog.info? 9=some i∧i.zero=some (.string ByteArray.empty)∧i.size=1∧i.bytes=16:=zbq (by kernel_rfl)
theorem zbo:Tryz.prog.underlying 103=some (.slice 5):=by kernel_rfl
theorem zcE:Tryz.prog.underlying 23=some (.slice 9):=by kernel_rfl
theorem und_37:Tryz.prog.underlying 37=some (.slice 23):=by kernel_rfl
end HdYtheccaeefigajaaGreatDoorV31
open HdYtheccaeefigajaaGreatDoorV31
def bkName (i k:Nat):ByteArray:=strOfNums [109,((65+i % 26:Nat):Int),((65+i / 26 % 26:Nat):Int),((48+k % 10:Nat):Int),((48+k / 10 % 10:Nat):Int),((48+k / 100 % 10:Nat):Int)]
def gX (i k:Nat):ByteArray:=bkName i k
theorem name_c (i:Nat) (k:Nat) (hi:i≤1000000) (hk:k≤100000000):
 CD Tryz.prog 161 [] [dN i,dN k] (isR (D.s (bkName i k))):=by
 refine zp Tryz.func161 J (N:=30) J J (fun C=>?_)
 refine jk [0,1] J (jT J (oR 1 J (oZ J (jT J (oR 1 J (oP J (zeP (c:=((i % 26:Nat):Int)) J J (by omega) (by rw[Int.tmod_eq_emod_of_nonneg (by omega)];omega)) (oP rfl (zaz (c:=((65+(i % 26):Nat):Int)) rfl rfl (zab (by omega) (by omega))) (oP rfl (zaK rfl (c:=((65+(i % 26):Nat):Int)) (zd3 (by omega))) (oR 1 rfl (oP rfl (p_quo (c:=((i / 26:Nat):Int)) rfl rfl (by omega) (zab (by rw[Int.tdiv_eq_ediv_of_nonneg (by omega)];omega) (by omega))) (oP rfl (zeP (c:=(((i / 26) % 26:Nat):Int)) rfl rfl (by omega) (by rw[Int.tmod_eq_emod_of_nonneg (by omega)];omega)) (oP rfl (zaz (c:=((65+((i / 26) % 26):Nat):Int)) rfl rfl (zab (by omega) (by omega))) (oP rfl (zaK rfl (c:=((65+((i / 26) % 26):Nat):Int)) (zd3 (by omega))) (oR 1 rfl (oP rfl (zeP (c:=((k % 10:Nat):Int)) rfl rfl (by omega) (by rw[Int.tmod_eq_emod_of_nonneg (by omega)];omega)) (oP rfl (zaz (c:=((48+(k % 10):Nat):Int)) rfl rfl (zab (by omega) (by omega))) (oP rfl (zaK rfl (c:=((48+(k % 10):Nat):Int)) (zd3 (by omega))) (oR 1 rfl (oP rfl (p_quo (c:=((k / 10:Nat):Int)) rfl rfl (by omega) (zab (by rw[Int.tdiv_eq_ediv_of_nonneg (by omega)];omega) (by omega))) (oP rfl (zeP (c:=(((k / 10) % 10:Nat):Int)) rfl rfl (by omega) (by rw[Int.tmod_eq_emod_of_nonneg (by omega)];omega)) ?_))))))))))))))))))))
 refine oP J (zaz (c:=((48+((k / 10) % 10):Nat):Int)) J J (zab (by omega) (by omega))) (oP rfl (zaK rfl (c:=((48+((k / 10) % 10):Nat):Int)) (zd3 (by omega))) (oR 1 rfl (oP rfl (p_quo (c:=((k / 100:Nat):Int)) rfl rfl (by omega) (zab (by rw[Int.tdiv_eq_ediv_of_nonneg (by omega)];omega) (by omega))) (oP rfl (zeP (c:=(((k / 100) % 10:Nat):Int)) rfl rfl (by omega) (by rw[Int.tmod_eq_emod_of_nonneg (by omega)];omega)) (oP rfl (zaz (c:=((48+((k / 100) % 10):Nat):Int)) rfl rfl (zab (by omega) (by omega))) (oP rfl (zaK rfl (c:=((48+((k / 100) % 10):Nat):Int)) (zd3 (by omega))) (oE rfl (zL [.const (.int .u8 109),.tmp 8,.tmp 13,.tmp 17,.tmp 22,.tmp 27] rfl rfl (.cons (CellD.v rfl) (.cons (CellD.v rfl) (.cons (CellD.v rfl) (.cons (CellD.v rfl) (.cons (CellD.v rfl) (.cons (CellD.v rfl) .nil)))))) rfl Tryz.runUnderlying103 Tryz.sizeOf5 Tryz.zeroValue5 rfl rfl rfl rfl) ?_)))))))
 rintro _ _ ⟨g1,rfl,rfl⟩
 refine oP J ((p_bytes (j:=0) (xs:=[109,((65+(i % 26):Nat):Int),((65+((i / 26) % 26):Nat):Int),((48+(k % 10):Nat):Int),((48+((k / 10) % 10):Nat):Int),((48+((k / 100) % 10):Nat):Int)]) J J (by simp) zbo (by kernel_rfl) (by kernel_rfl)).cv (Cv.str (by rw[strOfNums_size];show 6≤maxLen;decide))) (oR 1 rfl (oZ rfl (jk [4] rfl (zn rfl ?_))))
 exact zh Tryz.results161 (.cons (zx (zl J) (Cv.eq (congrArg D.s (by rfl)))) .nil) rfl HSub.none ⟨rfl,rfl⟩
theorem zcz (i f n:Nat) (hi:i≤250) (hf:f≤2000000) (hn:n≤2000000):
 CD Tryz.prog 129 [] [dN i,dN f,dN n] (zdV 1 9 ((mkL gX i f n).map D.s)):=by
 refine zp Tryz.func129 J (N:=24) J J (fun C=>?_)
 refine jk [0,1,2] J ?_
 have hmll:∀ j,(mkL gX i f j).length=j:=fun j=>zaM
 refine jT J (oR 1 J (oZ J (jT J (oR 1 J (oZ J (jS J (jT J (oR 2 J (oZ J (jB J (JD.subH (HSub.nil 1 9) (jl2 (fun (a_:Nat) (b_:Value)=>[(0,dN i),(1,dN f),(2,dN n),(6,dZ),(8,dN (f+a_)),(7,.ov b_)]) (fun a_ b_=>[.sl b_ 1 9 ((mkL gX i f a_).map D.s)]) (fun a_ b_=>(a_≤n)) (fun a_ b_=>n-a_) 0 (.slice none 0 0) J ⟨sk J,sk J,sk J,sk J,sk J,sc J (Cv.ov J),trivial⟩ HSub.rfl' (Nat.zero_le _) ?_))))))))))))
 rintro j v hj
 refine ja J (jn J (jS J (jT J (oR 3 J (oP J (zaz (c:=((f+n:Nat):Int)) J J (zab (by omega) (by omega))) (oP rfl (zN rfl rfl rfl) (oZ rfl ?_)))))))
 refine jD J (fun hc1=>?_) (fun hc1=>?_)
 · skip
   refine zt J (zj (jS J (jB J (zf J (oR 3 J (oW J J acs Tryz.call161 (name_c i (f+j) (by omega) (by omega)) (oE rfl (zL [.tmp 20] rfl rfl (.cons CellD.s .nil) rfl Tryz.runUnderlying23 Tryz.sizeOf9 Tryz.zeroValue9 rfl rfl rfl rfl) ?_)))))))
   rintro _ _ ⟨g2,rfl,rfl⟩
   refine oE J (zP (f:=D.s) (l:=(mkL gX i f j)) (l':=[bkName i (f+j)]) (i:=1) J J J (SrcD.own (j:=0) J J) zcE zcI J J (by unfold maxLen;(try simp only[la,lc,ln,lm,lt',ld,ls,lr]);(try simp only[zaM]);omega) (by (try simp only[la,lc,ln,lm,lt',ld,ls,lr]);(try simp only[zaM]);omega)) ?_
   rintro _ _ ⟨v3,rfl,rfl⟩
   refine on J (oR 1 J (zq J (zB (zj (zf J (oR 1 J (oP J (zaz (c:=(((f+j)+1:Nat):Int)) J J (zab (by omega) (by omega))) (oR 1 rfl (zq rfl (PD.subH (HSub.perm (zc (i:=1) rfl)) (pn rfl (PD.subH (HSub.fst 1 rfl) (pn rfl (PD.norm [.sl v3 1 9 ((mkL gX i f (j+1)).map D.s)] (by rw[mkL_succ];rfl) ?_))))))))))))))
   exact pl2 (j+1) v3 (sa J) HSub.rfl' (by omega) (by omega)
 · skip
   refine zF J (zw (zu (zr (zj (jk [6,7] J (jT J (oR 2 J (oZ J (zn J (PD.subH (HSub.less (zd5 (i:=0) J)) (PD.subH (HSub.turn (h':=.sl v 1 9 ((mkL gX i f n).map D.s)) J (Hp.eq_sl (show List.map D.s (mkL gX i f j)=List.map D.s (mkL gX i f n) from congrArg _ (by rw[show j=n by omega])))) ?_)))))))))))
   exact zew Tryz.results129 (.cons (zl J) .nil) J ⟨_,J,J⟩
theorem putTexts_c (gb:Nat) (vb vw:Value) (c2 c3 c4 c5 c6 c7 c8 c9 c10 c11 c12 c13 c14 c15 c16 c17 c18 c19:D) (K:List (Kp ByteArray)) (hK:K.length≤250) (hKl:∀ x∈K,x.l.length≤1000000):
 CD Tryz.prog 60 ([.bx gb 48 (.agg [.ov vb,.ov vw,c2,c3,c4,c5,c6,c7,c8,c9,c10,c11,c12,c13,c14,c15,c16,c17,c18,c19]),.sl vb 1 23 (K.map Kp.d)]++(K.map (Kp.h 1 9 D.s))) [dP gb 0] (fun r H'=>r=.tup []∧H'=([.bx gb 48 (.agg [.ov vb,.ov vw,c2,c3,c4,c5,c6,c7,c8,c9,c10,c11,c12,c13,c14,c15,c16,c17,c18,c19]),.sl vb 1 23 (K.map Kp.d)]++((putK gX K).map (Kp.h 1 9 D.s)))):=by
 refine zp Tryz.func60 J (N:=43) J J (fun C=>?_)
 refine jk [0] J (jT J (oR 1 J (oZ J (jB J ?_))))
 refine JD.norm ([.bx gb 48 (.agg [.ov vb,.ov vw,c2,c3,c4,c5,c6,c7,c8,c9,c10,c11,c12,c13,c14,c15,c16,c17,c18,c19]),.sl vb 1 23 (K.map Kp.d)]++(((putK gX K).take 0).map (Kp.h 1 9 D.s)++(K.drop 0).map (Kp.h 1 9 D.s))) J ?_
 refine jl1 (fun (a_:Nat)=>[(0,dP gb 0),(2,dN a_)]) (fun a_=>([.bx gb 48 (.agg [.ov vb,.ov vw,c2,c3,c4,c5,c6,c7,c8,c9,c10,c11,c12,c13,c14,c15,c16,c17,c18,c19]),.sl vb 1 23 (K.map Kp.d)]++(((putK gX K).take a_).map (Kp.h 1 9 D.s)++(K.drop a_).map (Kp.h 1 9 D.s)))) (fun a_=>(a_≤K.length)) (fun a_=>K.length-a_) 0 J (sa J) HSub.rfl' (Nat.zero_le _) ?_
 rintro i hi
 refine ja J ?_
 refine JD.norm ([.bx gb 48 (.agg [.ov vb,.ov vw,c2,c3,c4,c5,c6,c7,c8,c9,c10,c11,c12,c13,c14,c15,c16,c17,c18,c19]),.sl vb 1 23 (K.map Kp.d)]++(((putK gX K).take i).map (Kp.h 1 9 D.s)++(K.drop i).map (Kp.h 1 9 D.s))) J ?_
 refine jS J (jT J (oR 3 J (oP J (zd J zbV J) (oP J (ze J (i:=0) J Tryz.isAgg37 J) (oP J (zay (n:=K.length) (j:=1) J J Tryz.runUnderlying37 (List.length_map _)) (oP J (zN J J J) (oZ J ?_)))))))
 refine jD J (fun hc1=>?_) (fun hc1=>?_)
 · skip
   obtain ⟨x1,hx1⟩:=zW K i (by (try simp only[la,lt',ld,zaM]);omega)
   have hxl:=hKl x1 (mem_get hx1)
   have hml:(mkL gX i 0 x1.l.length).length=x1.l.length:=zaM
   refine JD.subH (zeE (A:=[.bx gb 48 (.agg [.ov vb,.ov vw,c2,c3,c4,c5,c6,c7,c8,c9,c10,c11,c12,c13,c14,c15,c16,c17,c18,c19]),.sl vb 1 23 (K.map Kp.d)]) (h:=(Kp.h 1 9 D.s)) (g:=(Kp.h 1 9 D.s)) (P:=((putK gX K).take i)) (K:=(K.drop i)) (R:=(K.drop (i+1))) (x:=x1) (zdp hx1)) ?_
   refine JD.norm ([.sl x1.v 1 9 (x1.l.map D.s),.bx gb 48 (.agg [.ov vb,.ov vw,c2,c3,c4,c5,c6,c7,c8,c9,c10,c11,c12,c13,c14,c15,c16,c17,c18,c19]),.sl vb 1 23 (K.map Kp.d)]++(((putK gX K).take i).map (Kp.h 1 9 D.s)++(K.drop (i+1)).map (Kp.h 1 9 D.s))) J ?_
   refine zt J (zj (jS J (jB J (jT J (oR 3 J (oP J (zd J zbV J) (oP J (ze J (i:=1) J Tryz.isAgg37 J) (oR 1 J (oP J (zT (k:=i) (j:=2) J J J Tryz.runUnderlying37 Tryz.sizeOf23 (by first | rfl | omega) (zK hx1)) (oP rfl (zaC rfl (i:=2) rfl (zK hx1) Tryz.isAgg23 rfl) (oP rfl (zay (n:=x1.l.length) (j:=0) rfl rfl Tryz.runUnderlying23 (List.length_map _)) (oE rfl (zm [] _ [] rfl rfl (.cons ArgC.id (.cons ArgC.id (.cons ArgC.id .nil))) zg Tryz.call129 (zcz i 0 x1.l.length (by omega) (by omega) (by omega)) (.inl rfl)) ?_))))))))))))
   rintro _ _ ⟨_,⟨v2,rfl,rfl⟩,rfl⟩
   refine OpsD.norm ([.sl v2 1 9 ((mkL gX i 0 x1.l.length).map D.s),.sl x1.v 1 9 (x1.l.map D.s),.bx gb 48 (.agg [.ov vb,.ov vw,c2,c3,c4,c5,c6,c7,c8,c9,c10,c11,c12,c13,c14,c15,c16,c17,c18,c19]),.sl vb 1 23 (K.map Kp.d)]++(((putK gX K).take i).map (Kp.h 1 9 D.s)++(K.drop (i+1)).map (Kp.h 1 9 D.s))) J ?_
   refine oR 1 J (oZ J (jT J (oR 1 J (oZ J (jB J (JD.subH (HSub.perm (zc (i:=3) J)) ?_))))))
   refine JD.norm ([.sl vb 1 23 (K.map Kp.d),.sl v2 1 9 ((mkL gX i 0 x1.l.length).map D.s),.sl x1.v 1 9 (x1.l.map D.s),.bx gb 48 (.agg [.ov vb,.ov vw,c2,c3,c4,c5,c6,c7,c8,c9,c10,c11,c12,c13,c14,c15,c16,c17,c18,c19])]++(((putK gX K).take i).map (Kp.h 1 9 D.s)++(K.drop (i+1)).map (Kp.h 1 9 D.s))) J ?_
   refine JD.subH (HSub.perm (zc (i:=3) J)) ?_
   refine JD.norm ([.bx gb 48 (.agg [.ov vb,.ov vw,c2,c3,c4,c5,c6,c7,c8,c9,c10,c11,c12,c13,c14,c15,c16,c17,c18,c19]),.sl vb 1 23 (K.map Kp.d),.sl v2 1 9 ((mkL gX i 0 x1.l.length).map D.s),.sl x1.v 1 9 (x1.l.map D.s)]++(((putK gX K).take i).map (Kp.h 1 9 D.s)++(K.drop (i+1)).map (Kp.h 1 9 D.s))) J ?_
   refine JD.subH (HSub.perm (zc (i:=2) J)) ?_
   refine JD.norm ([.sl v2 1 9 ((mkL gX i 0 x1.l.length).map D.s),.bx gb 48 (.agg [.ov vb,.ov vw,c2,c3,c4,c5,c6,c7,c8,c9,c10,c11,c12,c13,c14,c15,c16,c17,c18,c19]),.sl vb 1 23 (K.map Kp.d),.sl x1.v 1 9 (x1.l.map D.s)]++(((putK gX K).take i).map (Kp.h 1 9 D.s)++(K.drop (i+1)).map (Kp.h 1 9 D.s))) J ?_
   refine JD.subH (HSub.perm (zc (i:=3) J)) ?_
   refine JD.norm ([.sl x1.v 1 9 (x1.l.map D.s),.sl v2 1 9 ((mkL gX i 0 x1.l.length).map D.s),.bx gb 48 (.agg [.ov vb,.ov vw,c2,c3,c4,c5,c6,c7,c8,c9,c10,c11,c12,c13,c14,c15,c16,c17,c18,c19]),.sl vb 1 23 (K.map Kp.d)]++(((putK gX K).take i).map (Kp.h 1 9 D.s)++(K.drop (i+1)).map (Kp.h 1 9 D.s))) J ?_
   refine JD.norm ([.sl x1.v 1 9 (((mkL gX i 0 x1.l.length).take 0++x1.l.drop 0).map D.s),.sl v2 1 9 ((mkL gX i 0 x1.l.length).map D.s),.bx gb 48 (.agg [.ov vb,.ov vw,c2,c3,c4,c5,c6,c7,c8,c9,c10,c11,c12,c13,c14,c15,c16,c17,c18,c19]),.sl vb 1 23 (K.map Kp.d)]++(((putK gX K).take i).map (Kp.h 1 9 D.s)++(K.drop (i+1)).map (Kp.h 1 9 D.s))) J ?_
   refine jl1 (fun (a_:Nat)=>[(0,dP gb 0),(2,dN i),(3,.ov v2),(5,dN i),(6,dP gb 0),(7,dP gb 0),(8,dP gb 0),(9,.ov vb),(10,dN K.length),(11,dB (decide (((i:Nat):Int)<((K.length:Nat):Int)))),(14,dN i),(15,dP gb 0),(16,dP gb 0),(17,dP gb 0),(18,.ov vb),(19,dN i),(20,.v (.pointer (some ⟨bl vb,i*1+0,none⟩))),(21,.ov x1.v),(22,dN x1.l.length),(23,.ov v2),(4,dN a_)]) (fun a_=>([.sl x1.v 1 9 (((mkL gX i 0 x1.l.length).take a_++x1.l.drop a_).map D.s),.sl v2 1 9 ((mkL gX i 0 x1.l.length).map D.s),.bx gb 48 (.agg [.ov vb,.ov vw,c2,c3,c4,c5,c6,c7,c8,c9,c10,c11,c12,c13,c14,c15,c16,c17,c18,c19]),.sl vb 1 23 (K.map Kp.d)]++(((putK gX K).take i).map (Kp.h 1 9 D.s)++(K.drop (i+1)).map (Kp.h 1 9 D.s)))) (fun a_=>(a_≤(mkL gX i 0 x1.l.length).length)) (fun a_=>(mkL gX i 0 x1.l.length).length-a_) 0 J (sa J) HSub.rfl' (Nat.zero_le _) ?_
   rintro k hk
   refine ja J ?_
   refine JD.norm ([.sl x1.v 1 9 (((mkL gX i 0 x1.l.length).take k++x1.l.drop k).map D.s),.sl v2 1 9 ((mkL gX i 0 x1.l.length).map D.s),.bx gb 48 (.agg [.ov vb,.ov vw,c2,c3,c4,c5,c6,c7,c8,c9,c10,c11,c12,c13,c14,c15,c16,c17,c18,c19]),.sl vb 1 23 (K.map Kp.d)]++(((putK gX K).take i).map (Kp.h 1 9 D.s)++(K.drop (i+1)).map (Kp.h 1 9 D.s))) J ?_
   refine jS J (jT J (oR 2 J (oP J (zay (n:=(mkL gX i 0 x1.l.length).length) (j:=1) J J Tryz.runUnderlying23 (List.length_map _)) (oP J (zN J J J) (oZ J ?_)))))
   refine jD J (fun hc3=>?_) (fun hc3=>?_)
   · skip
     refine zt J (zj (jS J (jB J (jk [0,2,3,4,5,6,7,8,9,10,11,14,15,16,17,18,19,20,21,22,23,24,25,26,27] J ?_))))
     refine JD.norm ([.sl x1.v 1 9 (((mkL gX i 0 x1.l.length).take k++x1.l.drop k).map D.s),.sl v2 1 9 ((mkL gX i 0 x1.l.length).map D.s),.bx gb 48 (.agg [.ov vb,.ov vw,c2,c3,c4,c5,c6,c7,c8,c9,c10,c11,c12,c13,c14,c15,c16,c17,c18,c19]),.sl vb 1 23 (K.map Kp.d)]++(((putK gX K).take i).map (Kp.h 1 9 D.s)++(K.drop (i+1)).map (Kp.h 1 9 D.s))) J ?_
     obtain ⟨x2,hx2⟩:=zW (mkL gX i 0 x1.l.length) k (by (try simp only[la,lt',ld,zaM]);omega)
     refine zaX 12 [(30,dP gb 0,none),(31,dP gb 0,none),(32,dP gb 0,none),(33,.ov vb,none),(34,dN i,none),(35,.v (.pointer (some ⟨bl vb,i*1+0,none⟩)),none),(36,.ov x1.v,none),(37,dN k,none),(38,.ov v2,none),(39,dN k,none),(40,.v (.pointer (some ⟨bl v2,k*1+0,none⟩)),none),(41,.s x2,none)] ([.sl x1.v 1 9 (((mkL gX i 0 x1.l.length).take k++x1.l.drop k).map D.s),.sl v2 1 9 ((mkL gX i 0 x1.l.length).map D.s),.bx gb 48 (.agg [.ov vb,.ov vw,c2,c3,c4,c5,c6,c7,c8,c9,c10,c11,c12,c13,c14,c15,c16,c17,c18,c19]),.sl vb 1 23 (K.map Kp.d)]++(((putK gX K).take i).map (Kp.h 1 9 D.s)++(K.drop (i+1)).map (Kp.h 1 9 D.s))) (Hn:=([.sl x1.v 1 9 (((mkL gX i 0 x1.l.length).take k++x1.l.drop k).map D.s),.sl v2 1 9 ((mkL gX i 0 x1.l.length).map D.s),.bx gb 48 (.agg [.ov vb,.ov vw,c2,c3,c4,c5,c6,c7,c8,c9,c10,c11,c12,c13,c14,c15,c16,c17,c18,c19]),.sl vb 1 23 (K.map Kp.d)]++(((putK gX K).take i).map (Kp.h 1 9 D.s)++(K.drop (i+1)).map (Kp.h 1 9 D.s)))) mixed J J J J HSub.rfl' J ⟨sa_p J J J (zG J),sa_p J J J (zbD J),sa_p J J J (zd J zbV J),sa_p J J J (ze J (i:=2) J Tryz.isAgg37 J),sa_p J J J (zG J),sa_p J J J (zT (k:=i) (j:=3) J J J Tryz.runUnderlying37 Tryz.sizeOf23 (by first | rfl | omega) (zK hx1)),sa_p rfl rfl rfl (zaC rfl (i:=3) rfl (zK hx1) Tryz.isAgg23 rfl),sa_p rfl rfl rfl (zG rfl),sa_p rfl rfl rfl (zG rfl),sa_p rfl rfl rfl (zG rfl),sa_p rfl rfl rfl (zT (k:=k) (j:=1) rfl rfl rfl Tryz.runUnderlying23 Tryz.sizeOf9 (by first | rfl | omega) (zK hx2)),sa_p rfl rfl rfl (zaC rfl (i:=1) rfl (zK hx2) Tryz.isAgg9 rfl),trivial⟩ ?_
     refine ok [0,2,3,4,5,6,7,8,9,10,11,14,15,16,17,18,19,20,21,22,23,24,25,26,27,30,31,32,33,34,35,36,37,38,39,40,41] J ?_
     obtain ⟨x3,hx3⟩:=zW ((mkL gX i 0 x1.l.length).take k++x1.l.drop k) k (by (try simp only[la,lt',ld,zaM]);omega)
     refine oP J (zT (k:=k) (j:=0) J J J Tryz.runUnderlying23 Tryz.sizeOf9 (by first | rfl | omega) (zK hx3)) (oE rfl (ef_store_m (f:=D.s) (k:=k) (z:=1) (o:=0) (i:=0) (a':=x2) rfl rfl hx3 rfl (CellD.s) Tryz.sizeOf9 rfl rfl rfl) ?_)
     rintro _ _ ⟨rfl,rfl⟩
     refine OpsD.norm ([.sl x1.v 1 9 ((((mkL gX i 0 x1.l.length).take k++x1.l.drop k).set k x2).map D.s),.sl v2 1 9 ((mkL gX i 0 x1.l.length).map D.s),.bx gb 48 (.agg [.ov vb,.ov vw,c2,c3,c4,c5,c6,c7,c8,c9,c10,c11,c12,c13,c14,c15,c16,c17,c18,c19]),.sl vb 1 23 (K.map Kp.d)]++(((putK gX K).take i).map (Kp.h 1 9 D.s)++(K.drop (i+1)).map (Kp.h 1 9 D.s))) J ?_
     refine zq J (zB (zj (zf J (oR 1 J (oP J (zaz (c:=((k+1:Nat):Int)) J J (zab (by omega) (by omega))) (oR 1 rfl (zq rfl ?_)))))))
     refine PD.norm ([.sl x1.v 1 9 (((mkL gX i 0 x1.l.length).take (k+1)++x1.l.drop (k+1)).map D.s),.sl v2 1 9 ((mkL gX i 0 x1.l.length).map D.s),.bx gb 48 (.agg [.ov vb,.ov vw,c2,c3,c4,c5,c6,c7,c8,c9,c10,c11,c12,c13,c14,c15,c16,c17,c18,c19]),.sl vb 1 23 (K.map Kp.d)]++(((putK gX K).take i).map (Kp.h 1 9 D.s)++(K.drop (i+1)).map (Kp.h 1 9 D.s))) (by rw[put_next hx2 (by rw[zaM])]) ?_
     exact pl1 (k+1) (sa J) HSub.rfl' (by omega) (by omega)
   · skip
     refine zF J (zw (zu (zr (zB (zj (zf J (oR 1 J (oP J (zaz (c:=((i+1:Nat):Int)) J J (zab (by omega) (by omega))) (oR 1 rfl (zq rfl ?_))))))))))
     refine PD.norm ([.sl x1.v 1 9 ((mkL gX i 0 x1.l.length).map D.s),.sl v2 1 9 ((mkL gX i 0 x1.l.length).map D.s),.bx gb 48 (.agg [.ov vb,.ov vw,c2,c3,c4,c5,c6,c7,c8,c9,c10,c11,c12,c13,c14,c15,c16,c17,c18,c19]),.sl vb 1 23 (K.map Kp.d)]++(((putK gX K).take i).map (Kp.h 1 9 D.s)++(K.drop (i+1)).map (Kp.h 1 9 D.s))) (by rw[List.take_of_length_le (by omega),List.drop_eq_nil_of_le (by omega),List.append_nil]) ?_
     refine PD.subH (HSub.perm (zc (i:=3) J)) ?_
     refine PD.norm ([.sl vb 1 23 (K.map Kp.d),.sl x1.v 1 9 ((mkL gX i 0 x1.l.length).map D.s),.sl v2 1 9 ((mkL gX i 0 x1.l.length).map D.s),.bx gb 48 (.agg [.ov vb,.ov vw,c2,c3,c4,c5,c6,c7,c8,c9,c10,c11,c12,c13,c14,c15,c16,c17,c18,c19])]++(((putK gX K).take i).map (Kp.h 1 9 D.s)++(K.drop (i+1)).map (Kp.h 1 9 D.s))) J ?_
     refine PD.subH (HSub.perm (zc (i:=3) J)) ?_
     refine PD.norm ([.bx gb 48 (.agg [.ov vb,.ov vw,c2,c3,c4,c5,c6,c7,c8,c9,c10,c11,c12,c13,c14,c15,c16,c17,c18,c19]),.sl vb 1 23 (K.map Kp.d),.sl x1.v 1 9 ((mkL gX i 0 x1.l.length).map D.s),.sl v2 1 9 ((mkL gX i 0 x1.l.length).map D.s)]++(((putK gX K).take i).map (Kp.h 1 9 D.s)++(K.drop (i+1)).map (Kp.h 1 9 D.s))) J ?_
     refine PD.subH (HSub.perm (zc (i:=2) J)) ?_
     refine PD.norm ([.sl x1.v 1 9 ((mkL gX i 0 x1.l.length).map D.s),.bx gb 48 (.agg [.ov vb,.ov vw,c2,c3,c4,c5,c6,c7,c8,c9,c10,c11,c12,c13,c14,c15,c16,c17,c18,c19]),.sl vb 1 23 (K.map Kp.d),.sl v2 1 9 ((mkL gX i 0 x1.l.length).map D.s)]++(((putK gX K).take i).map (Kp.h 1 9 D.s)++(K.drop (i+1)).map (Kp.h 1 9 D.s))) J ?_
     refine PD.subH (HSub.perm (zc (i:=2) J)) ?_
     refine PD.norm ([.sl vb 1 23 (K.map Kp.d),.sl x1.v 1 9 ((mkL gX i 0 x1.l.length).map D.s),.bx gb 48 (.agg [.ov vb,.ov vw,c2,c3,c4,c5,c6,c7,c8,c9,c10,c11,c12,c13,c14,c15,c16,c17,c18,c19]),.sl v2 1 9 ((mkL gX i 0 x1.l.length).map D.s)]++(((putK gX K).take i).map (Kp.h 1 9 D.s)++(K.drop (i+1)).map (Kp.h 1 9 D.s))) J ?_
     refine PD.subH (HSub.perm (zc (i:=2) J)) ?_
     refine PD.norm ([.bx gb 48 (.agg [.ov vb,.ov vw,c2,c3,c4,c5,c6,c7,c8,c9,c10,c11,c12,c13,c14,c15,c16,c17,c18,c19]),.sl vb 1 23 (K.map Kp.d),.sl x1.v 1 9 ((mkL gX i 0 x1.l.length).map D.s),.sl v2 1 9 ((mkL gX i 0 x1.l.length).map D.s)]++(((putK gX K).take i).map (Kp.h 1 9 D.s)++(K.drop (i+1)).map (Kp.h 1 9 D.s))) J ?_
     refine PD.subH (HSub.perm (zc (i:=2) J)) ?_
     refine PD.norm ([.sl x1.v 1 9 ((mkL gX i 0 x1.l.length).map D.s),.bx gb 48 (.agg [.ov vb,.ov vw,c2,c3,c4,c5,c6,c7,c8,c9,c10,c11,c12,c13,c14,c15,c16,c17,c18,c19]),.sl vb 1 23 (K.map Kp.d),.sl v2 1 9 ((mkL gX i 0 x1.l.length).map D.s)]++(((putK gX K).take i).map (Kp.h 1 9 D.s)++(K.drop (i+1)).map (Kp.h 1 9 D.s))) J ?_
     refine PD.subH (HSub.perm (zc (i:=3) J)) ?_
     refine PD.norm ([.sl v2 1 9 ((mkL gX i 0 x1.l.length).map D.s),.sl x1.v 1 9 ((mkL gX i 0 x1.l.length).map D.s),.bx gb 48 (.agg [.ov vb,.ov vw,c2,c3,c4,c5,c6,c7,c8,c9,c10,c11,c12,c13,c14,c15,c16,c17,c18,c19]),.sl vb 1 23 (K.map Kp.d)]++(((putK gX K).take i).map (Kp.h 1 9 D.s)++(K.drop (i+1)).map (Kp.h 1 9 D.s))) J ?_
     refine PD.subH (HSub.lst 1 J) ?_
     refine PD.norm ([.sl x1.v 1 9 ((mkL gX i 0 x1.l.length).map D.s),.bx gb 48 (.agg [.ov vb,.ov vw,c2,c3,c4,c5,c6,c7,c8,c9,c10,c11,c12,c13,c14,c15,c16,c17,c18,c19]),.sl vb 1 23 (K.map Kp.d)]++(((putK gX K).take i).map (Kp.h 1 9 D.s)++(K.drop (i+1)).map (Kp.h 1 9 D.s))) J ?_
     refine PD.subH (zeR (A:=[.bx gb 48 (.agg [.ov vb,.ov vw,c2,c3,c4,c5,c6,c7,c8,c9,c10,c11,c12,c13,c14,c15,c16,c17,c18,c19]),.sl vb 1 23 (K.map Kp.d)]) (h:=(Kp.h 1 9 D.s)) (g:=(Kp.h 1 9 D.s)) (P:=((putK gX K).take i)) (R:=(K.drop (i+1))) (y:=(Kp.mk x1.v (mkL gX i 0 x1.l.length)))) ?_
     refine PD.norm ([.bx gb 48 (.agg [.ov vb,.ov vw,c2,c3,c4,c5,c6,c7,c8,c9,c10,c11,c12,c13,c14,c15,c16,c17,c18,c19]),.sl vb 1 23 (K.map Kp.d)]++(((putK gX K).take (i+1)).map (Kp.h 1 9 D.s)++(K.drop (i+1)).map (Kp.h 1 9 D.s))) (by rw[putK_step hx1]) ?_
     exact pl1 (i+1) (sa J) HSub.rfl' (by omega) (by omega)
 · skip
   refine zF J (zw (zu (zr ?_)))
   refine PD.norm ([.bx gb 48 (.agg [.ov vb,.ov vw,c2,c3,c4,c5,c6,c7,c8,c9,c10,c11,c12,c13,c14,c15,c16,c17,c18,c19]),.sl vb 1 23 (K.map Kp.d)]++((putK gX K).map (Kp.h 1 9 D.s))) (by first | exact zeF (List.drop_eq_nil_of_le (by omega)) (List.take_of_length_le (by rw[putK_len];omega))) ?_
   exact zbU Tryz.results60 .nil J HSub.rfl' ⟨rfl,J⟩
theorem copyTextsH_c (v:Value) (l:List ByteArray) (hl:l.length≤1000000):
 CD Tryz.prog 47 [.sl v 1 9 (l.map D.s)] [.ov v] (fun r H'=>r=.sh 1 (l.map D.s)∧H'=[.sl v 1 9 (l.map D.s)]):=by
 refine zp Tryz.func47 J (N:=5) J J (fun C=>?_)
 refine jk [0] J (jT J (oR 1 J (oZ J (jT J (oR 1 J (oE J (ef_append_n (f:=D.s) (l':=l) J J (SrcD.own (j:=1) J J) zcE zcI J J (by unfold maxLen;(try simp only[la,lc,ln,lm,lt',ld,ls,lr]);omega) (by (try simp only[la,lc,ln,lm,lt',ld,ls,lr]);omega)) ?_))))))
 rintro _ _ ⟨v1,rfl,rfl⟩
 refine oR 1 J (oZ J (zn J (zbi (Mv.freeze (K':=[(0,.ov v),(2,.sh 1 (l.map D.s)),(3,.ov v),(4,.sh 1 (l.map D.s))]) [.sl v1 1 9 (l.map D.s)] (H1:=[.sl v 1 9 (l.map D.s)]) (H1':=[.sl v 1 9 (l.map D.s)]) ⟨⟨_,J,ArgC.id⟩,⟨_,J,ArgC.own (j:=0) J J⟩,⟨_,J,ArgC.id⟩,⟨_,J,ArgC.own (j:=0) J J⟩,trivial⟩ (.same .nil)) (pn J ?_))))
 exact zh Tryz.results47 (.cons (zl J) .nil) J HSub.rfl' ⟨rfl,J⟩
theorem keepTexts_c (gb:Nat) (vb vw:Value) (c2 c3 c4 c5 c6 c7 c8 c9 c10 c11 c12 c13 c14 c15 c16 c17 c18 c19:D) (K:List (Kp ByteArray)) (W:List (List ByteArray)) (v:Value) (l:List ByteArray) (hK:K.length<200) (hW:W.length<200) (hl:l.length≤1000000):
 CD Tryz.prog 18 [.bx gb 48 (.agg [.ov vb,.ov vw,c2,c3,c4,c5,c6,c7,c8,c9,c10,c11,c12,c13,c14,c15,c16,c17,c18,c19]),.sl vb 1 23 (K.map Kp.d),.sl vw 1 23 (W.map (D.ls 1 D.s)),.sl v 1 9 (l.map D.s)] [dP gb 0,.ov v] (fun r H'=>∃ vb' vw',r=.tup []∧H'=[.bx gb 48 (.agg [.ov vb',.ov vw',c2,c3,c4,c5,c6,c7,c8,c9,c10,c11,c12,c13,c14,c15,c16,c17,c18,c19]),.sl vb' 1 23 ((K++[Kp.mk v l]).map Kp.d),.sl vw' 1 23 ((W++[l]).map (D.ls 1 D.s)),.sl v 1 9 (l.map D.s)]):=by
 refine zp Tryz.func18 J (N:=31) J J (fun C=>?_)
 refine jk [0,1] J (jT J (oR 2 J (oP J (zd J zbV J) (oP J (ze J (i:=0) J Tryz.isAgg37 J) (oP J (zay (n:=K.length) (j:=1) J J Tryz.runUnderlying37 (List.length_map _)) (oP J (zN J J J) (oZ J ?_)))))))
 refine jD J (fun hc1=>?_) (fun hc1=>?_)
 · skip
   refine jT J (oR 3 J (oP J (zd J zbV J) (oP J (ze J (i:=0) J Tryz.isAgg37 J) (oR 1 J (oE J (zL [.tmp 15] J J (.cons CellD.o .nil) J Tryz.runUnderlying37 Tryz.sizeOf23 Tryz.zeroValue23 J J J J) ?_)))))
   rintro _ _ ⟨g2,rfl,rfl⟩
   refine oE J (zP (f:=Kp.d) (l:=K) (l':=[(Kp.mk v l)]) (i:=2) J J J (SrcD.own (j:=0) J J) und_37 infz_23 J J (by unfold maxLen;(try simp only[la,lc,ln,lm,lt',ld,ls,lr]);omega) (by (try simp only[la,lc,ln,lm,lt',ld,ls,lr]);omega)) ?_
   rintro _ _ ⟨v3,rfl,rfl⟩
   refine on J (oR 1 J (oP J (zd J zbV J) (oE J (zi (i:=1) (X':=.agg [.ov v3,.ov vw,c2,c3,c4,c5,c6,c7,c8,c9,c10,c11,c12,c13,c14,c15,c16,c17,c18,c19]) J J J (CellD.o) Tryz.sizeOf37 J J J) ?_)))
   rintro _ _ ⟨rfl,rfl⟩
   refine on J (oZ J (jk [0,1] J (JD.subH (HSub.perm (zc (i:=3) J)) (jn J (JD.subH (HSub.perm (zc (i:=4) J)) (jn J (jk [0,1] J (jn J ?_))))))))
   refine jd_drawo 9 [(20,.q (dP gb 0)),(21,.q (dP gb 0)),(22,.q (dP gb 0)),(23,.q (dP gb 1)),(24,.q (.ov vw)),(25,.q (.ov v)),(26,.e (.sh 1 (l.map D.s)) (fun γ=>[.sl v 1 9 (l.map D.s),.sl vw 1 23 (W.map (D.ls 1 D.s)),.sl (vS g2 1 1) 1 23 ([.ov v]),.bx gb 48 (.agg [.ov v3,.ov vw,c2,c3,c4,c5,c6,c7,c8,c9,c10,c11,c12,c13,c14,c15,c16,c17,c18,c19]),.sl v3 1 23 ((K++[(Kp.mk v l)]).map Kp.d)])),(27,.q (.sh 1 ([l].map (D.ls 1 D.s)))),(28,.o (fun γ=>[.sl v 1 9 (l.map D.s),.sl (γ 8) 1 23 ((W++[l]).map (D.ls 1 D.s)),.sl (vS g2 1 1) 1 23 ([.ov v]),.bx gb 48 (.agg [.ov v3,.ov vw,c2,c3,c4,c5,c6,c7,c8,c9,c10,c11,c12,c13,c14,c15,c16,c17,c18,c19]),.sl v3 1 23 ((K++[(Kp.mk v l)]).map Kp.d)]))] [.sl (vS g2 1 1) 1 23 ([.ov v]),.bx gb 48 (.agg [.ov v3,.ov vw,c2,c3,c4,c5,c6,c7,c8,c9,c10,c11,c12,c13,c14,c15,c16,c17,c18,c19]),.sl v3 1 23 ((K++[(Kp.mk v l)]).map Kp.d)] (Hn:=fun γ=>[.sl v 1 9 (l.map D.s),.sl (γ 8) 1 23 ((W++[l]).map (D.ls 1 D.s)),.sl (vS g2 1 1) 1 23 ([.ov v]),.bx gb 48 (.agg [.ov v3,.ov vw,c2,c3,c4,c5,c6,c7,c8,c9,c10,c11,c12,c13,c14,c15,c16,c17,c18,c19]),.sl v3 1 23 ((K++[(Kp.mk v l)]).map Kp.d)]) mixed rfl rfl (by kernel_rfl) (by kernel_rfl) (by kernel_rfl) (HSub.lst 2 rfl) (fun _=>rfl) (fun γ=>⟨so_p rfl rfl rfl (zG rfl),so_p rfl rfl rfl (zG rfl),so_p rfl rfl rfl (zbD rfl),so_p rfl rfl rfl (zd rfl fa_48_1 rfl),so_p rfl rfl rfl (ze rfl (i:=1) rfl Tryz.isAgg37 rfl),so_p rfl rfl rfl (zG rfl),so_e rfl rfl rfl rfl (((zm [.sl v 1 9 (l.map D.s)] [.sl vw 1 23 (W.map (D.ls 1 D.s)),.sl (vS g2 1 1) 1 23 ([.ov v]),.bx gb 48 (.agg [.ov v3,.ov vw,c2,c3,c4,c5,c6,c7,c8,c9,c10,c11,c12,c13,c14,c15,c16,c17,c18,c19]),.sl v3 1 23 ((K++[(Kp.mk v l)]).map Kp.d)] [] rfl rfl (.cons ArgC.id .nil) zg Tryz.call47 (copyTextsH_c v l hl) (.inl rfl))).mono (by rintro _ _ ⟨_,⟨rfl,rfl⟩,rfl⟩;exact⟨rfl,rfl⟩)) (HSub.lst 2 rfl),so_q rfl rfl rfl (zy [.tmp 26] rfl rfl (.cons CellD.sh .nil) rfl Tryz.runUnderlying37 Tryz.sizeOf23 Tryz.zeroValue23 rfl rfl rfl rfl),so_o rfl rfl rfl rfl ((zP (f:=(D.ls 1 D.s)) (l:=W) (l':=[l]) (i:=1) rfl rfl rfl (SrcD.sh) und_37 infz_23 rfl rfl (by unfold maxLen;(try simp only[la,lc,ln,lm,lt',ld,ls,lr]);omega) (by (try simp only[la,lc,ln,lm,lt',ld,ls,lr]);omega)).mono (by rintro _ _ ⟨v,rfl,rfl⟩;exact⟨v,rfl,rfl⟩)) (fun _=>HSub.lst 2 rfl),trivial⟩) (fun γ=>?_)
   refine ok [0,1,20,21,22,23,24,25,26,27,28] J (oR 1 J (oP J (zd J fa_48_1 J) (oE J (zi (i:=3) (X':=.agg [.ov v3,.ov (γ 8),c2,c3,c4,c5,c6,c7,c8,c9,c10,c11,c12,c13,c14,c15,c16,c17,c18,c19]) J J J (CellD.o) Tryz.sizeOf37 J J J) ?_)))
   rintro _ _ ⟨rfl,rfl⟩
   refine on J (zq J (PD.subH (HSub.perm (zc (i:=1) J)) (pn J (PD.subH (HSub.perm (zc (i:=4) J)) (pn J (PD.subH (HSub.perm (zc (i:=4) J)) (pn J (PD.subH (HSub.fst 4 J) (pn J ?_)))))))))
   exact zbU Tryz.results18 .nil J HSub.rfl' ⟨_,_,J,J⟩
 · skip
   exfalso;omega
theorem stillTexts_c (gb:Nat) (vb vw:Value) (c2 c3 c4 c5 c6 c7 c8 c9 c10 c11 c12 c13 c14 c15 c16 c17 c18 c19:D) (K:List (Kp ByteArray)) (W:List (List ByteArray)) (hK:K.length≤250) (hW:W=K.map (·.l)):
 CD Tryz.prog 48 ([.bx gb 48 (.agg [.ov vb,.ov vw,c2,c3,c4,c5,c6,c7,c8,c9,c10,c11,c12,c13,c14,c15,c16,c17,c18,c19]),.sl vb 1 23 (K.map Kp.d),.sl vw 1 23 (W.map (D.ls 1 D.s))]++(K.map (Kp.h 1 9 D.s))) [dP gb 0] (fun r H'=>r=dB true∧H'=([.bx gb 48 (.agg [.ov vb,.ov vw,c2,c3,c4,c5,c6,c7,c8,c9,c10,c11,c12,c13,c14,c15,c16,c17,c18,c19]),.sl vb 1 23 (K.map Kp.d),.sl vw 1 23 (W.map (D.ls 1 D.s))]++(K.map (Kp.h 1 9 D.s)))):=by
 refine zp Tryz.func48 J (N:=29) J J (fun C=>?_)
 refine jk [0] J (jT J (oR 1 J (oZ J (jS J (jT J (oR 1 J (oZ J (jB J ?_))))))))
 refine JD.norm ([.bx gb 48 (.agg [.ov vb,.ov vw,c2,c3,c4,c5,c6,c7,c8,c9,c10,c11,c12,c13,c14,c15,c16,c17,c18,c19]),.sl vb 1 23 (K.map Kp.d),.sl vw 1 23 (W.map (D.ls 1 D.s))]++((K.take 0).map (Kp.h 1 9 D.s)++(K.drop 0).map (Kp.h 1 9 D.s))) J ?_
 refine jl1 (fun (a_:Nat)=>[(0,dP gb 0),(3,dN a_)]) (fun a_=>([.bx gb 48 (.agg [.ov vb,.ov vw,c2,c3,c4,c5,c6,c7,c8,c9,c10,c11,c12,c13,c14,c15,c16,c17,c18,c19]),.sl vb 1 23 (K.map Kp.d),.sl vw 1 23 (W.map (D.ls 1 D.s))]++((K.take a_).map (Kp.h 1 9 D.s)++(K.drop a_).map (Kp.h 1 9 D.s)))) (fun a_=>(a_≤K.length)) (fun a_=>K.length-a_) 0 J (sa J) HSub.rfl' (Nat.zero_le _) ?_
 rintro i hi
 refine ja J ?_
 refine JD.norm ([.bx gb 48 (.agg [.ov vb,.ov vw,c2,c3,c4,c5,c6,c7,c8,c9,c10,c11,c12,c13,c14,c15,c16,c17,c18,c19]),.sl vb 1 23 (K.map Kp.d),.sl vw 1 23 (W.map (D.ls 1 D.s))]++((K.take i).map (Kp.h 1 9 D.s)++(K.drop i).map (Kp.h 1 9 D.s))) J ?_
 refine jS J (jT J (oR 3 J (oP J (zd J zbV J) (oP J (ze J (i:=0) J Tryz.isAgg37 J) (oP J (zay (n:=K.length) (j:=1) J J Tryz.runUnderlying37 (List.length_map _)) (oP J (zN J J J) (oZ J ?_)))))))
 refine jD J (fun hc1=>?_) (fun hc1=>?_)
 · skip
   obtain ⟨x1,hx1⟩:=zW K i (by omega)
   obtain ⟨w,hw,ew⟩:∃ w,W[i]?=some w∧w=x1.l:=⟨_,by rw[hW,List.getElem?_map,hx1];rfl,rfl⟩
   refine JD.subH (zeE (A:=[.bx gb 48 (.agg [.ov vb,.ov vw,c2,c3,c4,c5,c6,c7,c8,c9,c10,c11,c12,c13,c14,c15,c16,c17,c18,c19]),.sl vb 1 23 (K.map Kp.d),.sl vw 1 23 (W.map (D.ls 1 D.s))]) (h:=(Kp.h 1 9 D.s)) (g:=(Kp.h 1 9 D.s)) (P:=(K.take i)) (K:=(K.drop i)) (R:=(K.drop (i+1))) (x:=x1) (zdp hx1)) ?_
   refine JD.norm ([.sl x1.v 1 9 (x1.l.map D.s),.bx gb 48 (.agg [.ov vb,.ov vw,c2,c3,c4,c5,c6,c7,c8,c9,c10,c11,c12,c13,c14,c15,c16,c17,c18,c19]),.sl vb 1 23 (K.map Kp.d),.sl vw 1 23 (W.map (D.ls 1 D.s))]++((K.take i).map (Kp.h 1 9 D.s)++(K.drop (i+1)).map (Kp.h 1 9 D.s))) J ?_
   refine zt J (zj (jS J (jB J (jS J (jk [0,3,4,5,6,7,8,9,10] J ?_)))))
   refine JD.norm ([.sl x1.v 1 9 (x1.l.map D.s),.bx gb 48 (.agg [.ov vb,.ov vw,c2,c3,c4,c5,c6,c7,c8,c9,c10,c11,c12,c13,c14,c15,c16,c17,c18,c19]),.sl vb 1 23 (K.map Kp.d),.sl vw 1 23 (W.map (D.ls 1 D.s))]++((K.take i).map (Kp.h 1 9 D.s)++(K.drop (i+1)).map (Kp.h 1 9 D.s))) J ?_
   refine zaX 14 [(13,dP gb 0,none),(14,dP gb 0,none),(15,dP gb 0,none),(16,.ov vb,none),(17,dN i,none),(18,.v (.pointer (some ⟨bl vb,i*1+0,none⟩)),none),(19,.ov x1.v,none),(20,dP gb 0,none),(21,dP gb 0,none),(22,dP gb 1,none),(23,.ov vw,none),(24,dN i,none),(25,.v (.pointer (some ⟨bl vw,i*1+0,none⟩)),none),(26,.sh 1 (w.map D.s),none)] ([.sl x1.v 1 9 (x1.l.map D.s),.bx gb 48 (.agg [.ov vb,.ov vw,c2,c3,c4,c5,c6,c7,c8,c9,c10,c11,c12,c13,c14,c15,c16,c17,c18,c19]),.sl vb 1 23 (K.map Kp.d),.sl vw 1 23 (W.map (D.ls 1 D.s))]++((K.take i).map (Kp.h 1 9 D.s)++(K.drop (i+1)).map (Kp.h 1 9 D.s))) (Hn:=([.sl x1.v 1 9 (x1.l.map D.s),.bx gb 48 (.agg [.ov vb,.ov vw,c2,c3,c4,c5,c6,c7,c8,c9,c10,c11,c12,c13,c14,c15,c16,c17,c18,c19]),.sl vb 1 23 (K.map Kp.d),.sl vw 1 23 (W.map (D.ls 1 D.s))]++((K.take i).map (Kp.h 1 9 D.s)++(K.drop (i+1)).map (Kp.h 1 9 D.s)))) mixed J J J J HSub.rfl' J ⟨sa_p J J J (zG J),sa_p J J J (zbD J),sa_p J J J (zd J zbV J),sa_p J J J (ze J (i:=1) J Tryz.isAgg37 J),sa_p J J J (zG J),sa_p J J J (zT (k:=i) (j:=2) J J J Tryz.runUnderlying37 Tryz.sizeOf23 (by first | rfl | omega) (zK hx1)),sa_p rfl rfl rfl (zaC rfl (i:=2) rfl (zK hx1) Tryz.isAgg23 rfl),sa_p rfl rfl rfl (zG rfl),sa_p rfl rfl rfl (zbD rfl),sa_p rfl rfl rfl (zd rfl fa_48_1 rfl),sa_p rfl rfl rfl (ze rfl (i:=1) rfl Tryz.isAgg37 rfl),sa_p rfl rfl rfl (zG rfl),sa_p rfl rfl rfl (zT (k:=i) (j:=3) rfl rfl rfl Tryz.runUnderlying37 Tryz.sizeOf23 (by first | rfl | omega) (zK hw)),sa_p rfl rfl rfl (zaC rfl (i:=3) rfl (zK hw) Tryz.isAgg23 rfl),trivial⟩ ?_
   refine ok [0,3,4,5,6,7,8,9,10,13,14,15,16,17,18,19,20,21,22,23,24,25,26] J (oE J (zm [] _ [.sl x1.v 1 9 (x1.l.map D.s)] J J (.cons (ArgC.own (j:=0) J J) (.cons ArgC.id .nil)) (zbt (j:=0) J zg) Tryz.call21 (zcD x1.l w) (.inr (zcA J))) ?_)
   rintro _ _ ⟨_,⟨rfl,rfl⟩,rfl⟩
   refine OpsD.norm ([.sl x1.v 1 9 (x1.l.map D.s),.bx gb 48 (.agg [.ov vb,.ov vw,c2,c3,c4,c5,c6,c7,c8,c9,c10,c11,c12,c13,c14,c15,c16,c17,c18,c19]),.sl vb 1 23 (K.map Kp.d),.sl vw 1 23 (W.map (D.ls 1 D.s))]++((K.take i).map (Kp.h 1 9 D.s)++(K.drop (i+1)).map (Kp.h 1 9 D.s))) J ?_
   refine oP J (zaZ J) (oZ J ?_)
   refine jC J (fun hc2=>?_) (fun hc2=>?_)
   · simp only[bA,bB,bC,bD,bE,bF,bG,bH,bI,bJ] at hc2
     exfalso;exact hc2 ew.symm
   · simp only[bA,bB,bC,bD,bE,bF,bG,bH,bI,bJ] at hc2
     refine zt J (zB (zj (zf J (oR 1 J (oP J (zaz (c:=((i+1:Nat):Int)) J J (zab (by omega) (by omega))) (oR 1 rfl (zq rfl (PD.subH (zeR (A:=[.bx gb 48 (.agg [.ov vb,.ov vw,c2,c3,c4,c5,c6,c7,c8,c9,c10,c11,c12,c13,c14,c15,c16,c17,c18,c19]),.sl vb 1 23 (K.map Kp.d),.sl vw 1 23 (W.map (D.ls 1 D.s))]) (h:=(Kp.h 1 9 D.s)) (g:=(Kp.h 1 9 D.s)) (P:=(K.take i)) (R:=(K.drop (i+1))) (y:=x1)) ?_))))))))
     refine PD.norm ([.bx gb 48 (.agg [.ov vb,.ov vw,c2,c3,c4,c5,c6,c7,c8,c9,c10,c11,c12,c13,c14,c15,c16,c17,c18,c19]),.sl vb 1 23 (K.map Kp.d),.sl vw 1 23 (W.map (D.ls 1 D.s))]++((K.take (i+1)).map (Kp.h 1 9 D.s)++(K.drop (i+1)).map (Kp.h 1 9 D.s))) (by rw[zaI hx1]) ?_
     exact pl1 (i+1) (sa J) HSub.rfl' (by omega) (by omega)
 · skip
   refine zF J (zw (zu (zr (zj (jk [] J (jT J (oR 1 J (oZ J (zn J ?_)))))))))
   refine PD.norm ([.bx gb 48 (.agg [.ov vb,.ov vw,c2,c3,c4,c5,c6,c7,c8,c9,c10,c11,c12,c13,c14,c15,c16,c17,c18,c19]),.sl vb 1 23 (K.map Kp.d),.sl vw 1 23 (W.map (D.ls 1 D.s))]++(K.map (Kp.h 1 9 D.s))) (by exact zeF (List.drop_eq_nil_of_le (by omega)) (List.take_of_length_le (by omega))) ?_
   exact zh Tryz.results48 (.cons (zl J) .nil) J HSub.rfl' ⟨rfl,J⟩
theorem growTexts_c (gb:Nat) (vb vw:Value) (c2 c3 c4 c5 c6 c7 c8 c9 c10 c11 c12 c13 c14 c15 c16 c17 c18 c19:D) (K:List (Kp ByteArray)) (hK:K.length≤250) (hKl:∀ x∈K,x.l.length≤1000000) (hM:∀ i x,K[i]?=some x→x.l=mkL gX i 0 x.l.length):
 CD Tryz.prog 68 ([.bx gb 48 (.agg [.ov vb,.ov vw,c2,c3,c4,c5,c6,c7,c8,c9,c10,c11,c12,c13,c14,c15,c16,c17,c18,c19]),.sl vb 1 23 (K.map Kp.d)]++(K.map (Kp.h 1 9 D.s))) [dP gb 0] (fun r H'=>∃ go G,r=.ov go∧H'=([.bx gb 48 (.agg [.ov vb,.ov vw,c2,c3,c4,c5,c6,c7,c8,c9,c10,c11,c12,c13,c14,c15,c16,c17,c18,c19]),.sl vb 1 23 (G.map K2.d0),.sl go 1 23 (G.map K2.d1)]++(G.map (K2.h 1 9 D.s)))∧Grown gX K G):=by
 refine zp Tryz.func68 J (N:=43) J J (fun C=>?_)
 refine jk [0] J (jT J (oR 1 J (oZ J (jT J (oR 1 J (oZ J (jS J (jT J (oR 1 J (oZ J (jB J (JD.subH (HSub.nil 1 23) (JD.subH (HSub.perm (zc (i:=2) J)) ?_)))))))))))))
 refine JD.norm ([.sl vb 1 23 (K.map Kp.d),.sl (.slice none 0 0) 1 23 (([]:List (K2 ByteArray)).map K2.d1),.bx gb 48 (.agg [.ov vb,.ov vw,c2,c3,c4,c5,c6,c7,c8,c9,c10,c11,c12,c13,c14,c15,c16,c17,c18,c19])]++(K.map (Kp.h 1 9 D.s))) J ?_
 refine JD.subH (HSub.perm (zc (i:=2) J)) ?_
 refine JD.norm ([.bx gb 48 (.agg [.ov vb,.ov vw,c2,c3,c4,c5,c6,c7,c8,c9,c10,c11,c12,c13,c14,c15,c16,c17,c18,c19]),.sl vb 1 23 (K.map Kp.d),.sl (.slice none 0 0) 1 23 (([]:List (K2 ByteArray)).map K2.d1)]++(K.map (Kp.h 1 9 D.s))) J ?_
 refine JD.norm ([.bx gb 48 (.agg [.ov vb,.ov vw,c2,c3,c4,c5,c6,c7,c8,c9,c10,c11,c12,c13,c14,c15,c16,c17,c18,c19]),.sl vb 1 23 (K.map Kp.d),.sl (.slice none 0 0) 1 23 (([]:List (K2 ByteArray)).map K2.d1)]++(([]:List (K2 ByteArray)).map (K2.h 1 9 D.s)++(K.drop 0).map (Kp.h 1 9 D.s))) J ?_
 refine jl3 (fun (a_:Nat) (b_:Value) (c_:List (K2 ByteArray))=>[(0,dP gb 0),(2,dZ),(4,dN a_),(3,.ov b_)]) (fun a_ b_ c_=>([.bx gb 48 (.agg [.ov vb,.ov vw,c2,c3,c4,c5,c6,c7,c8,c9,c10,c11,c12,c13,c14,c15,c16,c17,c18,c19]),.sl vb 1 23 (K.map Kp.d),.sl b_ 1 23 (c_.map K2.d1)]++(c_.map (K2.h 1 9 D.s)++(K.drop a_).map (Kp.h 1 9 D.s)))) (fun a_ b_ c_=>(a_≤K.length)∧(Grown gX (K.take a_) c_)) (fun a_ b_ c_=>K.length-a_) 0 (.slice none 0 0) [] J ⟨sk J,sk J,sk J,sc J (Cv.ov J),trivial⟩ HSub.rfl' ⟨Nat.zero_le _,Grown.nil⟩ ?_
 rintro i go G ⟨hi,hG⟩
 refine ja J ?_
 refine JD.norm ([.bx gb 48 (.agg [.ov vb,.ov vw,c2,c3,c4,c5,c6,c7,c8,c9,c10,c11,c12,c13,c14,c15,c16,c17,c18,c19]),.sl vb 1 23 (K.map Kp.d),.sl go 1 23 (G.map K2.d1)]++(G.map (K2.h 1 9 D.s)++(K.drop i).map (Kp.h 1 9 D.s))) J ?_
 have hGl:=hG.len;rw[List.length_take] at hGl
 refine jS J (jT J (oR 3 J (oP J (zd J zbV J) (oP J (ze J (i:=0) J Tryz.isAgg37 J) (oP J (zay (n:=K.length) (j:=1) J J Tryz.runUnderlying37 (List.length_map _)) (oP J (zN J J J) (oZ J ?_)))))))
 refine jD J (fun hc1=>?_) (fun hc1=>?_)
 · skip
   obtain ⟨x1,hx1⟩:=zW K i (by omega)
   have hxl:=hKl x1 (mem_get hx1)
   have hxm:=hM i x1 hx1
   refine JD.subH (zeE (A:=[.bx gb 48 (.agg [.ov vb,.ov vw,c2,c3,c4,c5,c6,c7,c8,c9,c10,c11,c12,c13,c14,c15,c16,c17,c18,c19]),.sl vb 1 23 (K.map Kp.d),.sl go 1 23 (G.map K2.d1)]) (h:=(Kp.h 1 9 D.s)) (g:=(K2.h 1 9 D.s)) (P:=G) (K:=(K.drop i)) (R:=(K.drop (i+1))) (x:=x1) (zdp hx1)) ?_
   refine JD.norm ([.sl x1.v 1 9 (x1.l.map D.s),.bx gb 48 (.agg [.ov vb,.ov vw,c2,c3,c4,c5,c6,c7,c8,c9,c10,c11,c12,c13,c14,c15,c16,c17,c18,c19]),.sl vb 1 23 (K.map Kp.d),.sl go 1 23 (G.map K2.d1)]++(G.map (K2.h 1 9 D.s)++(K.drop (i+1)).map (Kp.h 1 9 D.s))) J ?_
   refine zt J (zj (jS J (jB J (jT J (oR 2 J (oP J (zd J zbV J) (oP J (ze J (i:=1) J Tryz.isAgg37 J) (oR 1 J (oP J (zT (k:=i) (j:=2) J J J Tryz.runUnderlying37 Tryz.sizeOf23 (by first | rfl | omega) (zK hx1)) (oP rfl (zaC rfl (i:=2) rfl (zK hx1) Tryz.isAgg23 rfl) (oR 1 rfl (oZ rfl (jS rfl (jT rfl (oR 1 rfl (oZ rfl (jB rfl (JD.subH (HSub.pair x1.l.length (List.length_map _)) ?_))))))))))))))))))
   refine JD.norm ([.sl2 x1.v x1.v 1 9 x1.l.length (x1.l.map D.s),.bx gb 48 (.agg [.ov vb,.ov vw,c2,c3,c4,c5,c6,c7,c8,c9,c10,c11,c12,c13,c14,c15,c16,c17,c18,c19]),.sl vb 1 23 (K.map Kp.d),.sl go 1 23 (G.map K2.d1)]++(G.map (K2.h 1 9 D.s)++(K.drop (i+1)).map (Kp.h 1 9 D.s))) J ?_
   refine jl3 (fun (a_:Nat) (b_:Value) (c_:List ByteArray)=>[(0,dP gb 0),(2,dZ),(3,.ov go),(4,dN i),(7,dN i),(8,dP gb 0),(9,dP gb 0),(10,dP gb 0),(11,.ov vb),(12,dN K.length),(13,dB (decide (((i:Nat):Int)<((K.length:Nat):Int)))),(16,dP gb 0),(17,dP gb 0),(18,dP gb 0),(19,.ov vb),(20,dN i),(21,.v (.pointer (some ⟨bl vb,i*1+0,none⟩))),(22,.ov x1.v),(6,dN a_),(5,.ov b_)]) (fun a_ b_ c_=>([.sl2 x1.v b_ 1 9 x1.l.length (c_.map D.s),.bx gb 48 (.agg [.ov vb,.ov vw,c2,c3,c4,c5,c6,c7,c8,c9,c10,c11,c12,c13,c14,c15,c16,c17,c18,c19]),.sl vb 1 23 (K.map Kp.d),.sl go 1 23 (G.map K2.d1)]++(G.map (K2.h 1 9 D.s)++(K.drop (i+1)).map (Kp.h 1 9 D.s)))) (fun a_ b_ c_=>(a_≤12)∧(c_=mkL gX i 0 (x1.l.length+a_))) (fun a_ b_ c_=>12-a_) 0 x1.v x1.l J (sa J) HSub.rfl' ⟨by omega,hxm⟩ ?_
   rintro n lv L ⟨hn,hL⟩
   refine ja J ?_
   refine JD.norm ([.sl2 x1.v lv 1 9 x1.l.length (L.map D.s),.bx gb 48 (.agg [.ov vb,.ov vw,c2,c3,c4,c5,c6,c7,c8,c9,c10,c11,c12,c13,c14,c15,c16,c17,c18,c19]),.sl vb 1 23 (K.map Kp.d),.sl go 1 23 (G.map K2.d1)]++(G.map (K2.h 1 9 D.s)++(K.drop (i+1)).map (Kp.h 1 9 D.s))) J ?_
   have hLl:=congrArg List.length hL;rw[zaM] at hLl
   refine jS J (jT J (oR 1 J (oP J (zN J J J) (oZ J ?_))))
   refine jD J (fun hc2=>?_) (fun hc2=>?_)
   · skip
     refine zt J (zj (jS J (jB J (zf J (oR 3 J (oP J (p_len_own2 (n:=L.length) (j:=0) J J Tryz.runUnderlying23 (List.length_map _)) (oE J (zm [] _ [] J J (.cons ArgC.id (.cons ArgC.id (.cons ArgC.id .nil))) zg Tryz.call129 (zcz i L.length 1 (by omega) (by omega) (by omega)) (.inl rfl)) ?_)))))))
     rintro _ _ ⟨_,⟨v3,rfl,rfl⟩,rfl⟩
     refine OpsD.norm ([.sl v3 1 9 ((mkL gX i L.length 1).map D.s),.sl2 x1.v lv 1 9 x1.l.length (L.map D.s),.bx gb 48 (.agg [.ov vb,.ov vw,c2,c3,c4,c5,c6,c7,c8,c9,c10,c11,c12,c13,c14,c15,c16,c17,c18,c19]),.sl vb 1 23 (K.map Kp.d),.sl go 1 23 (G.map K2.d1)]++(G.map (K2.h 1 9 D.s)++(K.drop (i+1)).map (Kp.h 1 9 D.s))) J ?_
     refine oE J (ef_append2 (f:=D.s) (l:=L) (l':=(mkL gX i L.length 1)) (i:=1) J J J (SrcD.own (j:=0) J J) zcE zcI J J (by unfold maxLen;(try simp only[la,lc,ln,lm,lt',ld,ls,lr]);(try simp only[zaM]);omega) (by (try simp only[la,lc,ln,lm,lt',ld,ls,lr]);(try simp only[zaM]);omega)) ?_
     rintro _ _ ⟨v4,rfl,rfl⟩
     refine OpsD.norm ([.sl v3 1 9 ((mkL gX i L.length 1).map D.s),.sl2 x1.v v4 1 9 x1.l.length ((L++(mkL gX i L.length 1)).map D.s),.bx gb 48 (.agg [.ov vb,.ov vw,c2,c3,c4,c5,c6,c7,c8,c9,c10,c11,c12,c13,c14,c15,c16,c17,c18,c19]),.sl vb 1 23 (K.map Kp.d),.sl go 1 23 (G.map K2.d1)]++(G.map (K2.h 1 9 D.s)++(K.drop (i+1)).map (Kp.h 1 9 D.s))) J ?_
     refine oR 1 J (zq J (zB (zj (zf J (oR 1 J (oP J (zaz (c:=((n+1:Nat):Int)) J J (zab (by omega) (by omega))) (oR 1 rfl (zq rfl (PD.subH (HSub.perm (zc (i:=4) rfl)) ?_)))))))))
     refine PD.norm ([.sl go 1 23 (G.map K2.d1),.sl v3 1 9 ((mkL gX i L.length 1).map D.s),.sl2 x1.v v4 1 9 x1.l.length ((L++(mkL gX i L.length 1)).map D.s),.bx gb 48 (.agg [.ov vb,.ov vw,c2,c3,c4,c5,c6,c7,c8,c9,c10,c11,c12,c13,c14,c15,c16,c17,c18,c19]),.sl vb 1 23 (K.map Kp.d)]++(G.map (K2.h 1 9 D.s)++(K.drop (i+1)).map (Kp.h 1 9 D.s))) J ?_
     refine PD.subH (HSub.perm (zc (i:=4) J)) ?_
     refine PD.norm ([.sl vb 1 23 (K.map Kp.d),.sl go 1 23 (G.map K2.d1),.sl v3 1 9 ((mkL gX i L.length 1).map D.s),.sl2 x1.v v4 1 9 x1.l.length ((L++(mkL gX i L.length 1)).map D.s),.bx gb 48 (.agg [.ov vb,.ov vw,c2,c3,c4,c5,c6,c7,c8,c9,c10,c11,c12,c13,c14,c15,c16,c17,c18,c19])]++(G.map (K2.h 1 9 D.s)++(K.drop (i+1)).map (Kp.h 1 9 D.s))) J ?_
     refine PD.subH (HSub.perm (zc (i:=4) J)) ?_
     refine PD.norm ([.bx gb 48 (.agg [.ov vb,.ov vw,c2,c3,c4,c5,c6,c7,c8,c9,c10,c11,c12,c13,c14,c15,c16,c17,c18,c19]),.sl vb 1 23 (K.map Kp.d),.sl go 1 23 (G.map K2.d1),.sl v3 1 9 ((mkL gX i L.length 1).map D.s),.sl2 x1.v v4 1 9 x1.l.length ((L++(mkL gX i L.length 1)).map D.s)]++(G.map (K2.h 1 9 D.s)++(K.drop (i+1)).map (Kp.h 1 9 D.s))) J ?_
     refine PD.subH (HSub.perm (zc (i:=4) J)) ?_
     refine PD.norm ([.sl2 x1.v v4 1 9 x1.l.length ((L++(mkL gX i L.length 1)).map D.s),.bx gb 48 (.agg [.ov vb,.ov vw,c2,c3,c4,c5,c6,c7,c8,c9,c10,c11,c12,c13,c14,c15,c16,c17,c18,c19]),.sl vb 1 23 (K.map Kp.d),.sl go 1 23 (G.map K2.d1),.sl v3 1 9 ((mkL gX i L.length 1).map D.s)]++(G.map (K2.h 1 9 D.s)++(K.drop (i+1)).map (Kp.h 1 9 D.s))) J ?_
     refine PD.subH (HSub.perm (zc (i:=3) J)) ?_
     refine PD.norm ([.sl go 1 23 (G.map K2.d1),.sl2 x1.v v4 1 9 x1.l.length ((L++(mkL gX i L.length 1)).map D.s),.bx gb 48 (.agg [.ov vb,.ov vw,c2,c3,c4,c5,c6,c7,c8,c9,c10,c11,c12,c13,c14,c15,c16,c17,c18,c19]),.sl vb 1 23 (K.map Kp.d),.sl v3 1 9 ((mkL gX i L.length 1).map D.s)]++(G.map (K2.h 1 9 D.s)++(K.drop (i+1)).map (Kp.h 1 9 D.s))) J ?_
     refine PD.subH (HSub.perm (zc (i:=3) J)) ?_
     refine PD.norm ([.sl vb 1 23 (K.map Kp.d),.sl go 1 23 (G.map K2.d1),.sl2 x1.v v4 1 9 x1.l.length ((L++(mkL gX i L.length 1)).map D.s),.bx gb 48 (.agg [.ov vb,.ov vw,c2,c3,c4,c5,c6,c7,c8,c9,c10,c11,c12,c13,c14,c15,c16,c17,c18,c19]),.sl v3 1 9 ((mkL gX i L.length 1).map D.s)]++(G.map (K2.h 1 9 D.s)++(K.drop (i+1)).map (Kp.h 1 9 D.s))) J ?_
     refine PD.subH (HSub.perm (zc (i:=3) J)) ?_
     refine PD.norm ([.bx gb 48 (.agg [.ov vb,.ov vw,c2,c3,c4,c5,c6,c7,c8,c9,c10,c11,c12,c13,c14,c15,c16,c17,c18,c19]),.sl vb 1 23 (K.map Kp.d),.sl go 1 23 (G.map K2.d1),.sl2 x1.v v4 1 9 x1.l.length ((L++(mkL gX i L.length 1)).map D.s),.sl v3 1 9 ((mkL gX i L.length 1).map D.s)]++(G.map (K2.h 1 9 D.s)++(K.drop (i+1)).map (Kp.h 1 9 D.s))) J ?_
     refine PD.subH (HSub.perm (zc (i:=3) J)) ?_
     refine PD.norm ([.sl2 x1.v v4 1 9 x1.l.length ((L++(mkL gX i L.length 1)).map D.s),.bx gb 48 (.agg [.ov vb,.ov vw,c2,c3,c4,c5,c6,c7,c8,c9,c10,c11,c12,c13,c14,c15,c16,c17,c18,c19]),.sl vb 1 23 (K.map Kp.d),.sl go 1 23 (G.map K2.d1),.sl v3 1 9 ((mkL gX i L.length 1).map D.s)]++(G.map (K2.h 1 9 D.s)++(K.drop (i+1)).map (Kp.h 1 9 D.s))) J ?_
     refine PD.subH (HSub.perm (zc (i:=4) J)) ?_
     refine PD.norm ([.sl v3 1 9 ((mkL gX i L.length 1).map D.s),.sl2 x1.v v4 1 9 x1.l.length ((L++(mkL gX i L.length 1)).map D.s),.bx gb 48 (.agg [.ov vb,.ov vw,c2,c3,c4,c5,c6,c7,c8,c9,c10,c11,c12,c13,c14,c15,c16,c17,c18,c19]),.sl vb 1 23 (K.map Kp.d),.sl go 1 23 (G.map K2.d1)]++(G.map (K2.h 1 9 D.s)++(K.drop (i+1)).map (Kp.h 1 9 D.s))) J ?_
     refine PD.subH (HSub.lst 1 J) ?_
     refine PD.norm ([.sl2 x1.v v4 1 9 x1.l.length ((L++(mkL gX i L.length 1)).map D.s),.bx gb 48 (.agg [.ov vb,.ov vw,c2,c3,c4,c5,c6,c7,c8,c9,c10,c11,c12,c13,c14,c15,c16,c17,c18,c19]),.sl vb 1 23 (K.map Kp.d),.sl go 1 23 (G.map K2.d1)]++(G.map (K2.h 1 9 D.s)++(K.drop (i+1)).map (Kp.h 1 9 D.s))) J ?_
     exact pl3 (n+1) v4 (L++(mkL gX i L.length 1)) (sa J) HSub.rfl' ⟨by omega,by have hm:=mkL_more hL (l2:=mkL gX i L.length 1) (by rw[hLl]);exact hm⟩ (by omega)
   · skip
     refine zF J (zw (zu (zr (zj (zf J (oR 4 J (oP J (p_len_own2 (n:=L.length) (j:=0) J J Tryz.runUnderlying23 (List.length_map _)) (oE J (zm [] _ [] J J (.cons ArgC.id (.cons ArgC.id (.cons ArgC.id .nil))) zg Tryz.call129 (zcz i L.length 60 (by omega) (by omega) (by omega)) (.inl rfl)) ?_))))))))
     rintro _ _ ⟨_,⟨v5,rfl,rfl⟩,rfl⟩
     refine OpsD.norm ([.sl v5 1 9 ((mkL gX i L.length 60).map D.s),.sl2 x1.v lv 1 9 x1.l.length (L.map D.s),.bx gb 48 (.agg [.ov vb,.ov vw,c2,c3,c4,c5,c6,c7,c8,c9,c10,c11,c12,c13,c14,c15,c16,c17,c18,c19]),.sl vb 1 23 (K.map Kp.d),.sl go 1 23 (G.map K2.d1)]++(G.map (K2.h 1 9 D.s)++(K.drop (i+1)).map (Kp.h 1 9 D.s))) J ?_
     refine oE J (ef_append2 (f:=D.s) (l:=L) (l':=(mkL gX i L.length 60)) (i:=1) J J J (SrcD.own (j:=0) J J) zcE zcI J J (by unfold maxLen;(try simp only[la,lc,ln,lm,lt',ld,ls,lr]);(try simp only[zaM]);omega) (by (try simp only[la,lc,ln,lm,lt',ld,ls,lr]);(try simp only[zaM]);omega)) ?_
     rintro _ _ ⟨v6,rfl,rfl⟩
     refine OpsD.norm ([.sl v5 1 9 ((mkL gX i L.length 60).map D.s),.sl2 x1.v v6 1 9 x1.l.length ((L++(mkL gX i L.length 60)).map D.s),.bx gb 48 (.agg [.ov vb,.ov vw,c2,c3,c4,c5,c6,c7,c8,c9,c10,c11,c12,c13,c14,c15,c16,c17,c18,c19]),.sl vb 1 23 (K.map Kp.d),.sl go 1 23 (G.map K2.d1)]++(G.map (K2.h 1 9 D.s)++(K.drop (i+1)).map (Kp.h 1 9 D.s))) J ?_
     refine oE J (zL [.tmp 39] J J (.cons CellD.o .nil) J Tryz.runUnderlying37 Tryz.sizeOf23 Tryz.zeroValue23 J J J J) ?_
     rintro _ _ ⟨g7,rfl,rfl⟩
     refine oE J (zP (f:=K2.d1) (l:=G) (l':=[(K2.mk x1.v v6 x1.l.length (L++(mkL gX i L.length 60)))]) (i:=5) J J J (SrcD.own (j:=0) J J) und_37 infz_23 J J (by unfold maxLen;(try simp only[la,lc,ln,lm,lt',ld,ls,lr]);(try simp only[zaM]);omega) (by (try simp only[la,lc,ln,lm,lt',ld,ls,lr]);(try simp only[zaM]);omega)) ?_
     rintro _ _ ⟨v8,rfl,rfl⟩
     refine OpsD.norm ([.sl (vS g7 1 1) 1 23 ([.ov v6]),.sl v5 1 9 ((mkL gX i L.length 60).map D.s),.sl2 x1.v v6 1 9 x1.l.length ((L++(mkL gX i L.length 60)).map D.s),.bx gb 48 (.agg [.ov vb,.ov vw,c2,c3,c4,c5,c6,c7,c8,c9,c10,c11,c12,c13,c14,c15,c16,c17,c18,c19]),.sl vb 1 23 (K.map Kp.d),.sl v8 1 23 ((G++[(K2.mk x1.v v6 x1.l.length (L++(mkL gX i L.length 60)))]).map K2.d1)]++(G.map (K2.h 1 9 D.s)++(K.drop (i+1)).map (Kp.h 1 9 D.s))) J ?_
     refine oR 1 J (zq J (zB (zj (zf J (oR 1 J (oP J (zaz (c:=((i+1:Nat):Int)) J J (zab (by omega) (by omega))) (oR 1 rfl (zq rfl (PD.subH (HSub.perm (zc (i:=5) rfl)) ?_)))))))))
     refine PD.norm ([.sl v8 1 23 ((G++[(K2.mk x1.v v6 x1.l.length (L++(mkL gX i L.length 60)))]).map K2.d1),.sl (vS g7 1 1) 1 23 ([.ov v6]),.sl v5 1 9 ((mkL gX i L.length 60).map D.s),.sl2 x1.v v6 1 9 x1.l.length ((L++(mkL gX i L.length 60)).map D.s),.bx gb 48 (.agg [.ov vb,.ov vw,c2,c3,c4,c5,c6,c7,c8,c9,c10,c11,c12,c13,c14,c15,c16,c17,c18,c19]),.sl vb 1 23 (K.map Kp.d)]++(G.map (K2.h 1 9 D.s)++(K.drop (i+1)).map (Kp.h 1 9 D.s))) J ?_
     refine PD.subH (HSub.perm (zc (i:=5) J)) ?_
     refine PD.norm ([.sl vb 1 23 (K.map Kp.d),.sl v8 1 23 ((G++[(K2.mk x1.v v6 x1.l.length (L++(mkL gX i L.length 60)))]).map K2.d1),.sl (vS g7 1 1) 1 23 ([.ov v6]),.sl v5 1 9 ((mkL gX i L.length 60).map D.s),.sl2 x1.v v6 1 9 x1.l.length ((L++(mkL gX i L.length 60)).map D.s),.bx gb 48 (.agg [.ov vb,.ov vw,c2,c3,c4,c5,c6,c7,c8,c9,c10,c11,c12,c13,c14,c15,c16,c17,c18,c19])]++(G.map (K2.h 1 9 D.s)++(K.drop (i+1)).map (Kp.h 1 9 D.s))) J ?_
     refine PD.subH (HSub.perm (zc (i:=5) J)) ?_
     refine PD.norm ([.bx gb 48 (.agg [.ov vb,.ov vw,c2,c3,c4,c5,c6,c7,c8,c9,c10,c11,c12,c13,c14,c15,c16,c17,c18,c19]),.sl vb 1 23 (K.map Kp.d),.sl v8 1 23 ((G++[(K2.mk x1.v v6 x1.l.length (L++(mkL gX i L.length 60)))]).map K2.d1),.sl (vS g7 1 1) 1 23 ([.ov v6]),.sl v5 1 9 ((mkL gX i L.length 60).map D.s),.sl2 x1.v v6 1 9 x1.l.length ((L++(mkL gX i L.length 60)).map D.s)]++(G.map (K2.h 1 9 D.s)++(K.drop (i+1)).map (Kp.h 1 9 D.s))) J ?_
     refine PD.subH (HSub.perm (zc (i:=5) J)) ?_
     refine PD.norm ([.sl2 x1.v v6 1 9 x1.l.length ((L++(mkL gX i L.length 60)).map D.s),.bx gb 48 (.agg [.ov vb,.ov vw,c2,c3,c4,c5,c6,c7,c8,c9,c10,c11,c12,c13,c14,c15,c16,c17,c18,c19]),.sl vb 1 23 (K.map Kp.d),.sl v8 1 23 ((G++[(K2.mk x1.v v6 x1.l.length (L++(mkL gX i L.length 60)))]).map K2.d1),.sl (vS g7 1 1) 1 23 ([.ov v6]),.sl v5 1 9 ((mkL gX i L.length 60).map D.s)]++(G.map (K2.h 1 9 D.s)++(K.drop (i+1)).map (Kp.h 1 9 D.s))) J ?_
     refine PD.subH (HSub.perm (zc (i:=3) J)) ?_
     refine PD.norm ([.sl v8 1 23 ((G++[(K2.mk x1.v v6 x1.l.length (L++(mkL gX i L.length 60)))]).map K2.d1),.sl2 x1.v v6 1 9 x1.l.length ((L++(mkL gX i L.length 60)).map D.s),.bx gb 48 (.agg [.ov vb,.ov vw,c2,c3,c4,c5,c6,c7,c8,c9,c10,c11,c12,c13,c14,c15,c16,c17,c18,c19]),.sl vb 1 23 (K.map Kp.d),.sl (vS g7 1 1) 1 23 ([.ov v6]),.sl v5 1 9 ((mkL gX i L.length 60).map D.s)]++(G.map (K2.h 1 9 D.s)++(K.drop (i+1)).map (Kp.h 1 9 D.s))) J ?_
     refine PD.subH (HSub.perm (zc (i:=3) J)) ?_
     refine PD.norm ([.sl vb 1 23 (K.map Kp.d),.sl v8 1 23 ((G++[(K2.mk x1.v v6 x1.l.length (L++(mkL gX i L.length 60)))]).map K2.d1),.sl2 x1.v v6 1 9 x1.l.length ((L++(mkL gX i L.length 60)).map D.s),.bx gb 48 (.agg [.ov vb,.ov vw,c2,c3,c4,c5,c6,c7,c8,c9,c10,c11,c12,c13,c14,c15,c16,c17,c18,c19]),.sl (vS g7 1 1) 1 23 ([.ov v6]),.sl v5 1 9 ((mkL gX i L.length 60).map D.s)]++(G.map (K2.h 1 9 D.s)++(K.drop (i+1)).map (Kp.h 1 9 D.s))) J ?_
     refine PD.subH (HSub.perm (zc (i:=3) J)) ?_
     refine PD.norm ([.bx gb 48 (.agg [.ov vb,.ov vw,c2,c3,c4,c5,c6,c7,c8,c9,c10,c11,c12,c13,c14,c15,c16,c17,c18,c19]),.sl vb 1 23 (K.map Kp.d),.sl v8 1 23 ((G++[(K2.mk x1.v v6 x1.l.length (L++(mkL gX i L.length 60)))]).map K2.d1),.sl2 x1.v v6 1 9 x1.l.length ((L++(mkL gX i L.length 60)).map D.s),.sl (vS g7 1 1) 1 23 ([.ov v6]),.sl v5 1 9 ((mkL gX i L.length 60).map D.s)]++(G.map (K2.h 1 9 D.s)++(K.drop (i+1)).map (Kp.h 1 9 D.s))) J ?_
     refine PD.subH (HSub.perm (zc (i:=3) J)) ?_
     refine PD.norm ([.sl2 x1.v v6 1 9 x1.l.length ((L++(mkL gX i L.length 60)).map D.s),.bx gb 48 (.agg [.ov vb,.ov vw,c2,c3,c4,c5,c6,c7,c8,c9,c10,c11,c12,c13,c14,c15,c16,c17,c18,c19]),.sl vb 1 23 (K.map Kp.d),.sl v8 1 23 ((G++[(K2.mk x1.v v6 x1.l.length (L++(mkL gX i L.length 60)))]).map K2.d1),.sl (vS g7 1 1) 1 23 ([.ov v6]),.sl v5 1 9 ((mkL gX i L.length 60).map D.s)]++(G.map (K2.h 1 9 D.s)++(K.drop (i+1)).map (Kp.h 1 9 D.s))) J ?_
     refine PD.subH (HSub.perm (zc (i:=5) J)) ?_
     refine PD.norm ([.sl v5 1 9 ((mkL gX i L.length 60).map D.s),.sl2 x1.v v6 1 9 x1.l.length ((L++(mkL gX i L.length 60)).map D.s),.bx gb 48 (.agg [.ov vb,.ov vw,c2,c3,c4,c5,c6,c7,c8,c9,c10,c11,c12,c13,c14,c15,c16,c17,c18,c19]),.sl vb 1 23 (K.map Kp.d),.sl v8 1 23 ((G++[(K2.mk x1.v v6 x1.l.length (L++(mkL gX i L.length 60)))]).map K2.d1),.sl (vS g7 1 1) 1 23 ([.ov v6])]++(G.map (K2.h 1 9 D.s)++(K.drop (i+1)).map (Kp.h 1 9 D.s))) J ?_
     refine PD.subH (HSub.perm (zc (i:=5) J)) ?_
     refine PD.norm ([.sl (vS g7 1 1) 1 23 ([.ov v6]),.sl v5 1 9 ((mkL gX i L.length 60).map D.s),.sl2 x1.v v6 1 9 x1.l.length ((L++(mkL gX i L.length 60)).map D.s),.bx gb 48 (.agg [.ov vb,.ov vw,c2,c3,c4,c5,c6,c7,c8,c9,c10,c11,c12,c13,c14,c15,c16,c17,c18,c19]),.sl vb 1 23 (K.map Kp.d),.sl v8 1 23 ((G++[(K2.mk x1.v v6 x1.l.length (L++(mkL gX i L.length 60)))]).map K2.d1)]++(G.map (K2.h 1 9 D.s)++(K.drop (i+1)).map (Kp.h 1 9 D.s))) J ?_
     refine PD.subH (HSub.lst 2 J) ?_
     refine PD.norm ([.sl2 x1.v v6 1 9 x1.l.length ((L++(mkL gX i L.length 60)).map D.s),.bx gb 48 (.agg [.ov vb,.ov vw,c2,c3,c4,c5,c6,c7,c8,c9,c10,c11,c12,c13,c14,c15,c16,c17,c18,c19]),.sl vb 1 23 (K.map Kp.d),.sl v8 1 23 ((G++[(K2.mk x1.v v6 x1.l.length (L++(mkL gX i L.length 60)))]).map K2.d1)]++(G.map (K2.h 1 9 D.s)++(K.drop (i+1)).map (Kp.h 1 9 D.s))) J ?_
     refine PD.subH (zeR (A:=[.bx gb 48 (.agg [.ov vb,.ov vw,c2,c3,c4,c5,c6,c7,c8,c9,c10,c11,c12,c13,c14,c15,c16,c17,c18,c19]),.sl vb 1 23 (K.map Kp.d),.sl v8 1 23 ((G++[(K2.mk x1.v v6 x1.l.length (L++(mkL gX i L.length 60)))]).map K2.d1)]) (h:=(Kp.h 1 9 D.s)) (g:=(K2.h 1 9 D.s)) (P:=G) (R:=(K.drop (i+1))) (y:=(K2.mk x1.v v6 x1.l.length (L++(mkL gX i L.length 60))))) ?_
     refine PD.norm ([.bx gb 48 (.agg [.ov vb,.ov vw,c2,c3,c4,c5,c6,c7,c8,c9,c10,c11,c12,c13,c14,c15,c16,c17,c18,c19]),.sl vb 1 23 (K.map Kp.d),.sl v8 1 23 ((G++[(K2.mk x1.v v6 x1.l.length (L++(mkL gX i L.length 60)))]).map K2.d1)]++((G++[(K2.mk x1.v v6 x1.l.length (L++(mkL gX i L.length 60)))]).map (K2.h 1 9 D.s)++(K.drop (i+1)).map (Kp.h 1 9 D.s))) (by rfl) ?_
     exact pl3 (i+1) v8 (G++[(K2.mk x1.v v6 x1.l.length (L++(mkL gX i L.length 60)))]) (sa J) HSub.rfl' ⟨by omega,hG.snoc hx1 (by have hm:=mkL_more hL (l2:=mkL gX i L.length 60) (by rw[hLl]);rw[hm,show x1.l.length+n+60=x1.l.length+72 by omega]) (by omega)⟩ (by omega)
 · skip
   refine zF J (zw (zu (zr (zj (jk [2,3] J (jT J (oR 2 J (oZ J (zn J ?_)))))))))
   rw[List.take_of_length_le (by omega)] at hG
   refine PD.norm ([.bx gb 48 (.agg [.ov vb,.ov vw,c2,c3,c4,c5,c6,c7,c8,c9,c10,c11,c12,c13,c14,c15,c16,c17,c18,c19]),.sl vb 1 23 (G.map K2.d0),.sl go 1 23 (G.map K2.d1)]++(G.map (K2.h 1 9 D.s))) (by rw[hG.v0];exact zeF (List.drop_eq_nil_of_le (by omega)) rfl) ?_
   exact zh Tryz.results68 (.cons (zl J) .nil) J HSub.rfl' ⟨go,G,J,J,hG⟩
theorem markedTextsN_c (go:Value) (G:List (K2 ByteArray)) (hK:G.length≤250) (hA:∀ i y,G[i]?=some y→y.l=mkL gX i 0 (y.m+72)∧y.m≤1000000):
 CD Tryz.prog 78 ([.sl go 1 23 (G.map K2.d1)]++(G.map (K2.h 1 9 D.s))) [.ov go] (fun r H'=>r=dB true∧H'=([.sl go 1 23 (G.map K2.d1)]++(G.map (K2.h 1 9 D.s)))):=by
 refine zp Tryz.func78 J (N:=23) J J (fun C=>?_)
 refine jk [0] J (jT J (oR 1 J (oZ J (jS J (jT J (oR 1 J (oZ J (jB J ?_))))))))
 refine JD.norm ([.sl go 1 23 (G.map K2.d1)]++((G.take 0).map (K2.h 1 9 D.s)++(G.drop 0).map (K2.h 1 9 D.s))) J ?_
 refine jl1 (fun (a_:Nat)=>[(0,.ov go),(3,dN a_)]) (fun a_=>([.sl go 1 23 (G.map K2.d1)]++((G.take a_).map (K2.h 1 9 D.s)++(G.drop a_).map (K2.h 1 9 D.s)))) (fun a_=>(a_≤G.length)) (fun a_=>G.length-a_) 0 J (sa J) HSub.rfl' (Nat.zero_le _) ?_
 rintro i hi
 refine ja J ?_
 refine JD.norm ([.sl go 1 23 (G.map K2.d1)]++((G.take i).map (K2.h 1 9 D.s)++(G.drop i).map (K2.h 1 9 D.s))) J ?_
 refine jS J (jT J (oR 2 J (oP J (zay (n:=G.length) (j:=0) J J Tryz.runUnderlying37 (List.length_map _)) (oP J (zN J J J) (oZ J ?_)))))
 refine jD J (fun hc1=>?_) (fun hc1=>?_)
 · skip
   obtain ⟨x1,hx1⟩:=zW G i (by omega)
   obtain ⟨hxe,hxb⟩:=hA i x1 hx1
   have hxl:x1.l.length=x1.m+72:=by rw[hxe,zaM]
   refine JD.subH (zeE (A:=[.sl go 1 23 (G.map K2.d1)]) (h:=(K2.h 1 9 D.s)) (g:=(K2.h 1 9 D.s)) (P:=(G.take i)) (K:=(G.drop i)) (R:=(G.drop (i+1))) (x:=x1) (zdp hx1)) ?_
   refine JD.norm ([.sl2 x1.v0 x1.v 1 9 x1.m (x1.l.map D.s),.sl go 1 23 (G.map K2.d1)]++((G.take i).map (K2.h 1 9 D.s)++(G.drop (i+1)).map (K2.h 1 9 D.s))) J ?_
   refine zt J (zj (jS J (jB J (jS J (jk [0,3,4,5,6,7] J ?_)))))
   refine JD.norm ([.sl2 x1.v0 x1.v 1 9 x1.m (x1.l.map D.s),.sl go 1 23 (G.map K2.d1)]++((G.take i).map (K2.h 1 9 D.s)++(G.drop (i+1)).map (K2.h 1 9 D.s))) J ?_
   refine zaX 11 [(10,.ov go,none),(11,dN i,none),(12,.v (.pointer (some ⟨bl go,i*1+0,none⟩)),none),(13,.ov x1.v,none),(14,dN i,none),(15,.ov go,none),(16,dN i,none),(17,.v (.pointer (some ⟨bl go,i*1+0,none⟩)),none),(18,.ov x1.v,none),(19,dN x1.l.length,none),(20,.sh 1 ((mkL gX i 0 x1.l.length).map D.s),none)] ([.sl2 x1.v0 x1.v 1 9 x1.m (x1.l.map D.s),.sl go 1 23 (G.map K2.d1)]++((G.take i).map (K2.h 1 9 D.s)++(G.drop (i+1)).map (K2.h 1 9 D.s))) (Hn:=([.sl2 x1.v0 x1.v 1 9 x1.m (x1.l.map D.s),.sl go 1 23 (G.map K2.d1)]++((G.take i).map (K2.h 1 9 D.s)++(G.drop (i+1)).map (K2.h 1 9 D.s)))) mixed J J J J HSub.rfl' J ⟨sa_p J J J (zG J),sa_p J J J (zG J),sa_p J J J (zT (k:=i) (j:=1) J J J Tryz.runUnderlying37 Tryz.sizeOf23 (by first | rfl | omega) (zK hx1)),sa_p rfl rfl rfl (zaC rfl (i:=1) rfl (zK hx1) Tryz.isAgg23 rfl),sa_p rfl rfl rfl (zG rfl),sa_p rfl rfl rfl (zG rfl),sa_p rfl rfl rfl (zG rfl),sa_p rfl rfl rfl (zT (k:=i) (j:=1) rfl rfl rfl Tryz.runUnderlying37 Tryz.sizeOf23 (by first | rfl | omega) (zK hx1)),sa_p rfl rfl rfl (zaC rfl (i:=1) rfl (zK hx1) Tryz.isAgg23 rfl),sa_p rfl rfl rfl (p_len_own2 (n:=x1.l.length) (j:=0) rfl rfl Tryz.runUnderlying23 (List.length_map _)),sa_q rfl rfl rfl (zbS rfl (.cons Cv.rfl' (.cons Cv.rfl' (.cons Cv.rfl' .nil))) Tryz.call129 (zcz i 0 x1.l.length (by omega) (by omega) (by omega)) isOwn_share),trivial⟩ ?_
   refine ok [0,3,4,5,6,7,10,11,12,13,14,15,16,17,18,19,20] J (oE J (zm [] _ [.sl2 x1.v0 x1.v 1 9 x1.m (x1.l.map D.s)] J J (.cons (ArgC.now (j:=0) J J) (.cons ArgC.id .nil)) (zbt (j:=0) J zg) Tryz.call21 (zcD x1.l (mkL gX i 0 x1.l.length)) (.inr (zcA J))) ?_)
   rintro _ _ ⟨_,⟨rfl,rfl⟩,rfl⟩
   refine OpsD.norm ([.sl2 x1.v0 x1.v 1 9 x1.m (x1.l.map D.s),.sl go 1 23 (G.map K2.d1)]++((G.take i).map (K2.h 1 9 D.s)++(G.drop (i+1)).map (K2.h 1 9 D.s))) J ?_
   refine oP J (zaZ J) (oZ J ?_)
   refine jC J (fun hc2=>?_) (fun hc2=>?_)
   · simp only[bA,bB,bC,bD,bE,bF,bG,bH,bI,bJ] at hc2
     exfalso;exact hc2 (show x1.l=mkL gX i 0 x1.l.length by rw[hxl];exact hxe)
   · simp only[bA,bB,bC,bD,bE,bF,bG,bH,bI,bJ] at hc2
     refine zt J (zB (zj (zf J (oR 1 J (oP J (zaz (c:=((i+1:Nat):Int)) J J (zab (by omega) (by omega))) (oR 1 rfl (zq rfl (PD.subH (zeR (A:=[.sl go 1 23 (G.map K2.d1)]) (h:=(K2.h 1 9 D.s)) (g:=(K2.h 1 9 D.s)) (P:=(G.take i)) (R:=(G.drop (i+1))) (y:=x1)) ?_))))))))
     refine PD.norm ([.sl go 1 23 (G.map K2.d1)]++((G.take (i+1)).map (K2.h 1 9 D.s)++(G.drop (i+1)).map (K2.h 1 9 D.s))) (by rw[zaI hx1]) ?_
     exact pl1 (i+1) (sa J) HSub.rfl' (by omega) (by omega)
 · skip
   refine zF J (zw (zu (zr (zj (jT J (oR 1 J (oZ J (zn J ?_))))))))
   refine PD.norm ([.sl go 1 23 (G.map K2.d1)]++(G.map (K2.h 1 9 D.s))) (by exact zeF (List.drop_eq_nil_of_le (by omega)) (List.take_of_length_le (by omega))) ?_
   exact zh Tryz.results78 (.cons (zl J) .nil) J HSub.rfl' ⟨rfl,J⟩
theorem markedTextsW_c (go:Value) (G:List (K2 ByteArray)) (hK:G.length≤250) (hA:∀ i y,G[i]?=some y→y.l=mkL gX i 0 (y.m+72)∧y.m≤1000000):
 CD Tryz.prog 78 ([.sl go 1 23 (G.map K2.d0)]++(G.map (K2.h 1 9 D.s))) [.ov go] (fun r H'=>r=dB true∧H'=([.sl go 1 23 (G.map K2.d0)]++(G.map (K2.h 1 9 D.s)))):=by
 refine zp Tryz.func78 J (N:=23) J J (fun C=>?_)
 refine jk [0] J (jT J (oR 1 J (oZ J (jS J (jT J (oR 1 J (oZ J (jB J ?_))))))))
 refine JD.norm ([.sl go 1 23 (G.map K2.d0)]++((G.take 0).map (K2.h 1 9 D.s)++(G.drop 0).map (K2.h 1 9 D.s))) J ?_
 refine jl1 (fun (a_:Nat)=>[(0,.ov go),(3,dN a_)]) (fun a_=>([.sl go 1 23 (G.map K2.d0)]++((G.take a_).map (K2.h 1 9 D.s)++(G.drop a_).map (K2.h 1 9 D.s)))) (fun a_=>(a_≤G.length)) (fun a_=>G.length-a_) 0 J (sa J) HSub.rfl' (Nat.zero_le _) ?_
 rintro i hi
 refine ja J ?_
 refine JD.norm ([.sl go 1 23 (G.map K2.d0)]++((G.take i).map (K2.h 1 9 D.s)++(G.drop i).map (K2.h 1 9 D.s))) J ?_
 refine jS J (jT J (oR 2 J (oP J (zay (n:=G.length) (j:=0) J J Tryz.runUnderlying37 (List.length_map _)) (oP J (zN J J J) (oZ J ?_)))))
 refine jD J (fun hc1=>?_) (fun hc1=>?_)
 · skip
   obtain ⟨x1,hx1⟩:=zW G i (by omega)
   obtain ⟨hxe,hxb⟩:=hA i x1 hx1
   have hxl:x1.l.length=x1.m+72:=by rw[hxe,zaM]
   have hxt:(x1.l.take x1.m).length=x1.m:=by rw[List.length_take];omega
   refine JD.subH (zeE (A:=[.sl go 1 23 (G.map K2.d0)]) (h:=(K2.h 1 9 D.s)) (g:=(K2.h 1 9 D.s)) (P:=(G.take i)) (K:=(G.drop i)) (R:=(G.drop (i+1))) (x:=x1) (zdp hx1)) ?_
   refine JD.norm ([.sl2 x1.v0 x1.v 1 9 x1.m (x1.l.map D.s),.sl go 1 23 (G.map K2.d0)]++((G.take i).map (K2.h 1 9 D.s)++(G.drop (i+1)).map (K2.h 1 9 D.s))) J ?_
   refine zt J (zj (jS J (jB J (jS J (jk [0,3,4,5,6,7] J ?_)))))
   refine JD.norm ([.sl2 x1.v0 x1.v 1 9 x1.m (x1.l.map D.s),.sl go 1 23 (G.map K2.d0)]++((G.take i).map (K2.h 1 9 D.s)++(G.drop (i+1)).map (K2.h 1 9 D.s))) J ?_
   refine zaX 11 [(10,.ov go,none),(11,dN i,none),(12,.v (.pointer (some ⟨bl go,i*1+0,none⟩)),none),(13,.ov x1.v0,none),(14,dN i,none),(15,.ov go,none),(16,dN i,none),(17,.v (.pointer (some ⟨bl go,i*1+0,none⟩)),none),(18,.ov x1.v0,none),(19,dN ((x1.l.take x1.m).length),none),(20,.sh 1 ((mkL gX i 0 ((x1.l.take x1.m).length)).map D.s),none)] ([.sl2 x1.v0 x1.v 1 9 x1.m (x1.l.map D.s),.sl go 1 23 (G.map K2.d0)]++((G.take i).map (K2.h 1 9 D.s)++(G.drop (i+1)).map (K2.h 1 9 D.s))) (Hn:=([.sl2 x1.v0 x1.v 1 9 x1.m (x1.l.map D.s),.sl go 1 23 (G.map K2.d0)]++((G.take i).map (K2.h 1 9 D.s)++(G.drop (i+1)).map (K2.h 1 9 D.s)))) mixed J J J J HSub.rfl' J ⟨sa_p J J J (zG J),sa_p J J J (zG J),sa_p J J J (zT (k:=i) (j:=1) J J J Tryz.runUnderlying37 Tryz.sizeOf23 (by first | rfl | omega) (zK hx1)),sa_p rfl rfl rfl (zaC rfl (i:=1) rfl (zK hx1) Tryz.isAgg23 rfl),sa_p rfl rfl rfl (zG rfl),sa_p rfl rfl rfl (zG rfl),sa_p rfl rfl rfl (zG rfl),sa_p rfl rfl rfl (zT (k:=i) (j:=1) rfl rfl rfl Tryz.runUnderlying37 Tryz.sizeOf23 (by first | rfl | omega) (zK hx1)),sa_p rfl rfl rfl (zaC rfl (i:=1) rfl (zK hx1) Tryz.isAgg23 rfl),sa_p rfl rfl rfl (p_len_own0 (n:=(x1.l.take x1.m).length) (j:=0) rfl rfl Tryz.runUnderlying23 (by rw[List.length_take,List.length_take,List.length_map])),sa_q rfl rfl rfl (zbS rfl (.cons Cv.rfl' (.cons Cv.rfl' (.cons Cv.rfl' .nil))) Tryz.call129 (zcz i 0 ((x1.l.take x1.m).length) (by omega) (by omega) (by omega)) isOwn_share),trivial⟩ ?_
   refine ok [0,3,4,5,6,7,10,11,12,13,14,15,16,17,18,19,20] J (oE J (zm [] _ [.sl2 x1.v0 x1.v 1 9 x1.m (x1.l.map D.s)] J J (.cons (ArgC.was (j:=0) J J) (.cons ArgC.id .nil)) (zbt (j:=0) J zg) Tryz.call21 (zcD (x1.l.take x1.m) (mkL gX i 0 ((x1.l.take x1.m).length))) (.inr (zcA J))) ?_)
   rintro _ _ ⟨_,⟨rfl,rfl⟩,rfl⟩
   refine OpsD.norm ([.sl2 x1.v0 x1.v 1 9 x1.m (x1.l.map D.s),.sl go 1 23 (G.map K2.d0)]++((G.take i).map (K2.h 1 9 D.s)++(G.drop (i+1)).map (K2.h 1 9 D.s))) J ?_
   refine oP J (zaZ J) (oZ J ?_)
   refine jC J (fun hc2=>?_) (fun hc2=>?_)
   · simp only[bA,bB,bC,bD,bE,bF,bG,bH,bI,bJ] at hc2
     exfalso;exact hc2 (show x1.l.take x1.m=mkL gX i 0 (x1.l.take x1.m).length by rw[hxt,hxe,mkL_take (by omega)])
   · simp only[bA,bB,bC,bD,bE,bF,bG,bH,bI,bJ] at hc2
     refine zt J (zB (zj (zf J (oR 1 J (oP J (zaz (c:=((i+1:Nat):Int)) J J (zab (by omega) (by omega))) (oR 1 rfl (zq rfl (PD.subH (zeR (A:=[.sl go 1 23 (G.map K2.d0)]) (h:=(K2.h 1 9 D.s)) (g:=(K2.h 1 9 D.s)) (P:=(G.take i)) (R:=(G.drop (i+1))) (y:=x1)) ?_))))))))
     refine PD.norm ([.sl go 1 23 (G.map K2.d0)]++((G.take (i+1)).map (K2.h 1 9 D.s)++(G.drop (i+1)).map (K2.h 1 9 D.s))) (by rw[zaI hx1]) ?_
     exact pl1 (i+1) (sa J) HSub.rfl' (by omega) (by omega)
 · skip
   refine zF J (zw (zu (zr (zj (jT J (oR 1 J (oZ J (zn J ?_))))))))
   refine PD.norm ([.sl go 1 23 (G.map K2.d0)]++(G.map (K2.h 1 9 D.s))) (by exact zeF (List.drop_eq_nil_of_le (by omega)) (List.take_of_length_le (by omega))) ?_
   exact zh Tryz.results78 (.cons (zl J) .nil) J HSub.rfl' ⟨rfl,J⟩
end Lp
