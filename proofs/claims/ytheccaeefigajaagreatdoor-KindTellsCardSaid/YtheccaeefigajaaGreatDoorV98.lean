import Derived.Test.YtheccaeefigajaaGreatDoorV97
set_option linter.unusedSimpArgs false
set_option linter.unusedVariables false
set_option maxHeartbeats 4000000
set_option maxRecDepth 100000
namespace Lp
open Go Go.RowKit Go.Proofs
namespace HdYtheccaeefigajaaGreatDoorV98
theorem zed:∀ w,((#[⟨"Op",9,0,false, "", "",0⟩,⟨"Text",9,1,false, "", "",16⟩,⟨"N",3,2,false, "", "",32⟩,⟨"Mode",3,3,false, "", "",40⟩,⟨"Names",23,4,false, "", "",48⟩,⟨"Matchers",24,5,false, "", "",72⟩,⟨"Kids",25,6,false, "", "",96⟩]:Array Field).mapM fun f=>do pure (f.offset,←Go.sizeOf f.type):Sem (Array (Nat×Nat))).run Tryz.prog w=.ok ([(0,1),(1,1),(2,1),(3,1),(4,1),(5,1),(6,1)]:List (Nat×Nat)).toArray w:=fun _=>by kernel_rfl
theorem bd_65:∀ w,((#[⟨"Name",9,0,false, "", "",0⟩,⟨"Op",3,1,false, "", "",16⟩,⟨"Value",9,2,false, "", "",24⟩]:Array Field).mapM fun f=>do pure (f.offset,←Go.sizeOf f.type):Sem (Array (Nat×Nat))).run Tryz.prog w=.ok ([(0,1),(1,1),(2,1)]:List (Nat×Nat)).toArray w:=fun _=>by kernel_rfl
theorem zbr (b o:Nat):∀ w,(Instr.fieldAt 135 (.pointer (some ⟨b,o,none⟩)) 0).run Tryz.prog w=.ok (.pointer (some ⟨b,o+0,none⟩)) w:=fun _=>by kernel_rfl
theorem zcB (b o:Nat):∀ w,(Instr.fieldAt 135 (.pointer (some ⟨b,o,none⟩)) 2).run Tryz.prog w=.ok (.pointer (some ⟨b,o+2,none⟩)) w:=fun _=>by kernel_rfl
theorem zaA (b o:Nat):∀ w,(Instr.fieldAt 27 (.pointer (some ⟨b,o,none⟩)) 1).run Tryz.prog w=.ok (.pointer (some ⟨b,o+1,none⟩)) w:=fun _=>by kernel_rfl
theorem zaD (b o:Nat):∀ w,(Instr.fieldAt 27 (.pointer (some ⟨b,o,none⟩)) 2).run Tryz.prog w=.ok (.pointer (some ⟨b,o+2,none⟩)) w:=fun _=>by kernel_rfl
theorem fa_27_5 (b o:Nat):∀ w,(Instr.fieldAt 27 (.pointer (some ⟨b,o,none⟩)) 5).run Tryz.prog w=.ok (.pointer (some ⟨b,o+5,none⟩)) w:=fun _=>by kernel_rfl
theorem zdQ (b o:Nat):∀ w,(Instr.fieldAt 65 (.pointer (some ⟨b,o,none⟩)) 1).run Tryz.prog w=.ok (.pointer (some ⟨b,o+1,none⟩)) w:=fun _=>by kernel_rfl
theorem fa_65_2 (b o:Nat):∀ w,(Instr.fieldAt 65 (.pointer (some ⟨b,o,none⟩)) 2).run Tryz.prog w=.ok (.pointer (some ⟨b,o+2,none⟩)) w:=fun _=>by kernel_rfl
theorem zX (b o:Nat):∀ w,(Instr.fieldAt 72 (.pointer (some ⟨b,o,none⟩)) 2).run Tryz.prog w=.ok (.pointer (some ⟨b,o+2,none⟩)) w:=fun _=>by kernel_rfl
theorem infz_65:∃ i,Tryz.prog.info? 65=some i∧i.zero=some (.agg #[(.string ByteArray.empty),(.int .i64 0),(.string ByteArray.empty)])∧i.size=3∧i.bytes=40:=zbq (by kernel_rfl)
theorem und_24:Tryz.prog.underlying 24=some (.slice 65):=by kernel_rfl
end HdYtheccaeefigajaaGreatDoorV98
open HdYtheccaeefigajaaGreatDoorV98
theorem snoc_all {α:Type} {p:α→Prop} {l:List α} {x:α} (h:∀ y∈l,p y) (hx:p x):∀ y∈l++[x],p y:=fun y hy=>by
 rcases List.mem_append.1 hy with k | k
 · exact h y k
 · rw[List.mem_singleton.1 k];exact hx
theorem braces_c (g:Nat) (s:Rd) (hw:s.n+2*(s.l.length:Int)≤3000000) (hn:0≤s.n) (hT:TOk s.l):
 CD Tryz.prog 233 [.bx g 72 (.agg [.sh 3 (s.l.map TokD.d),dI s.n,dB s.b])] [dP g 0] (fun r H'=>∃ l s',(l,s')=s.braces rmD∧r=.sh 3 (l.map MatD.d)∧H'=[RB g s']):=by
 refine zp Tryz.func233 J (N:=74) J J (fun C=>?_)
 refine jk [0] J (jT J (oR 1 J (oZ J (jT J (oR 1 J (oZ J (jT J (oR 1 J (oE J (zm [.bx g 72 (.agg [.sh 3 (s.l.map TokD.d),dI s.n,dB s.b])] [] [] J J (.cons ArgC.id (.cons (ArgC.cv (Cv.str (by first | decide | (unfold maxLen;omega)))) .nil)) zg Tryz.call200 (zbL g s (⟨#[123]⟩:ByteArray) (by omega) (by omega) hT) (.inl rfl)) ?_)))))))))
 rintro _ _ ⟨_,⟨s1,e1,rfl,rfl⟩,rfl⟩
 obtain ⟨ka1,kb1,kc1,hT1⟩:=(zbK e1).out hT
 refine on J (oZ J (jS J (jT J (oR 1 J (oE J (Qu.ef (d:=.sh 1 ([(⟨#[125]⟩:ByteArray)].map D.s)) ((zy [.const (.string (⟨#[125]⟩:ByteArray))] J J (.cons (CellD.v J) .nil) J Tryz.runUnderlying23 Tryz.sizeOf9 Tryz.zeroValue9 J J J J).cv (Cv.shs (.cons (Cv.str (by first | decide | (unfold maxLen;omega))) .nil)))) ?_)))))
 rintro _ _ ⟨rfl,rfl⟩
 refine oE J (zm [.bx g 72 (.agg [.sh 3 (s1.l.map TokD.d),dI s1.n,dB s1.b])] [] [] J J (.cons ArgC.id (.cons ArgC.id (.cons ArgC.id .nil))) zg Tryz.call112 (is_c g s1 5 [(⟨#[125]⟩:ByteArray)] (by omega) (by omega) hT1) (.inl rfl)) ?_
 rintro _ _ ⟨_,⟨rfl,rfl⟩,rfl⟩
 refine on J (oZ J ?_)
 refine jC J (fun hc3=>?_) (fun hc3=>?_)
 · skip
   refine jT J (oR 1 J (oE J (zm [.bx g 72 (.agg [.sh 3 (s1.l.map TokD.d),dI s1.n,dB s1.b])] [] [] J J (.cons ArgC.id (.cons (ArgC.cv (Cv.str (by first | decide | (unfold maxLen;omega)))) .nil)) zg Tryz.call200 (zbL g s1 (⟨#[125]⟩:ByteArray) (by omega) (by omega) hT1) (.inl rfl)) ?_))
   rintro _ _ ⟨_,⟨s4,e4,rfl,rfl⟩,rfl⟩
   obtain ⟨ka4,kb4,kc4,hT4⟩:=(zbK e4).out hT1
   refine on J (oZ J (jT J (oR 1 J (oZ J (zn J (zk (pn J ?_)))))))
   exact zh Tryz.results233 (.cons (zx (zl J) (Cv.nil)) .nil) J (HSub.fst 1 J) ⟨[],⟨s4.l,s4.n,s4.b⟩,braces_0 rmD e1 hc3 e4,J,J⟩
 · skip
   refine zt J (zj (jS J (jB J (jl4 (fun (a_:Nat) (b_:Rd) (c_:Value) (d_:List MatD)=>[(0,dP g 0),(2,dZ),(3,.ov c_)]) (fun a_ b_ c_ d_=>[.sl c_ 3 65 (d_.map MatD.d),.bx g 72 (.agg [.sh 3 (b_.l.map TokD.d),dI b_.n,dB b_.b])]) (fun a_ b_ c_ d_=>(b_.l.length<a_)∧(za6 a_ d_ b_=za6 (s1.l.length+1) [] s1)∧(b_.n+2*(b_.l.length:Int)≤3000000)∧(0≤b_.n)∧(TOk b_.l)∧(d_.length+b_.l.length≤1500000)∧(∀ x∈d_,x.n.size≤1000∧x.v.size≤1000)) (fun a_ b_ c_ d_=>a_) (s1.l.length+1) s1 (.slice none 0 0) [] J ⟨sk J,sk J,sc J (Cv.ov J),trivial⟩ (HSub.nil 3 65) ⟨Nat.lt_succ_self _,J,(by omega),(by omega),hT1,(by show 0+s1.l.length≤_;omega),(fun x hx=>by cases hx)⟩ ?_))))
   rintro f z ov o ⟨hlf,hf,hzw,hzn,hz,hol,hmo⟩
   refine ja J (jn J ?_)
   obtain ⟨f,rfl⟩:∃ k,f=k+1:=⟨f-1,by omega⟩
   refine jS J (jT J (oR 2 J (oP J (zd J zX J) (oP J (ze J (i:=1) J Tryz.isAgg4 J) (oP J (zaZ J) (oZ J ?_))))))
   refine jC J (fun hc5=>?_) (fun hc5=>?_)
   · simp only[bA,bB,bC,bD,bE,bF,bG,bH,bI,bJ] at hc5
     have hbf:z.b=false:=by simpa using hc5
     refine zt J (zj (jB J (jT J (oR 1 J (OpsD.subH (HSub.perm (zc (i:=1) J)) (on J (oE J (zm [.bx g 72 (.agg [.sh 3 (z.l.map TokD.d),dI z.n,dB z.b])] [.sl ov 3 65 (o.map MatD.d)] [] J J (.cons ArgC.id (.cons ArgC.id .nil)) zg Tryz.call41 (zeu g z 1 (by omega) (by omega) hz (by decide)) (.inl rfl)) ?_)))))))
     rintro _ _ ⟨_,⟨t6,s6,e6,rfl,rfl⟩,rfl⟩
     obtain ⟨ka6,kb6,kc6,hT6⟩:=(zet e6).out hz
     have kz6:=zes e6 hz
     refine on J (oP J (zJ [0] [.tmp 22] (zv:=(.agg #[(.string ByteArray.empty),(.int .i64 0),(.string ByteArray.empty)])) J J (.cons CellD.s .nil) (Tryz.runUnderlying65) Tryz.zeroValue65 bd_65 ⟨J,J,J,trivial⟩ J) (oE J (zC (zv:=(.agg #[(.string ByteArray.empty),(.int .i64 0),(.string ByteArray.empty)])) Tryz.zeroValue65 ⟨J,J,J,trivial⟩ (Cv.vagg (by decide))) ?_))
     rintro _ _ ⟨g7,rfl,rfl⟩
     refine oE J (zi (i:=0) (X':=.agg [.s t6,dI 0,.v (.string ByteArray.empty)]) J J J (CellD.agg) Tryz.sizeOf65 J J J) ?_
     rintro _ _ ⟨rfl,rfl⟩
     refine on J (oZ J (jT J (oR 1 J (oE J (Qu.ef (d:=.sh 1 ([(⟨#[61]⟩:ByteArray),(⟨#[33,61]⟩:ByteArray),(⟨#[61,126]⟩:ByteArray),(⟨#[33,126]⟩:ByteArray)].map D.s)) ((zy [.const (.string (⟨#[61]⟩:ByteArray)),.const (.string (⟨#[33,61]⟩:ByteArray)),.const (.string (⟨#[61,126]⟩:ByteArray)),.const (.string (⟨#[33,126]⟩:ByteArray))] J J (.cons (CellD.v J) (.cons (CellD.v J) (.cons (CellD.v J) (.cons (CellD.v J) .nil)))) J Tryz.runUnderlying23 Tryz.sizeOf9 Tryz.zeroValue9 J J J J).cv (Cv.shs (.cons (Cv.str (by first | decide | (unfold maxLen;omega))) (.cons (Cv.str (by first | decide | (unfold maxLen;omega))) (.cons (Cv.str (by first | decide | (unfold maxLen;omega))) (.cons (Cv.str (by first | decide | (unfold maxLen;omega))) .nil))))))) ?_))))
     rintro _ _ ⟨rfl,rfl⟩
     refine OpsD.subH (HSub.perm (zc (i:=1) J)) (on J (oE J (zm [.bx g 72 (.agg [.sh 3 (s6.l.map TokD.d),dI s6.n,dB s6.b])] [.bx g7 65 (.agg [.s t6,dI 0,.v (.string ByteArray.empty)]),.sl ov 3 65 (o.map MatD.d)] [] J J (.cons ArgC.id (.cons ArgC.id (.cons ArgC.id .nil))) zg Tryz.call40 (zcV g s6 5 [(⟨#[61]⟩:ByteArray),(⟨#[33,61]⟩:ByteArray),(⟨#[61,126]⟩:ByteArray),(⟨#[33,126]⟩:ByteArray)] (by omega) (by omega) hT6 (by decide)) (.inl rfl)) ?_))
     rintro _ _ ⟨_,⟨t8,q8,s8,e8,rfl,rfl⟩,rfl⟩
     obtain ⟨ka8,kb8,kc8,hT8⟩:=(zcU e8).out hT6
     have kz8:=zcT e8 hT6
     refine on J (oR 5 J (oZ J (jS J (jk [0,2,3,4,5,6,16,17,18,19,20,21,22,23,24,25,26,27,28,29] J ?_))))
     refine zd1 [(0,dP g 0),(2,dZ),(3,.ov ov),(4,dP g7 0),(5,.s t8),(6,dB q8),(16,dP g 0),(17,dP g 0),(18,dP g 2),(19,dB z.b),(20,dB (!z.b)),(21,dP g 0),(22,.s t6),(23,.agg [.s t6,dI 0,.v (.string ByteArray.empty)]),(24,.tup [.s t8,dB q8]),(25,dP g 0),(26,.sh 1 ([(⟨#[61]⟩:ByteArray),(⟨#[33,61]⟩:ByteArray),(⟨#[61,126]⟩:ByteArray),(⟨#[33,126]⟩:ByteArray)].map D.s)),(27,.tup [.s t8,dB q8]),(28,.s t8),(29,dB q8)] [.bx g 72 (.agg [.sh 3 (s8.l.map TokD.d),dI s8.n,dB (s8.b||!q8)]),.bx g7 65 (.agg [.s t6,dI 0,.v (.string ByteArray.empty)]),.sl ov 3 65 (o.map MatD.d)] (fun _ hQ9=>?_) ?_
     · skip
       rcases Bool.eq_false_or_eq_true (s8.b) with hg10 | hg10
       · skip
         refine zf J (oR 3 J (oP J (zd J zX J) (oP J ((ze J (i:=0) J Tryz.isAgg4 J).cv (Cv.eq (congrArg (fun b=>D.v (.bool b)) (hg10)))) (oR 5 J (oP J (zd J zX J) (oE J (zi (i:=0) (X':=.agg [.sh 3 (s8.l.map TokD.d),dI s8.n,dB true]) J J J (CellD.v J) Tryz.sizeOf4 J J J) ?_))))))
         rintro _ _ ⟨rfl,rfl⟩
         refine on J (zq J (PD.norm [.bx g 72 (.agg [.sh 3 (s8.l.map TokD.d),dI s8.n,dB (s8.b||!q8)]),.bx g7 65 (.agg [.s t6,dI 0,.v (.string ByteArray.empty)]),.sl ov 3 65 (o.map MatD.d)] (by simp only[hc5,hg10,Bool.or_true,Bool.true_or,Bool.or_false,Bool.false_or,Bool.not_true,Bool.not_false]<;>rfl) ?_))
         exact PD.sub [(0,dP g 0),(2,dZ),(3,.ov ov),(4,dP g7 0),(5,.s t8),(6,dB q8),(16,dP g 0),(17,dP g 0),(18,dP g 2),(19,dB z.b),(20,dB (!z.b)),(21,dP g 0),(22,.s t6),(23,.agg [.s t6,dI 0,.v (.string ByteArray.empty)]),(24,.tup [.s t8,dB q8]),(25,dP g 0),(26,.sh 1 ([(⟨#[61]⟩:ByteArray),(⟨#[33,61]⟩:ByteArray),(⟨#[61,126]⟩:ByteArray),(⟨#[33,126]⟩:ByteArray)].map D.s)),(27,.tup [.s t8,dB q8]),(28,.s t8),(29,dB q8)] (sa J) hQ9
       · skip
         refine zf J (oR 3 J (oP J (zd J zX J) (oP J ((ze J (i:=0) J Tryz.isAgg4 J).cv (Cv.eq (congrArg (fun b=>D.v (.bool b)) (hg10)))) (oR 2 J (oG J (zaZ J) (oR 2 J (oP J (zd J zX J) (oE J (zi (i:=0) (X':=.agg [.sh 3 (s8.l.map TokD.d),dI s8.n,dB (!q8)]) J J J (CellD.v J) Tryz.sizeOf4 J J J) ?_))))))))
         rintro _ _ ⟨rfl,rfl⟩
         refine on J (zq J (PD.norm [.bx g 72 (.agg [.sh 3 (s8.l.map TokD.d),dI s8.n,dB (s8.b||!q8)]),.bx g7 65 (.agg [.s t6,dI 0,.v (.string ByteArray.empty)]),.sl ov 3 65 (o.map MatD.d)] (by simp only[hc5,hg10,Bool.or_true,Bool.true_or,Bool.or_false,Bool.false_or,Bool.not_true,Bool.not_false]<;>rfl) ?_))
         exact PD.sub [(0,dP g 0),(2,dZ),(3,.ov ov),(4,dP g7 0),(5,.s t8),(6,dB q8),(16,dP g 0),(17,dP g 0),(18,dP g 2),(19,dB z.b),(20,dB (!z.b)),(21,dP g 0),(22,.s t6),(23,.agg [.s t6,dI 0,.v (.string ByteArray.empty)]),(24,.tup [.s t8,dB q8]),(25,dP g 0),(26,.sh 1 ([(⟨#[61]⟩:ByteArray),(⟨#[33,61]⟩:ByteArray),(⟨#[61,126]⟩:ByteArray),(⟨#[33,126]⟩:ByteArray)].map D.s)),(27,.tup [.s t8,dB q8]),(28,.s t8),(29,dB q8)] (sa J) hQ9
     · skip
       refine zj (jS J ?_)
       obtain ⟨s11,e11⟩:∃ x:Rd,x=⟨s8.l,s8.n,(s8.b||!q8)⟩:=⟨_,rfl⟩
       have hl11:s11.l=s8.l:=by rw[e11]
       have hn11:s11.n=s8.n:=by rw[e11]
       have hT11:TOk s11.l:=by rw[hl11];exact hT8
       have hk11:s11.l.length=s8.l.length:=by rw[hl11]
       refine JD.norm [.bx g 72 (.agg [.sh 3 (s11.l.map TokD.d),dI s11.n,dB s11.b]),.bx g7 65 (.agg [.s t6,dI 0,.v (.string ByteArray.empty)]),.sl ov 3 65 (o.map MatD.d)] (by rw[e11]<;>rfl) (zf rfl (oR 1 rfl (oW rfl rfl acs Tryz.call244 (opM_c t8) (oR 1 rfl (oE rfl (zm [.bx g 72 (.agg [.sh 3 (s11.l.map TokD.d),dI s11.n,dB s11.b])] [.bx g7 65 (.agg [.s t6,dI 0,.v (.string ByteArray.empty)]),.sl ov 3 65 (o.map MatD.d)] [] rfl rfl (.cons ArgC.id (.cons ArgC.id .nil)) zg Tryz.call41 (zeu g s11 3 (by omega) (by omega) hT11 (by decide)) (.inl rfl)) ?_)))))
       rintro _ _ ⟨_,⟨t12,s12,e12,rfl,rfl⟩,rfl⟩
       obtain ⟨ka12,kb12,kc12,hT12⟩:=(zet e12).out hT11
       have kz12:=zes e12 hT11
       refine on J (oP J (zd J zdQ J) (oE J (zi (i:=1) (X':=.agg [.s t6,dI (opM t8),.v (.string ByteArray.empty)]) J J J (CellD.v J) Tryz.sizeOf3 J J J) ?_))
       rintro _ _ ⟨rfl,rfl⟩
       refine on J (oP J (zd J fa_65_2 J) (oE J (zi (i:=1) (X':=.agg [.s t6,dI (opM t8),.s t12]) J J J (CellD.s) Tryz.sizeOf9 J J J) ?_))
       rintro _ _ ⟨rfl,rfl⟩
       refine on J (oZ J (jT J (oR 1 J (oP J (zH (d:=.agg [.s t6,dI (opM t8),.s t12]) J (i:=1) J Tryz.isAgg65 Tryz.sizeOf65 J J) (oE J (Qu.ef (d:=.sh 3 ([(MatD.mk t6 (opM t8) t12)].map MatD.d)) (zy [.tmp 48] J J (.cons CellD.agg .nil) J Tryz.runUnderlying24 Tryz.sizeOf65 Tryz.zeroValue65 J J J J)) ?_)))))
       rintro _ _ ⟨rfl,rfl⟩
       refine oE J (zP (f:=MatD.d) (l:=o) (l':=[(MatD.mk t6 (opM t8) t12)]) (i:=2) J J J (SrcD.sh) und_24 infz_65 J J (by unfold maxLen;(try simp only[la,lc,ln,lm,lt',ld,ls,lr]);omega) (by (try simp only[la,lc,ln,lm,lt',ld,ls,lr]);omega)) ?_
       rintro _ _ ⟨v13,rfl,rfl⟩
       refine on J (oR 1 J (oZ J (jT J (oR 1 J (oE J (Qu.ef (d:=.sh 1 ([(⟨#[44]⟩:ByteArray)].map D.s)) ((zy [.const (.string (⟨#[44]⟩:ByteArray))] J J (.cons (CellD.v J) .nil) J Tryz.runUnderlying23 Tryz.sizeOf9 Tryz.zeroValue9 J J J J).cv (Cv.shs (.cons (Cv.str (by first | decide | (unfold maxLen;omega))) .nil)))) ?_)))))
       rintro _ _ ⟨rfl,rfl⟩
       refine oE J (zm [.bx g 72 (.agg [.sh 3 (s12.l.map TokD.d),dI s12.n,dB s12.b])] [.bx g7 65 (.agg [.s t6,dI (opM t8),.s t12]),.sl v13 3 65 ((o++[(MatD.mk t6 (opM t8) t12)]).map MatD.d)] [] J J (.cons ArgC.id (.cons ArgC.id (.cons ArgC.id .nil))) zg Tryz.call40 (zcV g s12 5 [(⟨#[44]⟩:ByteArray)] (by omega) (by omega) hT12 (by decide)) (.inl rfl)) ?_
       rintro _ _ ⟨_,⟨t14,q14,s14,e14,rfl,rfl⟩,rfl⟩
       obtain ⟨ka14,kb14,kc14,hT14⟩:=(zcU e14).out hT12
       have kz14:=zcT e14 hT12
       refine on J (oR 5 J (oZ J (jT J (oR 1 J (oP J (zaZ J) (oZ J ?_))))))
       refine jC J (fun hc15=>?_) (fun hc15=>?_)
       · simp only[bA,bB,bC,bD,bE,bF,bG,bH,bI,bJ] at hc15
         have hff:=hf.symm.trans (braces_end hbf e6 e8 e11 e12 e14 (by simpa using hc15))
         have hmq:∀ x∈(o++[(MatD.mk t6 (opM t8) t12)]),x.n.size≤1000∧x.v.size≤1000:=snoc_all hmo ⟨by omega,by omega⟩
         have hlq:(o++[(MatD.mk t6 (opM t8) t12)]).length≤2000000:=by simp only[la,List.length_singleton];omega
         refine zF J (pd_block_exit_far J (zu (zr (zj (jk [0,2,3] J (jT J (oR 1 J (oE J (zm [.bx g 72 (.agg [.sh 3 (s14.l.map TokD.d),dI s14.n,dB s14.b])] [.bx g7 65 (.agg [.s t6,dI (opM t8),.s t12]),.sl v13 3 65 ((o++[(MatD.mk t6 (opM t8) t12)]).map MatD.d)] [] J J (.cons ArgC.id (.cons (ArgC.cv (Cv.str (by first | decide | (unfold maxLen;omega)))) .nil)) zg Tryz.call200 (zbL g s14 (⟨#[125]⟩:ByteArray) (by omega) (by omega) hT14) (.inl rfl)) ?_))))))))
         rintro _ _ ⟨_,⟨s16,e16,rfl,rfl⟩,rfl⟩
         obtain ⟨ka16,kb16,kc16,hT16⟩:=(zbK e16).out hT14
         refine on J (oZ J (jS J (jk [0,2,3] J ?_)))
         refine zd1 [(0,dP g 0),(2,dZ),(3,.ov v13)] [.bx g 72 (.agg [.sh 3 (s16.l.map TokD.d),dI s16.n,dB (s16.b||!(rmD (o++[(MatD.mk t6 (opM t8) t12)])))]),.bx g7 65 (.agg [.s t6,dI (opM t8),.s t12]),.sl v13 3 65 ((o++[(MatD.mk t6 (opM t8) t12)]).map MatD.d)] (fun _ hQ17=>?_) ?_
         · skip
           rcases Bool.eq_false_or_eq_true (s16.b) with hg18 | hg18
           · skip
             refine zf J (oR 3 J (oP J (zd J zX J) (oP J ((ze J (i:=0) J Tryz.isAgg4 J).cv (Cv.eq (congrArg (fun b=>D.v (.bool b)) (hg18)))) (oR 6 J (oP J (zd J zX J) (oE J (zi (i:=0) (X':=.agg [.sh 3 (s16.l.map TokD.d),dI s16.n,dB true]) J J J (CellD.v J) Tryz.sizeOf4 J J J) ?_))))))
             rintro _ _ ⟨rfl,rfl⟩
             refine on J (zq J (PD.norm [.bx g 72 (.agg [.sh 3 (s16.l.map TokD.d),dI s16.n,dB (s16.b||!(rmD (o++[(MatD.mk t6 (opM t8) t12)])))]),.bx g7 65 (.agg [.s t6,dI (opM t8),.s t12]),.sl v13 3 65 ((o++[(MatD.mk t6 (opM t8) t12)]).map MatD.d)] (by simp only[hc5,hc15,hg18,Bool.or_true,Bool.true_or,Bool.or_false,Bool.false_or,Bool.not_true,Bool.not_false]<;>rfl) ?_))
             exact PD.sub [(0,dP g 0),(2,dZ),(3,.ov v13)] (sa J) hQ17
           · skip
             refine zf J (oR 3 J (oP J (zd J zX J) (oP J ((ze J (i:=0) J Tryz.isAgg4 J).cv (Cv.eq (congrArg (fun b=>D.v (.bool b)) (hg18)))) (oR 2 J (oF J (zm [] _ [.sl v13 3 65 ((o++[(MatD.mk t6 (opM t8) t12)]).map MatD.d)] J J (.cons (ArgC.own (j:=0) J J) .nil) (zbt (j:=2) J zg) Tryz.call245 (rightM_c (o++[(MatD.mk t6 (opM t8) t12)]) (by omega) hmq) (.inr (zcA rfl))) ?_)))))
             rintro _ _ ⟨_,⟨rfl,rfl⟩,rfl⟩
             refine on J (oG J (zaZ J) (oR 2 J (oP J (zd J zX J) (oE J (zi (i:=0) (X':=.agg [.sh 3 (s16.l.map TokD.d),dI s16.n,dB (!(rmD (o++[(MatD.mk t6 (opM t8) t12)])))]) J J J (CellD.v J) Tryz.sizeOf4 J J J) ?_))))
             rintro _ _ ⟨rfl,rfl⟩
             refine on J (zq J (PD.norm [.bx g 72 (.agg [.sh 3 (s16.l.map TokD.d),dI s16.n,dB (s16.b||!(rmD (o++[(MatD.mk t6 (opM t8) t12)])))]),.bx g7 65 (.agg [.s t6,dI (opM t8),.s t12]),.sl v13 3 65 ((o++[(MatD.mk t6 (opM t8) t12)]).map MatD.d)] (by simp only[hc5,hc15,hg18,Bool.or_true,Bool.true_or,Bool.or_false,Bool.false_or,Bool.not_true,Bool.not_false]<;>rfl) ?_))
             exact PD.sub [(0,dP g 0),(2,dZ),(3,.ov v13)] (sa J) hQ17
         · skip
           refine zj (jT J (oR 2 J (oZ J (zn J (PD.subH (HSub.perm (zc (i:=2) J)) (pn J (zbi (Mv.freeze (K':=[(0,dP g 0),(2,.sh 3 ((o++[(MatD.mk t6 (opM t8) t12)]).map MatD.d)),(3,.sh 3 ((o++[(MatD.mk t6 (opM t8) t12)]).map MatD.d)),(73,.sh 3 ((o++[(MatD.mk t6 (opM t8) t12)]).map MatD.d))]) [.sl v13 3 65 ((o++[(MatD.mk t6 (opM t8) t12)]).map MatD.d)] (H1:=[.bx g 72 (.agg [.sh 3 (s16.l.map TokD.d),dI s16.n,dB (s16.b||!(rmD (o++[(MatD.mk t6 (opM t8) t12)])))]),.bx g7 65 (.agg [.s t6,dI (opM t8),.s t12])]) (H1':=[.bx g 72 (.agg [.sh 3 (s16.l.map TokD.d),dI s16.n,dB (s16.b||!(rmD (o++[(MatD.mk t6 (opM t8) t12)])))]),.bx g7 65 (.agg [.s t6,dI (opM t8),.s t12])]) ⟨⟨_,J,ArgC.id⟩,⟨_,J,ArgC.own (j:=0) J J⟩,⟨_,J,ArgC.own (j:=0) J J⟩,⟨_,J,ArgC.own (j:=0) J J⟩,trivial⟩ (.same (.same .nil))) (pn J ?_))))))))
           exact zh Tryz.results233 (.cons (zl J) .nil) J (HSub.fst 1 J) ⟨(o++[(MatD.mk t6 (opM t8) t12)]),⟨s16.l,s16.n,(s16.b||!(rmD (o++[(MatD.mk t6 (opM t8) t12)])))⟩,braces_1 rmD e1 (by simpa using hc3) hff e16,rfl,rfl⟩
       · simp only[bA,bB,bC,bD,bE,bF,bG,bH,bI,bJ] at hc15
         obtain ⟨ky,_⟩:=take_y e14 (by decide) (by simpa using hc15)
         refine zt J (zB (PD.subH (HSub.perm (zc (i:=2) J)) (pn J (PD.subH (HSub.fst 2 J) (pn J ?_)))))
         exact pl4 f s14 v13 (o++[(MatD.mk t6 (opM t8) t12)]) (sa J) HSub.rfl' ⟨by omega,(braces_go hbf e6 e8 e11 e12 e14 (by simpa using hc15)).symm.trans hf,by omega,by omega,hT14,by simp only[la,List.length_singleton];omega,snoc_all hmo ⟨by omega,by omega⟩⟩ (by omega)
   · simp only[bA,bB,bC,bD,bE,bF,bG,bH,bI,bJ] at hc5
     have hff:=hf.symm.trans (braces_bad (by simpa using hc5))
     have hmq:=hmo
     have hlq:o.length≤2000000:=by omega
     refine zF J (zw (zu (zr (zj (jT J (oR 1 J (OpsD.subH (HSub.perm (zc (i:=1) J)) (on J (oE J (zm [.bx g 72 (.agg [.sh 3 (z.l.map TokD.d),dI z.n,dB z.b])] [.sl ov 3 65 (o.map MatD.d)] [] J J (.cons ArgC.id (.cons (ArgC.cv (Cv.str (by first | decide | (unfold maxLen;omega)))) .nil)) zg Tryz.call200 (zbL g z (⟨#[125]⟩:ByteArray) (by omega) (by omega) hz) (.inl rfl)) ?_)))))))))
     rintro _ _ ⟨_,⟨s19,e19,rfl,rfl⟩,rfl⟩
     obtain ⟨ka19,kb19,kc19,hT19⟩:=(zbK e19).out hz
     refine on J (oZ J (jS J (jk [0,2,3] J ?_)))
     refine zd1 [(0,dP g 0),(2,dZ),(3,.ov ov)] [.bx g 72 (.agg [.sh 3 (s19.l.map TokD.d),dI s19.n,dB (s19.b||!(rmD o))]),.sl ov 3 65 (o.map MatD.d)] (fun _ hQ20=>?_) ?_
     · skip
       rcases Bool.eq_false_or_eq_true (s19.b) with hg21 | hg21
       · skip
         refine zf J (oR 3 J (oP J (zd J zX J) (oP J ((ze J (i:=0) J Tryz.isAgg4 J).cv (Cv.eq (congrArg (fun b=>D.v (.bool b)) (hg21)))) (oR 6 J (oP J (zd J zX J) (oE J (zi (i:=0) (X':=.agg [.sh 3 (s19.l.map TokD.d),dI s19.n,dB true]) J J J (CellD.v J) Tryz.sizeOf4 J J J) ?_))))))
         rintro _ _ ⟨rfl,rfl⟩
         refine on J (zq J (PD.norm [.bx g 72 (.agg [.sh 3 (s19.l.map TokD.d),dI s19.n,dB (s19.b||!(rmD o))]),.sl ov 3 65 (o.map MatD.d)] (by simp only[hc5,hg21,Bool.or_true,Bool.true_or,Bool.or_false,Bool.false_or,Bool.not_true,Bool.not_false]<;>rfl) ?_))
         exact PD.sub [(0,dP g 0),(2,dZ),(3,.ov ov)] (sa J) hQ20
       · skip
         refine zf J (oR 3 J (oP J (zd J zX J) (oP J ((ze J (i:=0) J Tryz.isAgg4 J).cv (Cv.eq (congrArg (fun b=>D.v (.bool b)) (hg21)))) (oR 2 J (oF J (zm [] _ [.sl ov 3 65 (o.map MatD.d)] J J (.cons (ArgC.own (j:=0) J J) .nil) (zbt (j:=1) J zg) Tryz.call245 (rightM_c o (by omega) hmq) (.inr (zcA rfl))) ?_)))))
         rintro _ _ ⟨_,⟨rfl,rfl⟩,rfl⟩
         refine on J (oG J (zaZ J) (oR 2 J (oP J (zd J zX J) (oE J (zi (i:=0) (X':=.agg [.sh 3 (s19.l.map TokD.d),dI s19.n,dB (!(rmD o))]) J J J (CellD.v J) Tryz.sizeOf4 J J J) ?_))))
         rintro _ _ ⟨rfl,rfl⟩
         refine on J (zq J (PD.norm [.bx g 72 (.agg [.sh 3 (s19.l.map TokD.d),dI s19.n,dB (s19.b||!(rmD o))]),.sl ov 3 65 (o.map MatD.d)] (by simp only[hc5,hg21,Bool.or_true,Bool.true_or,Bool.or_false,Bool.false_or,Bool.not_true,Bool.not_false]<;>rfl) ?_))
         exact PD.sub [(0,dP g 0),(2,dZ),(3,.ov ov)] (sa J) hQ20
     · skip
       refine zj (jT J (oR 2 J (oZ J (zn J (PD.subH (HSub.perm (zc (i:=1) J)) (pn J (zbi (Mv.freeze (K':=[(0,dP g 0),(2,.sh 3 (o.map MatD.d)),(3,.sh 3 (o.map MatD.d)),(73,.sh 3 (o.map MatD.d))]) [.sl ov 3 65 (o.map MatD.d)] (H1:=[.bx g 72 (.agg [.sh 3 (s19.l.map TokD.d),dI s19.n,dB (s19.b||!(rmD o))])]) (H1':=[.bx g 72 (.agg [.sh 3 (s19.l.map TokD.d),dI s19.n,dB (s19.b||!(rmD o))])]) ⟨⟨_,J,ArgC.id⟩,⟨_,J,ArgC.own (j:=0) J J⟩,⟨_,J,ArgC.own (j:=0) J J⟩,⟨_,J,ArgC.own (j:=0) J J⟩,trivial⟩ (.same .nil)) (pn J ?_))))))))
       exact zh Tryz.results233 (.cons (zl J) .nil) J (HSub.fst 1 J) ⟨o,⟨s19.l,s19.n,(s19.b||!(rmD o))⟩,braces_1 rmD e1 (by simpa using hc3) hff e19,rfl,rfl⟩
theorem selName_e {s s':Rd} {t:ByteArray} (e:(t,s')=s.selName):Stp 0 s s':=by
 have h:s'=s.selName.2:=congrArg Prod.snd e
 rw[h];unfold Rd.selName;split;exact zbW s 1;exact Stp.rfl' s
theorem selMs_e {s s':Rd} {t:ByteArray} {ms:List MatD} (e:(ms,s')=s.selMs rmD t):Stp 0 s s':=by
 have h:s'=(s.selMs rmD t).2:=congrArg Prod.snd e
 rw[h];unfold Rd.selMs;split;exact braces_stp rmD s;exact(Stp.rfl' s).bad _
theorem selWin_e {s s':Rd} {w:Int} (e:(w,s')=s.selWin):Stp 0 s s':=by
 have h:s'=s.selWin.2:=congrArg Prod.snd e
 rw[h];unfold Rd.selWin;split
 · exact(((z8 s 5 [tSq]).trans (za3 _ 4)).trans (zV _ _)).le (by omega)
 · exact z8 s 5 _
theorem selMs_bad {s:Rd} {t:ByteArray} (h:¬s.is 5 [zcF]=true) (ht:t=ByteArray.empty):([],(⟨s.l,s.n,true⟩:Rd))=s.selMs rmD t:=by rw[←selMs_0 rmD h,decide_eq_true ht,Bool.or_true]
theorem selMs_no {s:Rd} {t:ByteArray} (h:¬s.is 5 [zcF]=true) (ht:¬t=ByteArray.empty):([],(⟨s.l,s.n,s.b⟩:Rd))=s.selMs rmD t:=by rw[←selMs_0 rmD h,decide_eq_false ht,Bool.or_false]
theorem selector_c (g:Nat) (s:Rd) (ev es:Value) (hev:EvOk ev) (hes:EvOk es) (hw:s.n+2*(s.l.length:Int)≤3000000) (hn:0≤s.n) (hT:TOk s.l):
 CD Tryz.prog 222 [.bx g 72 (.agg [.sh 3 (s.l.map TokD.d),dI s.n,dB s.b]),HPow,HErr ev,HSyn es] [dP g 0] (NdR g ev es (s.selector rmD)):=by
 refine zp Tryz.func222 J (N:=49) J J (fun C=>?_)
 refine jk [0] J (jT J (oE J (zC (zv:=(.agg #[(.string ByteArray.empty),(.string ByteArray.empty),(.int .i64 0),(.int .i64 0),(.slice none 0 0),(.slice none 0 0),(.slice none 0 0)])) Tryz.zeroValue27 ⟨J,J,J,J,J,J,J,trivial⟩ (Cv.vagg (by decide))) ?_))
 rintro _ _ ⟨g1,rfl,rfl⟩
 refine oZ J (jT J (oP J (zJ [0] [.const (.string (⟨#[115,101,108]⟩:ByteArray))] (zv:=(.agg #[(.string ByteArray.empty),(.string ByteArray.empty),(.int .i64 0),(.int .i64 0),(.slice none 0 0),(.slice none 0 0),(.slice none 0 0)])) J J (.cons (CellD.v J) .nil) (Tryz.runUnderlying27) Tryz.zeroValue27 zed ⟨J,J,J,J,J,J,J,trivial⟩ J) (oE J (zC (zv:=(.agg #[(.string ByteArray.empty),(.string ByteArray.empty),(.int .i64 0),(.int .i64 0),(.slice none 0 0),(.slice none 0 0),(.slice none 0 0)])) Tryz.zeroValue27 ⟨J,J,J,J,J,J,J,trivial⟩ (Cv.vagg (by decide))) ?_)))
 rintro _ _ ⟨g2,rfl,rfl⟩
 refine oE J (zi (i:=0) (X':=.agg [.v (.string (⟨#[115,101,108]⟩:ByteArray)),.v (.string ByteArray.empty),dI 0,dI 0,dZ,dZ,dZ]) J J J (CellD.agg) Tryz.sizeOf27 J J J) ?_
 rintro _ _ ⟨rfl,rfl⟩
 refine on J (oZ J (jS J (JD.subH (HSub.turn (h':=.bx g2 27 (.agg [.s nSel,.s ByteArray.empty,dI 0,dI 0,.sh 1 (([]:List ByteArray).map D.s),.sh 3 (([]:List MatD).map MatD.d),.sh 7 (Nd.ds ([]:List Nd))])) J (Hp.cv_bx (Cv.agg (.cons (Cv.str (by decide)) (.cons (Cv.str (by decide)) (.cons Cv.rfl' (.cons Cv.rfl' (.cons Cv.nil (.cons Cv.nil (.cons Cv.nil .nil)))))))))) (zf rfl (oR 1 rfl (OpsD.subH (HSub.perm (zc (i:=2) rfl)) (on rfl (oE rfl (zm [.bx g 72 (.agg [.sh 3 (s.l.map TokD.d),dI s.n,dB s.b])] [.bx g2 27 (.agg [.s nSel,.s ByteArray.empty,dI 0,dI 0,.sh 1 (([]:List ByteArray).map D.s),.sh 3 (([]:List MatD).map MatD.d),.sh 7 (Nd.ds ([]:List Nd))]),.bx g1 27 (.agg [.v (.string ByteArray.empty),.v (.string ByteArray.empty),dI 0,dI 0,dZ,dZ,dZ]),HPow,HErr ev,HSyn es] [] rfl rfl (.cons ArgC.id .nil) zg Tryz.call113 (peek_c g s (by omega) (by omega) hT) (.inl rfl)) ?_))))))))
 rintro _ _ ⟨_,⟨rfl,rfl⟩,rfl⟩
 refine on J (oE J (zC (zv:=(.agg #[(.int .i64 0),(.int .i64 0),(.string ByteArray.empty)])) Tryz.zeroValue135 ⟨J,J,J,trivial⟩ (Cv.vagg (by decide))) ?_)
 rintro _ _ ⟨g4,rfl,rfl⟩
 refine oE J (zi (i:=0) (X':=TokD.d s.pk) J J J (CellD.agg) Tryz.sizeOf135 J J J) ?_
 rintro _ _ ⟨rfl,rfl⟩
 refine on J (oZ J (jS J (jS J (jk [0,2,3,4] J ?_))))
 refine zR 18 ((decide (s.pk.k=(1:Int))&&!(zd9 s.pk.t))) [.bx g4 135 (TokD.d s.pk),.bx g 72 (.agg [.sh 3 (s.l.map TokD.d),dI s.n,dB s.b]),.bx g2 27 (.agg [.s nSel,.s ByteArray.empty,dI 0,dI 0,.sh 1 (([]:List ByteArray).map D.s),.sh 3 (([]:List MatD).map MatD.d),.sh 7 (Nd.ds ([]:List Nd))]),.bx g1 27 (.agg [.v (.string ByteArray.empty),.v (.string ByteArray.empty),dI 0,dI 0,dZ,dZ,dZ]),HPow,HErr ev,HSyn es] (fun _ hQ5=>?_) ?_
 · skip
   by_cases hg6:s.pk.k=(1:Int)
   · skip
     refine zf J (oP J (zd J zbr J) (oP J (ze J (i:=0) J Tryz.isAgg3 J) (oP J (zD J J (decide_eq_true hg6)) (oR 1 J (oG J (zd J zcB J) (oG J (ze J (i:=0) J Tryz.isAgg9 J) (oV J J acs Tryz.call232 (kept_c s.pk.t) (oG J (zaZ J) (oR 1 J (zq J ?_))))))))))
     exact PD.sub ((18,dB (decide (s.pk.k=(1:Int))&&!(zd9 s.pk.t)))::[(0,dP g 0),(2,dP g1 0),(3,dP g2 0),(4,dP g4 0)]) ⟨sc J (Cv.eq (congrArg (fun b=>D.v (.bool b)) (by first | (simp[hg6];done) | (simp_all;done)))),sk rfl,sk rfl,sk rfl,sk rfl,trivial⟩ hQ5
   · skip
     refine zf J (oP J (zd J zbr J) (oP J (ze J (i:=0) J Tryz.isAgg3 J) (oP J (zD J J (decide_eq_false hg6)) (oR 6 J (zq J ?_)))))
     exact PD.sub ((18,dB (decide (s.pk.k=(1:Int))&&!(zd9 s.pk.t)))::[(0,dP g 0),(2,dP g1 0),(3,dP g2 0),(4,dP g4 0)]) ⟨sc J (Cv.eq (congrArg (fun b=>D.v (.bool b)) (by first | (simp[hg6];done) | (simp_all;done)))),sk rfl,sk rfl,sk rfl,sk rfl,trivial⟩ hQ5
 · skip
   refine zj ?_
   refine zct (fun (jg:ByteArray×Rd)=>[(0,dP g 0),(2,dP g1 0),(3,dP g2 0)]) (fun (jg:ByteArray×Rd)=>[.bx g1 27 (.agg [.v (.string ByteArray.empty),.v (.string ByteArray.empty),dI 0,dI 0,dZ,dZ,dZ]),.bx g2 27 (.agg [.s nSel,.s jg.1,dI 0,dI 0,.sh 1 (([]:List ByteArray).map D.s),.sh 3 (([]:List MatD).map MatD.d),.sh 7 (Nd.ds ([]:List Nd))]),.bx g 72 (.agg [.sh 3 (jg.2.l.map TokD.d),dI jg.2.n,dB jg.2.b]),HPow,HErr ev,HSyn es]) (fun (jg:ByteArray×Rd)=>((jg.1,jg.2)=s.selName)) (fun _ hQ7=>?_) ?_
   · skip
     refine jC J (fun hc8=>?_) (fun hc8=>?_)
     · simp only[bA,bB,bC,bD,bE,bF,bG,bH,bI,bJ] at hc8
       have hkk:s.pk.k=1∧zd9 s.pk.t=false:=by simpa using hc8
       refine zf J (oR 1 J (OpsD.subH (HSub.perm (zc (i:=1) J)) (on J (oE J (zm [.bx g 72 (.agg [.sh 3 (s.l.map TokD.d),dI s.n,dB s.b])] [.bx g4 135 (TokD.d s.pk),.bx g2 27 (.agg [.s nSel,.s ByteArray.empty,dI 0,dI 0,.sh 1 (([]:List ByteArray).map D.s),.sh 3 (([]:List MatD).map MatD.d),.sh 7 (Nd.ds ([]:List Nd))]),.bx g1 27 (.agg [.v (.string ByteArray.empty),.v (.string ByteArray.empty),dI 0,dI 0,dZ,dZ,dZ]),HPow,HErr ev,HSyn es] [] J J (.cons ArgC.id (.cons ArgC.id .nil)) zg Tryz.call41 (zeu g s 1 (by omega) (by omega) hT (by decide)) (.inl rfl)) ?_))))
       rintro _ _ ⟨_,⟨t9,s9,e9,rfl,rfl⟩,rfl⟩
       obtain ⟨ka9,kb9,kc9,hT9⟩:=(zet e9).out hT
       have kz9:=zes e9 hT
       refine on J (oP J (zd J zaA J) (oE J (zi (i:=2) (X':=.agg [.s nSel,.s t9,dI 0,dI 0,.sh 1 (([]:List ByteArray).map D.s),.sh 3 (([]:List MatD).map MatD.d),.sh 7 (Nd.ds ([]:List Nd))]) J J J (CellD.s) Tryz.sizeOf9 J J J) ?_))
       rintro _ _ ⟨rfl,rfl⟩
       refine on J (zq J (PD.subH (HSub.perm (zc (i:=6) J)) (pn J (PD.subH (HSub.perm (zc (i:=6) J)) (pn J (PD.subH (HSub.perm (zc (i:=6) J)) (pn J (PD.subH (HSub.perm (zc (i:=3) J)) (pn J (PD.subH (HSub.perm (zc (i:=5) J)) (pn J (PD.subH (HSub.perm (zc (i:=6) J)) (pn J (PD.subH (HSub.fst 6 J) (pn J ?_)))))))))))))))
       exact PD.sub [(0,dP g 0),(2,dP g1 0),(3,dP g2 0)] (sa J) (hQ7 (t9,s9) (selName_1 hkk e9))
     · simp only[bA,bB,bC,bD,bE,bF,bG,bH,bI,bJ] at hc8
       have hkk:¬(s.pk.k=1∧zd9 s.pk.t=false):=by rintro ⟨a,b⟩;have h:=hc8;rcases h with h | h;exact h a;(rw[b] at h;cases h)
       refine zt J (PD.subH (HSub.perm (zc (i:=6) J)) (pn J (PD.subH (HSub.perm (zc (i:=6) J)) (pn J (PD.subH (HSub.perm (zc (i:=6) J)) (pn J (PD.subH (HSub.perm (zc (i:=4) J)) (pn J (PD.subH (HSub.perm (zc (i:=5) J)) (pn J (PD.subH (HSub.perm (zc (i:=6) J)) (pn J (PD.subH (HSub.fst 6 J) (pn J ?_))))))))))))))
       exact PD.sub [(0,dP g 0),(2,dP g1 0),(3,dP g2 0)] (sa J) (hQ7 (ByteArray.empty,s) (selName_0 hkk))
   · skip
     rintro ⟨t,z⟩ hsel
     replace hsel:(t,z)=s.selName:=hsel
     refine pk [0,2,3] J (pn J (zj (jS J (jS J ?_))))
     obtain ⟨kx1,ky1,kz1,hTj1⟩:=(selName_e hsel).out hT
     refine zf J (oR 1 J (oE J (Qu.ef (d:=.sh 1 ([(⟨#[123]⟩:ByteArray)].map D.s)) ((zy [.const (.string (⟨#[123]⟩:ByteArray))] J J (.cons (CellD.v J) .nil) J Tryz.runUnderlying23 Tryz.sizeOf9 Tryz.zeroValue9 J J J J).cv (Cv.shs (.cons (Cv.str (by first | decide | (unfold maxLen;omega))) .nil)))) ?_))
     rintro _ _ ⟨rfl,rfl⟩
     refine OpsD.subH (HSub.perm (zc (i:=2) J)) (on J (oE J (zm [.bx g 72 (.agg [.sh 3 (z.l.map TokD.d),dI z.n,dB z.b])] [.bx g1 27 (.agg [.v (.string ByteArray.empty),.v (.string ByteArray.empty),dI 0,dI 0,dZ,dZ,dZ]),.bx g2 27 (.agg [.s nSel,.s t,dI 0,dI 0,.sh 1 (([]:List ByteArray).map D.s),.sh 3 (([]:List MatD).map MatD.d),.sh 7 (Nd.ds ([]:List Nd))]),HPow,HErr ev,HSyn es] [] J J (.cons ArgC.id (.cons ArgC.id (.cons ArgC.id .nil))) zg Tryz.call112 (is_c g z 5 [(⟨#[123]⟩:ByteArray)] (by omega) (by omega) hTj1) (.inl rfl)) ?_))
     rintro _ _ ⟨_,⟨rfl,rfl⟩,rfl⟩
     refine on J (oZ J ?_)
     refine zct (fun (jg:List MatD×Rd)=>[(0,dP g 0),(2,dP g1 0),(3,dP g2 0)]) (fun (jg:List MatD×Rd)=>[.bx g1 27 (.agg [.v (.string ByteArray.empty),.v (.string ByteArray.empty),dI 0,dI 0,dZ,dZ,dZ]),.bx g2 27 (.agg [.s nSel,.s t,dI 0,dI 0,.sh 1 (([]:List ByteArray).map D.s),.sh 3 (jg.1.map MatD.d),.sh 7 (Nd.ds ([]:List Nd))]),.bx g 72 (.agg [.sh 3 (jg.2.l.map TokD.d),dI jg.2.n,dB jg.2.b]),HPow,HErr ev,HSyn es]) (fun (jg:List MatD×Rd)=>((jg.1,jg.2)=z.selMs rmD t)) (fun _ hQ11=>?_) ?_
     · skip
       refine jC J (fun hc12=>?_) (fun hc12=>?_)
       · skip
         refine zf J (oR 1 J (oE J (zm [.bx g 72 (.agg [.sh 3 (z.l.map TokD.d),dI z.n,dB z.b])] [.bx g1 27 (.agg [.v (.string ByteArray.empty),.v (.string ByteArray.empty),dI 0,dI 0,dZ,dZ,dZ]),.bx g2 27 (.agg [.s nSel,.s t,dI 0,dI 0,.sh 1 (([]:List ByteArray).map D.s),.sh 3 (([]:List MatD).map MatD.d),.sh 7 (Nd.ds ([]:List Nd))]),HPow,HErr ev,HSyn es] [] J J (.cons ArgC.id .nil) zg Tryz.call233 (braces_c g z (by omega) (by omega) hTj1) (.inl rfl)) ?_))
         rintro _ _ ⟨_,⟨l13,s13,e13,rfl,rfl⟩,rfl⟩
         obtain ⟨ka13,kb13,kc13,hT13⟩:=(braces_e rmD e13).out hTj1
         refine on J (oP J (zd J fa_27_5 J) (oE J (zi (i:=2) (X':=.agg [.s nSel,.s t,dI 0,dI 0,.sh 1 (([]:List ByteArray).map D.s),.sh 3 (l13.map MatD.d),.sh 7 (Nd.ds ([]:List Nd))]) J J J (CellD.sh) Tryz.sizeOf24 J J J) ?_))
         rintro _ _ ⟨rfl,rfl⟩
         refine on J (zq J (PD.subH (HSub.perm (zc (i:=5) J)) (pn J (PD.subH (HSub.perm (zc (i:=5) J)) (pn J (PD.subH (HSub.perm (zc (i:=5) J)) (pn J (PD.subH (HSub.perm (zc (i:=3) J)) (pn J (PD.subH (HSub.perm (zc (i:=5) J)) (pn J (PD.subH (HSub.perm (zc (i:=5) J)) (pn J (pn J ?_))))))))))))))
         exact PD.sub [(0,dP g 0),(2,dP g1 0),(3,dP g2 0)] (sa J) (hQ11 (l13,s13) (selMs_1 rmD hc12 e13))
       · skip
         refine jT J (oP J (zd J zaA J) (oP J (ze J (i:=2) J Tryz.isAgg9 J) (oP J (zQ J J J) (oZ J ?_))))
         refine jD J (fun hc14=>?_) (fun hc14=>?_)
         · skip
           refine zf J (oR 2 J (oP J (zd J zX J) (oE J (zi (i:=0) (X':=.agg [.sh 3 (z.l.map TokD.d),dI z.n,dB true]) J J J (CellD.v J) Tryz.sizeOf4 J J J) ?_)))
           rintro _ _ ⟨rfl,rfl⟩
           refine on J (zq J (PD.subH (HSub.perm (zc (i:=5) J)) (pn J (PD.subH (HSub.perm (zc (i:=5) J)) (pn J (PD.subH (HSub.perm (zc (i:=5) J)) (pn J (PD.subH (HSub.perm (zc (i:=3) J)) (pn J (PD.subH (HSub.perm (zc (i:=5) J)) (pn J (PD.subH (HSub.perm (zc (i:=5) J)) (pn J (pn J ?_))))))))))))))
           exact PD.sub [(0,dP g 0),(2,dP g1 0),(3,dP g2 0)] (sa J) (hQ11 (([]:List MatD),(⟨z.l,z.n,true⟩:Rd)) (selMs_bad (by simpa using hc12) hc14))
         · skip
           refine zt J (PD.subH (HSub.perm (zc (i:=5) J)) (pn J (PD.subH (HSub.perm (zc (i:=5) J)) (pn J (PD.subH (HSub.perm (zc (i:=5) J)) (pn J (PD.subH (HSub.perm (zc (i:=3) J)) (pn J (PD.subH (HSub.perm (zc (i:=5) J)) (pn J (PD.subH (HSub.perm (zc (i:=5) J)) (pn J (pn J ?_)))))))))))))
           exact PD.sub [(0,dP g 0),(2,dP g1 0),(3,dP g2 0)] (sa J) (hQ11 (([]:List MatD),(⟨z.l,z.n,z.b⟩:Rd)) (selMs_no (by simpa using hc12) hc14))
     · skip
       rintro ⟨ms,y⟩ hms
       replace hms:(ms,y)=z.selMs rmD t:=hms
       refine pk [0,2,3] J (pn J (zj (jS J (jS J ?_))))
       obtain ⟨kx2,ky2,kz2,hTj2⟩:=(selMs_e hms).out hTj1
       refine zf J (oR 1 J (oE J (Qu.ef (d:=.sh 1 ([(⟨#[91]⟩:ByteArray)].map D.s)) ((zy [.const (.string (⟨#[91]⟩:ByteArray))] J J (.cons (CellD.v J) .nil) J Tryz.runUnderlying23 Tryz.sizeOf9 Tryz.zeroValue9 J J J J).cv (Cv.shs (.cons (Cv.str (by first | decide | (unfold maxLen;omega))) .nil)))) ?_))
       rintro _ _ ⟨rfl,rfl⟩
       refine OpsD.subH (HSub.perm (zc (i:=2) J)) (on J (oE J (zm [.bx g 72 (.agg [.sh 3 (y.l.map TokD.d),dI y.n,dB y.b])] [.bx g1 27 (.agg [.v (.string ByteArray.empty),.v (.string ByteArray.empty),dI 0,dI 0,dZ,dZ,dZ]),.bx g2 27 (.agg [.s nSel,.s t,dI 0,dI 0,.sh 1 (([]:List ByteArray).map D.s),.sh 3 (ms.map MatD.d),.sh 7 (Nd.ds ([]:List Nd))]),HPow,HErr ev,HSyn es] [] J J (.cons ArgC.id (.cons ArgC.id (.cons ArgC.id .nil))) zg Tryz.call40 (zcV g y 5 [(⟨#[91]⟩:ByteArray)] (by omega) (by omega) hTj2 (by decide)) (.inl rfl)) ?_))
       rintro _ _ ⟨_,⟨t15,q15,s15,e15,rfl,rfl⟩,rfl⟩
       obtain ⟨ka15,kb15,kc15,hT15⟩:=(zcU e15).out hTj2
       have kz15:=zcT e15 hTj2
       refine on J (oR 5 J (oZ J (jT J (oR 1 J (oZ J ?_)))))
       refine zct (fun (jg:Int×Rd)=>[(0,dP g 0),(2,dP g1 0),(3,dP g2 0)]) (fun (jg:Int×Rd)=>[.bx g1 27 (.agg [.v (.string ByteArray.empty),.v (.string ByteArray.empty),dI 0,dI 0,dZ,dZ,dZ]),.bx g2 27 (.agg [.s nSel,.s t,dI jg.1,dI 0,.sh 1 (([]:List ByteArray).map D.s),.sh 3 (ms.map MatD.d),.sh 7 (Nd.ds ([]:List Nd))]),.bx g 72 (.agg [.sh 3 (jg.2.l.map TokD.d),dI jg.2.n,dB jg.2.b]),HPow,HErr ev,HSyn es]) (fun (jg:Int×Rd)=>((jg.1,jg.2)=y.selWin)) (fun _ hQ16=>?_) ?_
       · skip
         refine jC J (fun hc17=>?_) (fun hc17=>?_)
         · skip
           refine jT J (oR 1 J (OpsD.subH (HSub.perm (zc (i:=5) J)) (on J (OpsD.subH (HSub.perm (zc (i:=5) J)) (on J (OpsD.subH (HSub.perm (zc (i:=5) J)) (on J (OpsD.subH (HSub.perm (zc (i:=3) J)) (on J (oE J (zm [.bx g 72 (.agg [.sh 3 (s15.l.map TokD.d),dI s15.n,dB s15.b]),HPow,HErr ev,HSyn es] [.bx g1 27 (.agg [.v (.string ByteArray.empty),.v (.string ByteArray.empty),dI 0,dI 0,dZ,dZ,dZ]),.bx g2 27 (.agg [.s nSel,.s t,dI 0,dI 0,.sh 1 (([]:List ByteArray).map D.s),.sh 3 (ms.map MatD.d),.sh 7 (Nd.ds ([]:List Nd))])] [] J J (.cons ArgC.id (.cons ArgC.id .nil)) zg Tryz.call114 (rdnum_c g s15 4 ev es hev hes (by omega) (by omega) hT15 (by omega)) (.inl rfl)) ?_))))))))))
           rintro _ _ ⟨_,⟨v18,s18,e18,rfl,rfl⟩,rfl⟩
           obtain ⟨ka18,kb18,kc18,hT18⟩:=(number_e e18).out hT15
           have kv18:=zdk e18 (by omega) hT15
           refine on J (oP J (zd J zaD J) (oE J (zi (i:=5) (X':=.agg [.s nSel,.s t,dI v18,dI 0,.sh 1 (([]:List ByteArray).map D.s),.sh 3 (ms.map MatD.d),.sh 7 (Nd.ds ([]:List Nd))]) J J J (CellD.v J) Tryz.sizeOf3 J J J) ?_))
           rintro _ _ ⟨rfl,rfl⟩
           refine on J (oZ J (jk [0,2,3] J (zf J (oR 1 J (oE J (zm [.bx g 72 (.agg [.sh 3 (s18.l.map TokD.d),dI s18.n,dB s18.b])] [HPow,HErr ev,HSyn es,.bx g1 27 (.agg [.v (.string ByteArray.empty),.v (.string ByteArray.empty),dI 0,dI 0,dZ,dZ,dZ]),.bx g2 27 (.agg [.s nSel,.s t,dI v18,dI 0,.sh 1 (([]:List ByteArray).map D.s),.sh 3 (ms.map MatD.d),.sh 7 (Nd.ds ([]:List Nd))])] [] J J (.cons ArgC.id (.cons (ArgC.cv (Cv.str (by first | decide | (unfold maxLen;omega)))) .nil)) zg Tryz.call200 (zbL g s18 (⟨#[93]⟩:ByteArray) (by omega) (by omega) hT18) (.inl rfl)) ?_)))))
           rintro _ _ ⟨_,⟨s19,e19,rfl,rfl⟩,rfl⟩
           obtain ⟨ka19,kb19,kc19,hT19⟩:=(zbK e19).out hT18
           refine on J (zq J (PD.subH (HSub.perm (zc (i:=3) J)) (pn J (PD.subH (HSub.perm (zc (i:=3) J)) (pn J (PD.subH (HSub.perm (zc (i:=3) J)) (pn J (PD.subH (HSub.perm (zc (i:=3) J)) (pn J (PD.subH (HSub.perm (zc (i:=5) J)) (pn J (PD.subH (HSub.perm (zc (i:=5) J)) (pn J (pn J ?_))))))))))))))
           exact PD.sub [(0,dP g 0),(2,dP g1 0),(3,dP g2 0)] (sa J) (hQ16 (v18,s19) (selWin_1 e15 hc17 e18 e19))
         · skip
           refine zt J (PD.subH (HSub.perm (zc (i:=5) J)) (pn J (PD.subH (HSub.perm (zc (i:=5) J)) (pn J (PD.subH (HSub.perm (zc (i:=5) J)) (pn J (PD.subH (HSub.perm (zc (i:=3) J)) (pn J (PD.subH (HSub.perm (zc (i:=5) J)) (pn J (PD.subH (HSub.perm (zc (i:=5) J)) (pn J (pn J ?_)))))))))))))
           exact PD.sub [(0,dP g 0),(2,dP g1 0),(3,dP g2 0)] (sa J) (hQ16 (0,s15) (selWin_0 e15 (by simpa using hc17)))
       · skip
         rintro ⟨w,v⟩ hwi
         replace hwi:(w,v)=y.selWin:=hwi
         refine pk [0,2,3] J (pn J (zj (jS J ?_)))
         obtain ⟨kx3,ky3,kz3,hTj3⟩:=(selWin_e hwi).out hTj2
         refine zf J (oR 1 J (oP J (zH (d:=.agg [.s nSel,.s t,dI w,dI 0,.sh 1 (([]:List ByteArray).map D.s),.sh 3 (ms.map MatD.d),.sh 7 (Nd.ds ([]:List Nd))]) J (i:=1) J Tryz.isAgg27 Tryz.sizeOf27 J J) (OpsD.subH (HSub.perm (zc (i:=2) J)) (on J (oE J (zm [.bx g 72 (.agg [.sh 3 (v.l.map TokD.d),dI v.n,dB v.b])] [.bx g1 27 (.agg [.v (.string ByteArray.empty),.v (.string ByteArray.empty),dI 0,dI 0,dZ,dZ,dZ]),.bx g2 27 (.agg [.s nSel,.s t,dI w,dI 0,.sh 1 (([]:List ByteArray).map D.s),.sh 3 (ms.map MatD.d),.sh 7 (Nd.ds ([]:List Nd))]),HPow,HErr ev,HSyn es] [] J J (.cons ArgC.id (.cons ArgC.id .nil)) zg Tryz.call158 (zei g v (.s nSel) (.s t) (dI w) (dI 0) (.sh 1 (([]:List ByteArray).map D.s)) (.sh 3 (ms.map MatD.d)) (.sh 7 (Nd.ds ([]:List Nd))) (by omega) (by omega) hTj3) (.inl rfl)) ?_)))))
         rintro _ _ ⟨_,⟨s20,e20,rfl,rfl⟩,rfl⟩
         obtain ⟨ka20,kb20,kc20,hT20⟩:=(zeh e20).out hTj3
         refine on J (oE J (zi (i:=1) (X':=.agg [.s nSel,.s t,dI w,dI 0,.sh 1 (([]:List ByteArray).map D.s),.sh 3 (ms.map MatD.d),.sh 7 (Nd.ds ([]:List Nd))]) J J J (CellD.agg) Tryz.sizeOf27 J J J) ?_)
         rintro _ _ ⟨rfl,rfl⟩
         refine on J (oZ J (zn J (PD.subH (HSub.perm (zc (i:=5) J)) (pn J (PD.subH (HSub.perm (zc (i:=5) J)) (pn J (PD.subH (HSub.perm (zc (i:=5) J)) (pn J (PD.subH (HSub.perm (zc (i:=3) J)) (pn J (pn J ?_)))))))))))
         exact zh Tryz.results222 (.cons (zU (i:=4) J J Tryz.isAgg27 Tryz.sizeOf27 J J) .nil) J (HSub.fst 4 J) ⟨nSel,t,w,0,([]:List ByteArray),ms,([]:List Nd),⟨s20.l,s20.n,s20.b⟩,selector_of rmD hsel hms hwi e20,J,J⟩
end Lp
