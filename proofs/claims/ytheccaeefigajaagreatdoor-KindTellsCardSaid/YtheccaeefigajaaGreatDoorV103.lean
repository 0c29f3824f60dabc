import Derived.Test.YtheccaeefigajaaGreatDoorV102
set_option linter.unusedSimpArgs false
set_option linter.unusedVariables false
set_option maxHeartbeats 4000000
set_option maxRecDepth 100000
namespace Lp
open Go Go.RowKit Go.Proofs
namespace HdYtheccaeefigajaaGreatDoorV103
theorem bd_143:∀ w,((#[⟨"kind",3,0,false, "", "leporello/kind",0⟩]:Array Field).mapM fun f=>do pure (f.offset,←Go.sizeOf f.type):Sem (Array (Nat×Nat))).run Tryz.prog w=.ok ([(0,1)]:List (Nat×Nat)).toArray w:=fun _=>by kernel_rfl
theorem bd_146:∀ w,((#[⟨"kid",3,0,false, "", "leporello/kind",0⟩,⟨"is",3,1,false, "", "leporello/kind",8⟩]:Array Field).mapM fun f=>do pure (f.offset,←Go.sizeOf f.type):Sem (Array (Nat×Nat))).run Tryz.prog w=.ok ([(0,1),(1,1)]:List (Nat×Nat)).toArray w:=fun _=>by kernel_rfl
theorem bd_149:∀ w,((#[⟨"mode",3,0,false, "", "leporello/kind",0⟩]:Array Field).mapM fun f=>do pure (f.offset,←Go.sizeOf f.type):Sem (Array (Nat×Nat))).run Tryz.prog w=.ok ([(0,1)]:List (Nat×Nat)).toArray w:=fun _=>by kernel_rfl
theorem bd_153:∀ w,((#[]:Array Field).mapM fun f=>do pure (f.offset,←Go.sizeOf f.type):Sem (Array (Nat×Nat))).run Tryz.prog w=.ok ([]:List (Nat×Nat)).toArray w:=fun _=>by kernel_rfl
theorem fa_143_0 (b o:Nat):∀ w,(Instr.fieldAt 143 (.pointer (some ⟨b,o,none⟩)) 0).run Tryz.prog w=.ok (.pointer (some ⟨b,o+0,none⟩)) w:=fun _=>by kernel_rfl
theorem fa_146_0 (b o:Nat):∀ w,(Instr.fieldAt 146 (.pointer (some ⟨b,o,none⟩)) 0).run Tryz.prog w=.ok (.pointer (some ⟨b,o+0,none⟩)) w:=fun _=>by kernel_rfl
theorem fa_146_1 (b o:Nat):∀ w,(Instr.fieldAt 146 (.pointer (some ⟨b,o,none⟩)) 1).run Tryz.prog w=.ok (.pointer (some ⟨b,o+1,none⟩)) w:=fun _=>by kernel_rfl
theorem fa_149_0 (b o:Nat):∀ w,(Instr.fieldAt 149 (.pointer (some ⟨b,o,none⟩)) 0).run Tryz.prog w=.ok (.pointer (some ⟨b,o+0,none⟩)) w:=fun _=>by kernel_rfl
theorem zaB (b o:Nat):∀ w,(Instr.fieldAt 27 (.pointer (some ⟨b,o,none⟩)) 0).run Tryz.prog w=.ok (.pointer (some ⟨b,o+0,none⟩)) w:=fun _=>by kernel_rfl
theorem zaA (b o:Nat):∀ w,(Instr.fieldAt 27 (.pointer (some ⟨b,o,none⟩)) 1).run Tryz.prog w=.ok (.pointer (some ⟨b,o+1,none⟩)) w:=fun _=>by kernel_rfl
theorem zaD (b o:Nat):∀ w,(Instr.fieldAt 27 (.pointer (some ⟨b,o,none⟩)) 2).run Tryz.prog w=.ok (.pointer (some ⟨b,o+2,none⟩)) w:=fun _=>by kernel_rfl
theorem zdu (b o:Nat):∀ w,(Instr.fieldAt 27 (.pointer (some ⟨b,o,none⟩)) 3).run Tryz.prog w=.ok (.pointer (some ⟨b,o+3,none⟩)) w:=fun _=>by kernel_rfl
theorem zap (b o:Nat):∀ w,(Instr.fieldAt 27 (.pointer (some ⟨b,o,none⟩)) 6).run Tryz.prog w=.ok (.pointer (some ⟨b,o+6,none⟩)) w:=fun _=>by kernel_rfl
theorem zbg (b o:Nat):∀ w,(Instr.fieldAt 29 (.pointer (some ⟨b,o,none⟩)) 0).run Tryz.prog w=.ok (.pointer (some ⟨b,o+0,none⟩)) w:=fun _=>by kernel_rfl
theorem infz_3:∃ i,Tryz.prog.info? 3=some i∧i.zero=some (.int .i64 0)∧i.size=1∧i.bytes=8:=zbq (by kernel_rfl)
theorem und_55:Tryz.prog.underlying 55=some (.slice 3):=by kernel_rfl
end HdYtheccaeefigajaaGreatDoorV103
open HdYtheccaeefigajaaGreatDoorV103
theorem right_c (op text:ByteArray) (n mode:Int) (names:List ByteArray) (ms:List MatD) (kids:List Nd) :
 CD Tryz.prog 116 [] [.agg [.s op,.s text,dI n,dI mode,.sh 1 (names.map D.s),.sh 3 (ms.map MatD.d),.sh 7 (kids.map Nd.d)]] (isR (dB (zbC text n))):=by
 refine zp Tryz.func116 J (N:=25) J J (fun C=>?_)
 refine jk [0] J ?_
 refine JD.bd 0 J (fun bd0=>?_)
 refine jT J (oE J (zaY J (CellD.agg)) ?_)
 rintro _ _ ⟨g1,rfl,rfl⟩
 refine oR 1 J (oZ J (jS J (jT J (oP J (zd J zaA J) (oP J (ze J (i:=0) J Tryz.isAgg9 J) (oZ J (jB J (jT J (oP J (zQ J J J) (oR 1 J (oZ J ?_)))))))))))
 refine jD J (fun hc2=>?_) (fun hc2=>?_)
 · skip
   refine jS J (jk [1] J ?_)
   refine zR 2 ((decide ((0:Int)≤n)&&decide (n≤(100:Int)))) [.bx g1 27 (.agg [.s op,.s text,dI n,dI mode,.sh 1 (names.map D.s),.sh 3 (ms.map MatD.d),.sh 7 (kids.map Nd.d)])] (fun _ hQ3=>?_) ?_
   · skip
     by_cases hg4:(0:Int)≤n
     · skip
       refine zf J (oP J (zd J zaD J) (oP J (ze J (i:=0) J Tryz.isAgg3 J) (oP J (zaw J J (decide_eq_true hg4)) (oR 1 J (oG J (zd J zaD J) (oG J (ze J (i:=0) J Tryz.isAgg3 J) (oG J (zbj J J J) (oR 2 J (zq J ?_)))))))))
       exact PD.sub ((2,dB (decide ((0:Int)≤n)&&decide (n≤(100:Int))))::[(1,dP g1 0)]) ⟨sc J (Cv.eq (congrArg (fun b=>D.v (.bool b)) (by first | (simp[hc2,hg4];done) | (simp_all;done) | (simp_all;exact Iff.rfl)))),sk rfl,trivial⟩ hQ3
     · skip
       refine zf J (oP J (zd J zaD J) (oP J (ze J (i:=0) J Tryz.isAgg3 J) (oP J (zaw J J (decide_eq_false hg4)) (oR 6 J (zq J ?_)))))
       exact PD.sub ((2,dB (decide ((0:Int)≤n)&&decide (n≤(100:Int))))::[(1,dP g1 0)]) ⟨sc J (Cv.eq (congrArg (fun b=>D.v (.bool b)) (by first | (simp[hc2,hg4];done) | (simp_all;done) | (simp_all;exact Iff.rfl)))),sk rfl,trivial⟩ hQ3
   · skip
     refine zj (zn J (zo (zk ?_)))
     exact zh Tryz.results116 (.cons (zx (zl J) (Cv.eq (congrArg (fun b=>D.v (.bool b)) (by unfold zbC;rw[if_pos hc2];simp)))) .nil) rfl HSub.none ⟨rfl,rfl⟩
 · skip
   refine jT J (oP J (zQ J J J) (oR 1 J (oZ J ?_)))
   refine jD J (fun hc5=>?_) (fun hc5=>?_)
   · skip
     refine jS J (jk [1] J ?_)
     refine zR 2 ((decide ((1:Int)≤n)&&decide (n≤(2000:Int)))) [.bx g1 27 (.agg [.s op,.s text,dI n,dI mode,.sh 1 (names.map D.s),.sh 3 (ms.map MatD.d),.sh 7 (kids.map Nd.d)])] (fun _ hQ6=>?_) ?_
     · skip
       by_cases hg7:(1:Int)≤n
       · skip
         refine zf J (oP J (zd J zaD J) (oP J (ze J (i:=0) J Tryz.isAgg3 J) (oP J (zaw J J (decide_eq_true hg7)) (oR 1 J (oG J (zd J zaD J) (oG J (ze J (i:=0) J Tryz.isAgg3 J) (oG J (zbj J J J) (oR 2 J (zq J ?_)))))))))
         exact PD.sub ((2,dB (decide ((1:Int)≤n)&&decide (n≤(2000:Int))))::[(1,dP g1 0)]) ⟨sc J (Cv.eq (congrArg (fun b=>D.v (.bool b)) (by first | (simp[hc2,hc5,hg7];done) | (simp_all;done) | (simp_all;exact Iff.rfl)))),sk rfl,trivial⟩ hQ6
       · skip
         refine zf J (oP J (zd J zaD J) (oP J (ze J (i:=0) J Tryz.isAgg3 J) (oP J (zaw J J (decide_eq_false hg7)) (oR 6 J (zq J ?_)))))
         exact PD.sub ((2,dB (decide ((1:Int)≤n)&&decide (n≤(2000:Int))))::[(1,dP g1 0)]) ⟨sc J (Cv.eq (congrArg (fun b=>D.v (.bool b)) (by first | (simp[hc2,hc5,hg7];done) | (simp_all;done) | (simp_all;exact Iff.rfl)))),sk rfl,trivial⟩ hQ6
     · skip
       refine zj (zn J (zo (zk ?_)))
       exact zh Tryz.results116 (.cons (zx (zl J) (Cv.eq (congrArg (fun b=>D.v (.bool b)) (by unfold zbC;rw[if_neg hc2,if_pos hc5];simp)))) .nil) rfl HSub.none ⟨rfl,rfl⟩
   · skip
     refine zt J (zB (zj (jT J (oR 1 J (oZ J (zn J ?_))))))
     exact zh Tryz.results116 (.cons (zx (zl J) (Cv.eq (congrArg (fun b=>D.v (.bool b)) (by unfold zbC;rw[if_neg hc2,if_neg hc5])))) .nil) rfl HSub.none ⟨rfl,rfl⟩
theorem asks_c (op text:ByteArray) (n mode:Int) (names:List ByteArray) (ms:List MatD) (kids:List Nd) :
 CD Tryz.prog 45 [] [.agg [.s op,.s text,dI n,dI mode,.sh 1 (names.map D.s),.sh 3 (ms.map MatD.d),.sh 7 (kids.map Nd.d)]] (isR (zbG op text n mode kids.length).d):=by
 refine zp Tryz.func45 J (N:=80) J J (fun C=>?_)
 refine jk [0] J ?_
 refine JD.bd 0 J (fun bd0=>?_)
 have hkl:=zc7 kids
 refine jT J (oE J (zaY J (CellD.agg)) ?_)
 rintro _ _ ⟨g1,rfl,rfl⟩
 refine oR 1 J (oZ J (jS J (jB J (jT J (oP J (zd J zaB J) (oP J (ze J (i:=0) J Tryz.isAgg9 J) (oP J (zQ J J J) (oR 1 J (oZ J ?_)))))))))
 refine jD J (fun hc2=>?_) (fun hc2=>?_)
 · skip
   refine jT J (oP J (zJ [0] [.const (.int .i64 1)] (zv:=(.agg #[(.int .i64 0)])) J J (.cons (CellD.v J) .nil) (Tryz.runUnderlying143) Tryz.zeroValue143 bd_143 ⟨J,trivial⟩ J) (oP J (zZ J (fun _ _=>by kernel_rfl)) (oR 1 rfl (oZ rfl (zn rfl (zo (zk ?_)))))))
   have hak:(D.ifc 143 (.agg [dI 1]):D)=(zbG op text n mode kids.length).d:=by unfold zbG;rw[if_pos hc2];rfl
   exact zh Tryz.results45 (.cons (zx (zl J) (Cv.eq hak)) .nil) J HSub.none ⟨rfl,J⟩
 · skip
   refine jS J (jk [1,2] J ?_)
   refine zR 9 ((decide (op=(⟨#[115,101,108]⟩:ByteArray))&&decide ((0:Int)<n))) [.bx g1 27 (.agg [.s op,.s text,dI n,dI mode,.sh 1 (names.map D.s),.sh 3 (ms.map MatD.d),.sh 7 (kids.map Nd.d)])] (fun _ hQ3=>?_) ?_
   · skip
     by_cases hg4:op=(⟨#[115,101,108]⟩:ByteArray)
     · skip
       refine zf J (oP J (zd J zaB J) (oP J (ze J (i:=0) J Tryz.isAgg9 J) (oP J (zQ J J (decide_eq_true hg4)) (oR 1 J (oG J (zd J zaD J) (oG J (ze J (i:=0) J Tryz.isAgg3 J) (oG J (zaF J J J) (oR 2 J (zq J ?_)))))))))
       exact PD.sub ((9,dB (decide (op=(⟨#[115,101,108]⟩:ByteArray))&&decide ((0:Int)<n)))::[(1,dP g1 0),(2,.v .nilIface)]) ⟨sc J (Cv.eq (congrArg (fun b=>D.v (.bool b)) (by first | (simp[hc2,hg4];done) | (simp_all;done) | (simp_all;exact Iff.rfl)))),sk rfl,sk rfl,trivial⟩ hQ3
     · skip
       refine zf J (oP J (zd J zaB J) (oP J (ze J (i:=0) J Tryz.isAgg9 J) (oP J (zQ J J (decide_eq_false hg4)) (oR 6 J (zq J ?_)))))
       exact PD.sub ((9,dB (decide (op=(⟨#[115,101,108]⟩:ByteArray))&&decide ((0:Int)<n)))::[(1,dP g1 0),(2,.v .nilIface)]) ⟨sc J (Cv.eq (congrArg (fun b=>D.v (.bool b)) (by first | (simp[hc2,hg4];done) | (simp_all;done) | (simp_all;exact Iff.rfl)))),sk rfl,sk rfl,trivial⟩ hQ3
   · skip
     refine zj ?_
     refine jC J (fun hc5=>?_) (fun hc5=>?_)
     · simp only[bA,bB,bC,bD,bE,bF,bG,bH,bI,bJ] at hc5
       refine jT J (oP J (zJ [0] [.const (.int .i64 3)] (zv:=(.agg #[(.int .i64 0)])) J J (.cons (CellD.v J) .nil) (Tryz.runUnderlying143) Tryz.zeroValue143 bd_143 ⟨J,trivial⟩ J) (oP J (zZ J (fun _ _=>by kernel_rfl)) (oR 1 rfl (oZ rfl (zn rfl (zo (zk ?_)))))))
       have hak:(D.ifc 143 (.agg [dI 3]):D)=(zbG op text n mode kids.length).d:=by unfold zbG;rw[if_neg hc2,if_pos hc5];rfl
       exact zh Tryz.results45 (.cons (zx (zl J) (Cv.eq hak)) .nil) J HSub.none ⟨rfl,J⟩
     · simp only[bA,bB,bC,bD,bE,bF,bG,bH,bI,bJ] at hc5
       refine jT J (oP J (zd J zaB J) (oP J (ze J (i:=0) J Tryz.isAgg9 J) (oP J (zQ J J J) (oR 1 J (oZ J ?_)))))
       refine jD J (fun hc6=>?_) (fun hc6=>?_)
       · skip
         refine jT J (oP J (zJ [0] [.const (.int .i64 2)] (zv:=(.agg #[(.int .i64 0)])) J J (.cons (CellD.v J) .nil) (Tryz.runUnderlying143) Tryz.zeroValue143 bd_143 ⟨J,trivial⟩ J) (oP J (zZ J (fun _ _=>by kernel_rfl)) (oR 1 rfl (oZ rfl (zn rfl (zo (zk ?_)))))))
         have hak:(D.ifc 143 (.agg [dI 2]):D)=(zbG op text n mode kids.length).d:=by unfold zbG;rw[if_neg hc2,if_neg (fun e=>by have h:=hc5;rcases h with h | h;exact h e.1;exact h e.2),if_pos hc6];rfl
         exact zh Tryz.results45 (.cons (zx (zl J) (Cv.eq hak)) .nil) J HSub.none ⟨rfl,J⟩
       · skip
         refine jS J (jk [1,2] J ?_)
         refine zR 26 ((decide (op=(⟨#[102,110]⟩:ByteArray))&&decide (((kids.length:Nat):Int)=(1:Int)))) [.bx g1 27 (.agg [.s op,.s text,dI n,dI mode,.sh 1 (names.map D.s),.sh 3 (ms.map MatD.d),.sh 7 (kids.map Nd.d)])] (fun _ hQ7=>?_) ?_
         · skip
           by_cases hg8:op=(⟨#[102,110]⟩:ByteArray)
           · skip
             refine zf J (oP J (zd J zaB J) (oP J (ze J (i:=0) J Tryz.isAgg9 J) (oP J (zQ J J (decide_eq_true hg8)) (oR 1 J (oG J (zd J zap J) (oG J (ze J (i:=0) J Tryz.isAgg25 J) (oG J (zbf (n:=kids.length) J Tryz.runUnderlying25 (by simp only[lm,lc,ln])) (oG rfl (zD rfl rfl rfl) (oR 2 rfl (zq rfl ?_))))))))))
             exact PD.sub ((26,dB (decide (op=(⟨#[102,110]⟩:ByteArray))&&decide (((kids.length:Nat):Int)=(1:Int))))::[(1,dP g1 0),(2,.v .nilIface)]) ⟨sc J (Cv.eq (congrArg (fun b=>D.v (.bool b)) (by first | (simp[hc2,hc6,hg8];done) | (simp_all;done) | (simp_all;exact Iff.rfl)))),sk rfl,sk rfl,trivial⟩ hQ7
           · skip
             refine zf J (oP J (zd J zaB J) (oP J (ze J (i:=0) J Tryz.isAgg9 J) (oP J (zQ J J (decide_eq_false hg8)) (oR 7 J (zq J ?_)))))
             exact PD.sub ((26,dB (decide (op=(⟨#[102,110]⟩:ByteArray))&&decide (((kids.length:Nat):Int)=(1:Int))))::[(1,dP g1 0),(2,.v .nilIface)]) ⟨sc J (Cv.eq (congrArg (fun b=>D.v (.bool b)) (by first | (simp[hc2,hc6,hg8];done) | (simp_all;done) | (simp_all;exact Iff.rfl)))),sk rfl,sk rfl,trivial⟩ hQ7
         · skip
           refine zj ?_
           refine jC J (fun hc9=>?_) (fun hc9=>?_)
           · simp only[bA,bB,bC,bD,bE,bF,bG,bH,bI,bJ] at hc9
             refine jT J (oP J (zJ [0,1] [.const (.int .i64 3),.const (.int .i64 2)] (zv:=(.agg #[(.int .i64 0),(.int .i64 0)])) J J (.cons (CellD.v J) (.cons (CellD.v J) .nil)) (Tryz.runUnderlying146) Tryz.zeroValue146 bd_146 ⟨J,J,trivial⟩ J) (oP J (zZ J (fun _ _=>by kernel_rfl)) (oR 1 rfl (oZ rfl (zn rfl (zo (zk ?_)))))))
             have hak:(D.ifc 146 (.agg [dI 3,dI 2]):D)=(zbG op text n mode kids.length).d:=by unfold zbG;rw[if_neg hc2,if_neg (fun e=>by have h:=hc5;rcases h with h | h;exact h e.1;exact h e.2),if_neg hc6,if_pos ⟨hc9.1,by have:=hc9.2;omega⟩];rfl
             exact zh Tryz.results45 (.cons (zx (zl J) (Cv.eq hak)) .nil) J HSub.none ⟨rfl,J⟩
           · simp only[bA,bB,bC,bD,bE,bF,bG,bH,bI,bJ] at hc9
             refine jS J (jk [1,2] J ?_)
             refine zR 38 (((decide (op=(⟨#[97,103,103]⟩:ByteArray))&&decide (((kids.length:Nat):Int)=(1:Int)))&&zbC text n)) [.bx g1 27 (.agg [.s op,.s text,dI n,dI mode,.sh 1 (names.map D.s),.sh 3 (ms.map MatD.d),.sh 7 (kids.map Nd.d)])] (fun _ hQ10=>?_) ?_
             · skip
               by_cases hg11:op=(⟨#[97,103,103]⟩:ByteArray)
               · skip
                 by_cases hg12:((kids.length:Nat):Int)=(1:Int)
                 · skip
                   refine zf J (oP J (zd J zaB J) (oP J (ze J (i:=0) J Tryz.isAgg9 J) (oP J (zQ J J (decide_eq_true hg11)) (oR 1 J (oG J (zd J zap J) (oG J (ze J (i:=0) J Tryz.isAgg25 J) (oG J (zbf (n:=kids.length) J Tryz.runUnderlying25 (by simp only[lm,lc,ln])) (oG rfl (zD rfl rfl (decide_eq_true hg12)) (oR 2 rfl (oG rfl (zH (d:=.agg [.s op,.s text,dI n,dI mode,.sh 1 (names.map D.s),.sh 3 (ms.map MatD.d),.sh 7 (kids.map Nd.d)]) rfl (i:=0) rfl Tryz.isAgg27 Tryz.sizeOf27 rfl rfl) (oV rfl rfl acs Tryz.call116 (right_c op text n mode names ms kids ) (oR 2 rfl (zq rfl ?_)))))))))))))
                   exact PD.sub ((38,dB ((decide (op=(⟨#[97,103,103]⟩:ByteArray))&&decide (((kids.length:Nat):Int)=(1:Int)))&&zbC text n))::[(1,dP g1 0),(2,.v .nilIface)]) ⟨sc J (Cv.eq (congrArg (fun b=>D.v (.bool b)) (by first | (simp[hc2,hc6,hg11,hg12];done) | (simp_all;done) | (simp_all;exact Iff.rfl)))),sk rfl,sk rfl,trivial⟩ hQ10
                 · skip
                   refine zf J (oP J (zd J zaB J) (oP J (ze J (i:=0) J Tryz.isAgg9 J) (oP J (zQ J J (decide_eq_true hg11)) (oR 1 J (oG J (zd J zap J) (oG J (ze J (i:=0) J Tryz.isAgg25 J) (oG J (zbf (n:=kids.length) J Tryz.runUnderlying25 (by simp only[lm,lc,ln])) (oG rfl (zD rfl rfl (decide_eq_false hg12)) (oR 6 rfl (zq rfl ?_))))))))))
                   exact PD.sub ((38,dB ((decide (op=(⟨#[97,103,103]⟩:ByteArray))&&decide (((kids.length:Nat):Int)=(1:Int)))&&zbC text n))::[(1,dP g1 0),(2,.v .nilIface)]) ⟨sc J (Cv.eq (congrArg (fun b=>D.v (.bool b)) (by first | (simp[hc2,hc6,hg11,hg12];done) | (simp_all;done) | (simp_all;exact Iff.rfl)))),sk rfl,sk rfl,trivial⟩ hQ10
               · skip
                 refine zf J (oP J (zd J zaB J) (oP J (ze J (i:=0) J Tryz.isAgg9 J) (oP J (zQ J J (decide_eq_false hg11)) (oR 11 J (zq J ?_)))))
                 exact PD.sub ((38,dB ((decide (op=(⟨#[97,103,103]⟩:ByteArray))&&decide (((kids.length:Nat):Int)=(1:Int)))&&zbC text n))::[(1,dP g1 0),(2,.v .nilIface)]) ⟨sc J (Cv.eq (congrArg (fun b=>D.v (.bool b)) (by first | (simp[hc2,hc6,hg11];done) | (simp_all;done) | (simp_all;exact Iff.rfl)))),sk rfl,sk rfl,trivial⟩ hQ10
             · skip
               refine zj ?_
               refine jC J (fun hc13=>?_) (fun hc13=>?_)
               · simp only[bA,bB,bC,bD,bE,bF,bG,bH,bI,bJ] at hc13
                 refine jT J (oP J (zJ [0,1] [.const (.int .i64 2),.const (.int .i64 2)] (zv:=(.agg #[(.int .i64 0),(.int .i64 0)])) J J (.cons (CellD.v J) (.cons (CellD.v J) .nil)) (Tryz.runUnderlying146) Tryz.zeroValue146 bd_146 ⟨J,J,trivial⟩ J) (oP J (zZ J (fun _ _=>by kernel_rfl)) (oR 1 rfl (oZ rfl (zn rfl (zo (zk ?_)))))))
                 have hak:(D.ifc 146 (.agg [dI 2,dI 2]):D)=(zbG op text n mode kids.length).d:=by unfold zbG;rw[if_neg hc2,if_neg (fun e=>by have h:=hc5;rcases h with h | h;exact h e.1;exact h e.2),if_neg hc6,if_neg (fun e=>by have h:=hc9;rcases h with h | h;exact h e.1;(have:=e.2;omega)),if_pos ⟨hc13.1.1,by have:=hc13.1.2;omega,hc13.2⟩];rfl
                 exact zh Tryz.results45 (.cons (zx (zl J) (Cv.eq hak)) .nil) J HSub.none ⟨rfl,J⟩
               · simp only[bA,bB,bC,bD,bE,bF,bG,bH,bI,bJ] at hc13
                 refine jS J (jk [1,2] J ?_)
                 refine zR 54 ((decide (op=(⟨#[110,101,103]⟩:ByteArray))&&decide (((kids.length:Nat):Int)=(1:Int)))) [.bx g1 27 (.agg [.s op,.s text,dI n,dI mode,.sh 1 (names.map D.s),.sh 3 (ms.map MatD.d),.sh 7 (kids.map Nd.d)])] (fun _ hQ14=>?_) ?_
                 · skip
                   by_cases hg15:op=(⟨#[110,101,103]⟩:ByteArray)
                   · skip
                     refine zf J (oP J (zd J zaB J) (oP J (ze J (i:=0) J Tryz.isAgg9 J) (oP J (zQ J J (decide_eq_true hg15)) (oR 1 J (oG J (zd J zap J) (oG J (ze J (i:=0) J Tryz.isAgg25 J) (oG J (zbf (n:=kids.length) J Tryz.runUnderlying25 (by simp only[lm,lc,ln])) (oG rfl (zD rfl rfl rfl) (oR 2 rfl (zq rfl ?_))))))))))
                     exact PD.sub ((54,dB (decide (op=(⟨#[110,101,103]⟩:ByteArray))&&decide (((kids.length:Nat):Int)=(1:Int))))::[(1,dP g1 0),(2,.v .nilIface)]) ⟨sc J (Cv.eq (congrArg (fun b=>D.v (.bool b)) (by first | (simp[hc2,hc6,hg15];done) | (simp_all;done) | (simp_all;exact Iff.rfl)))),sk rfl,sk rfl,trivial⟩ hQ14
                   · skip
                     refine zf J (oP J (zd J zaB J) (oP J (ze J (i:=0) J Tryz.isAgg9 J) (oP J (zQ J J (decide_eq_false hg15)) (oR 7 J (zq J ?_)))))
                     exact PD.sub ((54,dB (decide (op=(⟨#[110,101,103]⟩:ByteArray))&&decide (((kids.length:Nat):Int)=(1:Int))))::[(1,dP g1 0),(2,.v .nilIface)]) ⟨sc J (Cv.eq (congrArg (fun b=>D.v (.bool b)) (by first | (simp[hc2,hc6,hg15];done) | (simp_all;done) | (simp_all;exact Iff.rfl)))),sk rfl,sk rfl,trivial⟩ hQ14
                 · skip
                   refine zj ?_
                   refine jC J (fun hc16=>?_) (fun hc16=>?_)
                   · simp only[bA,bB,bC,bD,bE,bF,bG,bH,bI,bJ] at hc16
                     refine jT J (oP J (zJ [] [] (zv:=(.agg #[])) J J (.nil) (Tryz.runUnderlying153) Tryz.zeroValue153 bd_153 trivial J) (oP J (zZ J (fun _ _=>by kernel_rfl)) (oR 1 rfl (oZ rfl (zn rfl (zo (zk ?_)))))))
                     have hak:(D.ifc 153 (.agg []):D)=(zbG op text n mode kids.length).d:=by unfold zbG;rw[if_neg hc2,if_neg (fun e=>by have h:=hc5;rcases h with h | h;exact h e.1;exact h e.2),if_neg hc6,if_neg (fun e=>by have h:=hc9;rcases h with h | h;exact h e.1;(have:=e.2;omega)),if_neg (fun e=>by have h:=hc13;rcases h with (h | h) | h;exact h e.1;(have:=e.2.1;omega);(rw[e.2.2] at h;cases h)),if_pos ⟨hc16.1,by have:=hc16.2;omega⟩];rfl
                     exact zh Tryz.results45 (.cons (zx (zl J) (Cv.eq hak)) .nil) J HSub.none ⟨rfl,J⟩
                   · simp only[bA,bB,bC,bD,bE,bF,bG,bH,bI,bJ] at hc16
                     refine jS J (jk [1,2] J ?_)
                     refine zR 66 ((decide (op=(⟨#[98,105,110]⟩:ByteArray))&&decide (((kids.length:Nat):Int)=(2:Int)))) [.bx g1 27 (.agg [.s op,.s text,dI n,dI mode,.sh 1 (names.map D.s),.sh 3 (ms.map MatD.d),.sh 7 (kids.map Nd.d)])] (fun _ hQ17=>?_) ?_
                     · skip
                       by_cases hg18:op=(⟨#[98,105,110]⟩:ByteArray)
                       · skip
                         refine zf J (oP J (zd J zaB J) (oP J (ze J (i:=0) J Tryz.isAgg9 J) (oP J (zQ J J (decide_eq_true hg18)) (oR 1 J (oG J (zd J zap J) (oG J (ze J (i:=0) J Tryz.isAgg25 J) (oG J (zbf (n:=kids.length) J Tryz.runUnderlying25 (by simp only[lm,lc,ln])) (oG rfl (zD rfl rfl rfl) (oR 2 rfl (zq rfl ?_))))))))))
                         exact PD.sub ((66,dB (decide (op=(⟨#[98,105,110]⟩:ByteArray))&&decide (((kids.length:Nat):Int)=(2:Int))))::[(1,dP g1 0),(2,.v .nilIface)]) ⟨sc J (Cv.eq (congrArg (fun b=>D.v (.bool b)) (by first | (simp[hc2,hc6,hg18];done) | (simp_all;done) | (simp_all;exact Iff.rfl)))),sk rfl,sk rfl,trivial⟩ hQ17
                       · skip
                         refine zf J (oP J (zd J zaB J) (oP J (ze J (i:=0) J Tryz.isAgg9 J) (oP J (zQ J J (decide_eq_false hg18)) (oR 7 J (zq J ?_)))))
                         exact PD.sub ((66,dB (decide (op=(⟨#[98,105,110]⟩:ByteArray))&&decide (((kids.length:Nat):Int)=(2:Int))))::[(1,dP g1 0),(2,.v .nilIface)]) ⟨sc J (Cv.eq (congrArg (fun b=>D.v (.bool b)) (by first | (simp[hc2,hc6,hg18];done) | (simp_all;done) | (simp_all;exact Iff.rfl)))),sk rfl,sk rfl,trivial⟩ hQ17
                     · skip
                       refine zj ?_
                       refine jC J (fun hc19=>?_) (fun hc19=>?_)
                       · simp only[bA,bB,bC,bD,bE,bF,bG,bH,bI,bJ] at hc19
                         refine jT J (oP J (zd J zdu J) (oP J (ze J (i:=0) J Tryz.isAgg3 J) (oP J (zJ [0] [.tmp 77] (zv:=(.agg #[(.int .i64 0)])) J J (.cons (CellD.v J) .nil) (Tryz.runUnderlying149) Tryz.zeroValue149 bd_149 ⟨J,trivial⟩ J) (oP J (zZ J (fun _ _=>by kernel_rfl)) (oR 1 rfl (oZ rfl (zn rfl (zo (zk ?_)))))))))
                         have hak:(D.ifc 149 (.agg [dI mode]):D)=(zbG op text n mode kids.length).d:=by unfold zbG;rw[if_neg hc2,if_neg (fun e=>by have h:=hc5;rcases h with h | h;exact h e.1;exact h e.2),if_neg hc6,if_neg (fun e=>by have h:=hc9;rcases h with h | h;exact h e.1;(have:=e.2;omega)),if_neg (fun e=>by have h:=hc13;rcases h with (h | h) | h;exact h e.1;(have:=e.2.1;omega);(rw[e.2.2] at h;cases h)),if_neg (fun e=>by have h:=hc16;rcases h with h | h;exact h e.1;(have:=e.2;omega)),if_pos ⟨hc19.1,by have:=hc19.2;omega⟩];rfl
                         exact zh Tryz.results45 (.cons (zx (zl J) (Cv.eq hak)) .nil) J HSub.none ⟨rfl,J⟩
                       · simp only[bA,bB,bC,bD,bE,bF,bG,bH,bI,bJ] at hc19
                         refine zt J (zB (zj (jT J (oR 1 J (oZ J (zn J ?_))))))
                         have hak:(D.v .nilIface:D)=(zbG op text n mode kids.length).d:=by unfold zbG;rw[if_neg hc2,if_neg (fun e=>by have h:=hc5;rcases h with h | h;exact h e.1;exact h e.2),if_neg hc6,if_neg (fun e=>by have h:=hc9;rcases h with h | h;exact h e.1;(have:=e.2;omega)),if_neg (fun e=>by have h:=hc13;rcases h with (h | h) | h;exact h e.1;(have:=e.2.1;omega);(rw[e.2.2] at h;cases h)),if_neg (fun e=>by have h:=hc16;rcases h with h | h;exact h e.1;(have:=e.2;omega)),if_neg (fun e=>by have h:=hc19;rcases h with h | h;exact h e.1;(have:=e.2;omega))];rfl
                         exact zh Tryz.results45 (.cons (zx (zl J) (Cv.eq hak)) .nil) J HSub.none ⟨rfl,J⟩
theorem pairof_c (m a b:Int) :
 CD Tryz.prog 115 [] [.agg [dI m],dI a,dI b] (isR (dI (zdU m a b))):=by
 refine zp Tryz.func115 J (N:=28) J J (fun C=>?_)
 refine jk [0,1,2] J ?_
 refine JD.bd 0 J (fun bd0=>?_)
 refine jT J (oE J (zaY J (CellD.agg)) ?_)
 rintro _ _ ⟨g1,rfl,rfl⟩
 refine oR 1 J (oZ J (jS J (jB J (jS J (jk [1,2,3,6] J ?_)))))
 refine zR 7 ((decide (a=(3:Int))||decide (b=(3:Int)))) [.bx g1 149 (.agg [dI m])] (fun _ hQ2=>?_) ?_
 · skip
   by_cases hg3:a=(3:Int)
   · skip
     refine zf J (oR 1 J (oP J (zD J J (decide_eq_true hg3)) (oR 5 J (zq J ?_))))
     exact PD.sub ((7,dB (decide (a=(3:Int))||decide (b=(3:Int))))::[(1,dI a),(2,dI b),(3,dP g1 0),(6,dI 0)]) ⟨sc J (Cv.eq (congrArg (fun b=>D.v (.bool b)) (by first | (simp[hg3];done) | (simp_all;done) | (simp_all;exact Iff.rfl)))),sk rfl,sk rfl,sk rfl,sk rfl,trivial⟩ hQ2
   · skip
     refine zf J (oR 1 J (oP J (zD J J (decide_eq_false hg3)) (oR 2 J (oG J (zD J J J) (oR 2 J (zq J ?_))))))
     exact PD.sub ((7,dB (decide (a=(3:Int))||decide (b=(3:Int))))::[(1,dI a),(2,dI b),(3,dP g1 0),(6,dI 0)]) ⟨sc J (Cv.eq (congrArg (fun b=>D.v (.bool b)) (by first | (simp[hg3];done) | (simp_all;done) | (simp_all;exact Iff.rfl)))),sk rfl,sk rfl,sk rfl,sk rfl,trivial⟩ hQ2
 · skip
   refine zj ?_
   refine jC J (fun hc4=>?_) (fun hc4=>?_)
   · simp only[bA,bB,bC,bD,bE,bF,bG,bH,bI,bJ] at hc4
     refine jT J (oR 1 J (oZ J (zn J (zo (zk ?_)))))
     exact zh Tryz.results115 (.cons (zx (zl J) (Cv.eq (congrArg (fun n=>D.v (.int .i64 n)) (by unfold zdU;rw[if_pos hc4])))) .nil) rfl HSub.none ⟨rfl,rfl⟩
   · simp only[bA,bB,bC,bD,bE,bF,bG,bH,bI,bJ] at hc4
     refine jS J (jk [1,2,3,6] J ?_)
     refine zR 14 ((decide (a=(2:Int))&&decide (b=(2:Int)))) [.bx g1 149 (.agg [dI m])] (fun _ hQ5=>?_) ?_
     · skip
       by_cases hg6:a=(2:Int)
       · skip
         refine zf J (oR 1 J (oP J (zD J J (decide_eq_true hg6)) (oR 2 J (oG J (zD J J J) (oR 2 J (zq J ?_))))))
         exact PD.sub ((14,dB (decide (a=(2:Int))&&decide (b=(2:Int))))::[(1,dI a),(2,dI b),(3,dP g1 0),(6,dI 0)]) ⟨sc J (Cv.eq (congrArg (fun b=>D.v (.bool b)) (by first | (simp[hg6];done) | (simp_all;done) | (simp_all;exact Iff.rfl)))),sk rfl,sk rfl,sk rfl,sk rfl,trivial⟩ hQ5
       · skip
         refine zf J (oR 1 J (oP J (zD J J (decide_eq_false hg6)) (oR 5 J (zq J ?_))))
         exact PD.sub ((14,dB (decide (a=(2:Int))&&decide (b=(2:Int))))::[(1,dI a),(2,dI b),(3,dP g1 0),(6,dI 0)]) ⟨sc J (Cv.eq (congrArg (fun b=>D.v (.bool b)) (by first | (simp[hg6];done) | (simp_all;done) | (simp_all;exact Iff.rfl)))),sk rfl,sk rfl,sk rfl,sk rfl,trivial⟩ hQ5
     · skip
       refine zj ?_
       refine jC J (fun hc7=>?_) (fun hc7=>?_)
       · simp only[bA,bB,bC,bD,bE,bF,bG,bH,bI,bJ] at hc7
         refine jT J (oR 1 J (oZ J (zn J (zo (zk ?_)))))
         exact zh Tryz.results115 (.cons (zx (zl rfl) (Cv.eq (congrArg (fun n=>D.v (.int .i64 n)) (by unfold zdU;rw[if_neg (fun e=>by have h:=hc4;rcases e with e | e;exact h.1 e;exact h.2 e),if_pos hc7])))) .nil) rfl HSub.none ⟨rfl,rfl⟩
       · simp only[bA,bB,bC,bD,bE,bF,bG,bH,bI,bJ] at hc7
         refine jT J (oP J (zd J fa_149_0 J) (oP J (ze J (i:=0) J Tryz.isAgg3 J) (oP J (za2 J J J) (oR 1 J (oZ J ?_)))))
         refine jD J (fun hc8=>?_) (fun hc8=>?_)
         · skip
           refine jT J (oR 1 J (oZ J (zn J (zo (zk ?_)))))
           exact zh Tryz.results115 (.cons (zx (zl rfl) (Cv.eq (congrArg (fun n=>D.v (.int .i64 n)) (by unfold zdU;rw[if_neg (fun e=>by have h:=hc4;rcases e with e | e;exact h.1 e;exact h.2 e),if_neg (fun e=>by have h:=hc7;rcases h with h | h;exact h e.1;exact h e.2),if_pos hc8])))) .nil) rfl HSub.none ⟨rfl,rfl⟩
         · skip
           refine zt J (zB (zj (jT J (oR 2 J (oP J (p_max J J J) (oR 1 J (oZ J (jk [6] J (zn J ?_)))))))))
           exact zh Tryz.results115 (.cons (zx (zl rfl) (Cv.eq (congrArg (fun n=>D.v (.int .i64 n)) (by unfold zdU;rw[if_neg (fun e=>by have h:=hc4;rcases e with e | e;exact h.1 e;exact h.2 e),if_neg (fun e=>by have h:=hc7;rcases h with h | h;exact h e.1;exact h e.2),if_neg (by simpa using hc8)])))) .nil) rfl HSub.none ⟨rfl,rfl⟩
theorem kof_leaf (k:Int) (l:List Int) :
 CD Tryz.prog 44 [] [.ifc 143 (.agg [dI k]),.sh 1 (l.map dI)] (isR (dI (Ask.kind (.leaf k) l))):=by
 refine zp Tryz.func44 J (N:=64) J J (fun C=>?_)
 refine jk [0,1] J ?_
 refine JD.bd 1 J (fun bd1=>?_)
 have nl1:=zbF bd1
 refine jT J (oR 1 J (oZ J (jS J (jT J (oR 1 J (oP J (zbX J (fun _ _=>by kernel_rfl)) (oR 3 rfl (oE rfl (zC (zv:=(.agg #[(.int .i64 0)])) Tryz.zeroValue143 ⟨rfl,trivial⟩ (Cv.vagg (by decide))) ?_))))))))
 rintro _ _ ⟨g1,rfl,rfl⟩
 refine oE J (zi (i:=0) (X':=.agg [dI k]) J J J (CellD.agg) Tryz.sizeOf143 J J J) ?_
 rintro _ _ ⟨rfl,rfl⟩
 refine on J (oR 1 J (oZ J (jT J (oR 1 J (oZ J (jCt J (jT J (oP J (zd J fa_143_0 J) (oP J (ze J (i:=0) J Tryz.isAgg3 J) (oR 1 J (oZ J (jk [0,1,4] J (zn J (zk ?_))))))))))))))
 exact zh Tryz.results44 (.cons (zx (zl J) (Cv.eq (congrArg (fun n=>D.v (.int .i64 n)) (by rfl)))) .nil) rfl HSub.none ⟨rfl,rfl⟩
theorem kof_whole (a b:Int) (l:List Int) (hl:l.length=1):
 CD Tryz.prog 44 [] [.ifc 146 (.agg [dI a,dI b]),.sh 1 (l.map dI)] (isR (dI (Ask.kind (.whole a b) l))):=by
 refine zp Tryz.func44 J (N:=64) J J (fun C=>?_)
 refine jk [0,1] J ?_
 refine JD.bd 1 J (fun bd1=>?_)
 have nl1:=zbF bd1
 refine jT J (oR 1 J (oZ J (jS J (jT J (oR 1 J (oP J ((zaS (zv:=(.agg #[(.int .i64 0)])) J (fun _ _=>by kernel_rfl)).cv (Cv.tup (.cons (Cv.vagg (by decide)) (.cons Cv.rfl' .nil)))) (oR 3 rfl (oE rfl (zC (zv:=(.agg #[(.int .i64 0)])) Tryz.zeroValue143 ⟨rfl,trivial⟩ (Cv.vagg (by decide))) ?_))))))))
 rintro _ _ ⟨g1,rfl,rfl⟩
 refine oE J (zi (i:=0) (X':=.agg [dI 0]) J J J (CellD.agg) Tryz.sizeOf143 J J J) ?_
 rintro _ _ ⟨rfl,rfl⟩
 refine on J (oR 1 J (oZ J (jT J (oR 1 J (oZ J (jCf J (zt J (zj (jS J (jT J (oR 1 J (oP J (zbX J (fun _ _=>by kernel_rfl)) (oR 3 rfl (oE rfl (zC (zv:=(.agg #[(.int .i64 0),(.int .i64 0)])) Tryz.zeroValue146 ⟨rfl,rfl,trivial⟩ (Cv.vagg (by decide))) ?_))))))))))))))
 rintro _ _ ⟨g2,rfl,rfl⟩
 refine oE J (zi (i:=0) (X':=.agg [dI a,dI b]) J J J (CellD.agg) Tryz.sizeOf146 J J J) ?_
 rintro _ _ ⟨rfl,rfl⟩
 refine on J (oR 1 J (oZ J (jk [0,1,4,7,8] J (jT J (oR 1 J (oZ J (jCt J (jS J (jS J (jk [0,1,4,7,8,26] J (jn J ?_)))))))))))
 obtain ⟨x1,hx1⟩:=zW l 0 (by omega)
 refine zaX 5 [(27,.sh 1 (l.map dI),none),(28,.el (dI x1) 0,none),(29,dI x1,none),(30,dP g2 0,none),(31,dI a,none)] [.bx g2 146 (.agg [dI a,dI b]),.bx g1 143 (.agg [dI 0])] (Hn:=[.bx g2 146 (.agg [dI a,dI b]),.bx g1 143 (.agg [dI 0])]) mixed J J J J HSub.rfl' J ⟨sa_p J J J (zG J),sa_p J J J (zI (k:=0) J J Tryz.runUnderlying55 Tryz.sizeOf3 (by first | rfl | omega) (zK hx1)),sa_p rfl rfl rfl (zar rfl Tryz.isAgg3 rfl),sa_p rfl rfl rfl (zd rfl fa_146_0 rfl),sa_p rfl rfl rfl (ze rfl (i:=0) rfl Tryz.isAgg3 rfl),trivial⟩ (ok [0,1,4,7,8,26,27,28,29,30,31] rfl (oP rfl (za2 rfl rfl rfl) (oZ rfl ?_)))
 refine jD J (fun hc3=>?_) (fun hc3=>?_)
 · skip
   refine jT J (oR 1 J (oZ J (zn J (zk (zk ?_)))))
   exact zh Tryz.results44 (.cons (zx (zl J) (Cv.eq (congrArg (fun n=>D.v (.int .i64 n)) (by show _=(if l.headD 0=a then b else 0);rw[hd_0 hx1];first | rw[if_neg (by simpa using hc3)] | rw[if_pos (by simpa using hc3)])))) .nil) rfl HSub.none ⟨rfl,rfl⟩
 · skip
   refine zt J (zj (jT J (oP J (zd J fa_146_1 J) (oP J (ze J (i:=0) J Tryz.isAgg3 J) (oR 1 J (oZ J (jk [0,1,4] J (zn J (zk ?_)))))))))
   exact zh Tryz.results44 (.cons (zx (zl J) (Cv.eq (congrArg (fun n=>D.v (.int .i64 n)) (by show _=(if l.headD 0=a then b else 0);rw[hd_0 hx1];first | rw[if_neg (by simpa using hc3)] | rw[if_pos (by simpa using hc3)])))) .nil) rfl HSub.none ⟨rfl,rfl⟩
theorem kof_plain  (l:List Int) (hl:l.length=1):
 CD Tryz.prog 44 [] [.ifc 153 (.agg []),.sh 1 (l.map dI)] (isR (dI (Ask.kind (.plain) l))):=by
 refine zp Tryz.func44 J (N:=64) J J (fun C=>?_)
 refine jk [0,1] J ?_
 refine JD.bd 1 J (fun bd1=>?_)
 have nl1:=zbF bd1
 obtain ⟨x1,hx1⟩:=zW l 0 (by omega)
 refine jT J (oR 1 J (oZ J (jS J (jT J (oR 1 J (oP J ((zaS (zv:=(.agg #[(.int .i64 0)])) J (fun _ _=>by kernel_rfl)).cv (Cv.tup (.cons (Cv.vagg (by decide)) (.cons Cv.rfl' .nil)))) (oR 3 rfl (oE rfl (zC (zv:=(.agg #[(.int .i64 0)])) Tryz.zeroValue143 ⟨rfl,trivial⟩ (Cv.vagg (by decide))) ?_))))))))
 rintro _ _ ⟨g1,rfl,rfl⟩
 refine oE J (zi (i:=0) (X':=.agg [dI 0]) J J J (CellD.agg) Tryz.sizeOf143 J J J) ?_
 rintro _ _ ⟨rfl,rfl⟩
 refine on J (oR 1 J (oZ J (jT J (oR 1 J (oZ J (jCf J (zt J (zj (jS J (jT J (oR 1 J (oP J ((zaS (zv:=(.agg #[(.int .i64 0),(.int .i64 0)])) J (fun _ _=>by kernel_rfl)).cv (Cv.tup (.cons (Cv.vagg (by decide)) (.cons Cv.rfl' .nil)))) (oR 3 rfl (oE rfl (zC (zv:=(.agg #[(.int .i64 0),(.int .i64 0)])) Tryz.zeroValue146 ⟨rfl,rfl,trivial⟩ (Cv.vagg (by decide))) ?_))))))))))))))
 rintro _ _ ⟨g2,rfl,rfl⟩
 refine oE J (zi (i:=0) (X':=.agg [dI 0,dI 0]) J J J (CellD.agg) Tryz.sizeOf146 J J J) ?_
 rintro _ _ ⟨rfl,rfl⟩
 refine on J (oR 1 J (oZ J (jk [0,1,4,7,8] J (jT J (oR 1 J (oZ J (jCf J (zt J (zj (jS J (jT J (oR 1 J (oP J ((zaS (zv:=(.agg #[(.int .i64 0)])) J (fun _ _=>by kernel_rfl)).cv (Cv.tup (.cons (Cv.vagg (by decide)) (.cons Cv.rfl' .nil)))) (oR 3 rfl (oE rfl (zC (zv:=(.agg #[(.int .i64 0)])) Tryz.zeroValue149 ⟨rfl,trivial⟩ (Cv.vagg (by decide))) ?_)))))))))))))))
 rintro _ _ ⟨g3,rfl,rfl⟩
 refine oE J (zi (i:=0) (X':=.agg [dI 0]) J J J (CellD.agg) Tryz.sizeOf149 J J J) ?_
 rintro _ _ ⟨rfl,rfl⟩
 refine on J (oR 1 J (oZ J (jT J (oR 1 J (oZ J (jk [0,1,4,9,40] J (jCf J (zt J (zj (jS J (jT J (oR 1 J (oP J (zbX J (fun _ _=>by kernel_rfl)) (oR 3 rfl (oE rfl (zC (zv:=(.agg #[])) Tryz.zeroValue153 trivial (Cv.vagg (by decide))) ?_)))))))))))))))
 rintro _ _ ⟨g4,rfl,rfl⟩
 refine oE J (zi (i:=0) (X':=.agg []) J J J (CellD.agg) Tryz.sizeOf153 J J J) ?_
 rintro _ _ ⟨rfl,rfl⟩
 refine on J (oR 1 J (oZ J (jk [1,4,12] J (jS J (jk [1,4,12] J ?_)))))
 refine zR 60 (decide (x1≠(3:Int))) [.bx g4 153 (.agg []),.bx g3 149 (.agg [dI 0]),.bx g2 146 (.agg [dI 0,dI 0]),.bx g1 143 (.agg [dI 0])] (fun _ hQ5=>?_) ?_
 · skip
   refine zf J (oR 3 J (oG J (zI (k:=0) J J Tryz.runUnderlying55 Tryz.sizeOf3 (by first | rfl | omega) (zK hx1)) (oG rfl (zar rfl Tryz.isAgg3 rfl) (oG rfl (za2 rfl rfl rfl) (oR 1 rfl (zq rfl ?_))))))
   exact PD.sub ((60,dB (decide (x1≠(3:Int))))::[(1,.sh 1 (l.map dI)),(4,dI 0),(12,dB true)]) ⟨sc J (Cv.eq (congrArg (fun b=>D.v (.bool b)) (by first | (simp[];done) | (simp_all;done)))),sk rfl,sk rfl,sk rfl,trivial⟩ hQ5
 · skip
   refine zj ?_
   refine jD J (fun hc6=>?_) (fun hc6=>?_)
   · skip
     refine jT J (oR 1 J (oP J (zI (k:=0) J J Tryz.runUnderlying55 Tryz.sizeOf3 (by first | rfl | omega) (zK hx1)) (oP rfl (zar rfl Tryz.isAgg3 rfl) (oR 1 rfl (oZ rfl (zn rfl (zk ?_)))))))
     exact zh Tryz.results44 (.cons (zx (zl J) (Cv.eq (congrArg (fun n=>D.v (.int .i64 n)) (by show _=(if l.headD 0=3 then 0 else l.headD 0);first | (rw[hd_0 hx1];first | rw[if_neg (by simpa using hc6)] | rw[if_pos (by simpa using hc6)]))))) .nil) rfl HSub.none ⟨rfl,rfl⟩
   · skip
     refine zt J (zj (jT J (oR 1 J (oZ J (zn J ?_)))))
     exact zh Tryz.results44 (.cons (zx (zl J) (Cv.eq (congrArg (fun n=>D.v (.int .i64 n)) (by show _=(if l.headD 0=3 then 0 else l.headD 0);first | (rw[hd_0 hx1];first | rw[if_neg (by simpa using hc6)] | rw[if_pos (by simpa using hc6)]))))) .nil) rfl HSub.none ⟨rfl,rfl⟩
theorem kof_pair (m:Int) (l:List Int) (hl:l.length=2):
 CD Tryz.prog 44 [] [.ifc 149 (.agg [dI m]),.sh 1 (l.map dI)] (isR (dI (Ask.kind (.pair m) l))):=by
 refine zp Tryz.func44 J (N:=64) J J (fun C=>?_)
 refine jk [0,1] J ?_
 refine JD.bd 1 J (fun bd1=>?_)
 have nl1:=zbF bd1
 refine jT J (oR 1 J (oZ J (jS J (jT J (oR 1 J (oP J ((zaS (zv:=(.agg #[(.int .i64 0)])) J (fun _ _=>by kernel_rfl)).cv (Cv.tup (.cons (Cv.vagg (by decide)) (.cons Cv.rfl' .nil)))) (oR 3 rfl (oE rfl (zC (zv:=(.agg #[(.int .i64 0)])) Tryz.zeroValue143 ⟨rfl,trivial⟩ (Cv.vagg (by decide))) ?_))))))))
 rintro _ _ ⟨g1,rfl,rfl⟩
 refine oE J (zi (i:=0) (X':=.agg [dI 0]) J J J (CellD.agg) Tryz.sizeOf143 J J J) ?_
 rintro _ _ ⟨rfl,rfl⟩
 refine on J (oR 1 J (oZ J (jT J (oR 1 J (oZ J (jCf J (zt J (zj (jS J (jT J (oR 1 J (oP J ((zaS (zv:=(.agg #[(.int .i64 0),(.int .i64 0)])) J (fun _ _=>by kernel_rfl)).cv (Cv.tup (.cons (Cv.vagg (by decide)) (.cons Cv.rfl' .nil)))) (oR 3 rfl (oE rfl (zC (zv:=(.agg #[(.int .i64 0),(.int .i64 0)])) Tryz.zeroValue146 ⟨rfl,rfl,trivial⟩ (Cv.vagg (by decide))) ?_))))))))))))))
 rintro _ _ ⟨g2,rfl,rfl⟩
 refine oE J (zi (i:=0) (X':=.agg [dI 0,dI 0]) J J J (CellD.agg) Tryz.sizeOf146 J J J) ?_
 rintro _ _ ⟨rfl,rfl⟩
 refine on J (oR 1 J (oZ J (jk [0,1,4,7,8] J (jT J (oR 1 J (oZ J (jCf J (zt J (zj (jS J (jT J (oR 1 J (oP J (zbX J (fun _ _=>by kernel_rfl)) (oR 3 rfl (oE rfl (zC (zv:=(.agg #[(.int .i64 0)])) Tryz.zeroValue149 ⟨rfl,trivial⟩ (Cv.vagg (by decide))) ?_)))))))))))))))
 rintro _ _ ⟨g3,rfl,rfl⟩
 refine oE J (zi (i:=0) (X':=.agg [dI m]) J J J (CellD.agg) Tryz.sizeOf149 J J J) ?_
 rintro _ _ ⟨rfl,rfl⟩
 refine on J (oR 1 J (oZ J (jT J (oR 1 J (oZ J (jk [0,1,4,9,40] J (jCt J (jS J (jk [0,1,4,9,40] J (jn J ?_))))))))))
 obtain ⟨x1,hx1⟩:=zW l 0 (by omega)
 obtain ⟨x2,hx2⟩:=zW l 1 (by omega)
 refine zaX 7 [(41,.agg [dI m],none),(42,.sh 1 (l.map dI),none),(43,.el (dI x1) 0,none),(44,dI x1,none),(45,.sh 1 (l.map dI),none),(46,.el (dI x2) 0,none),(47,dI x2,none)] [.bx g3 149 (.agg [dI m]),.bx g2 146 (.agg [dI 0,dI 0]),.bx g1 143 (.agg [dI 0])] (Hn:=[.bx g3 149 (.agg [dI m]),.bx g2 146 (.agg [dI 0,dI 0]),.bx g1 143 (.agg [dI 0])]) mixed J J J J HSub.rfl' J ⟨sa_p J J J (zH (d:=.agg [dI m]) J (i:=0) J Tryz.isAgg149 Tryz.sizeOf149 J J),sa_p J J J (zG J),sa_p J J J (zI (k:=0) J J Tryz.runUnderlying55 Tryz.sizeOf3 (by first | rfl | omega) (zK hx1)),sa_p rfl rfl rfl (zar rfl Tryz.isAgg3 rfl),sa_p rfl rfl rfl (zG rfl),sa_p rfl rfl rfl (zI (k:=1) rfl rfl Tryz.runUnderlying55 Tryz.sizeOf3 (by first | rfl | omega) (zK hx2)),sa_p rfl rfl rfl (zar rfl Tryz.isAgg3 rfl),trivial⟩ (ok [0,1,4,9,40,41,42,43,44,45,46,47] rfl (oW rfl rfl acs Tryz.call115 (pairof_c m x1 x2) (oR 1 rfl (oZ rfl (jk [0,1,4] rfl (zn rfl (zk ?_)))))))
 exact zh Tryz.results44 (.cons (zx (zl J) (Cv.eq (congrArg (fun n=>D.v (.int .i64 n)) (by show _=zdU m (l.headD 0) (l.tail.headD 0);rw[hd_0 hx1,hd_1 hx2])))) .nil) rfl HSub.none ⟨rfl,rfl⟩
theorem kof_none  (l:List Int) :
 CD Tryz.prog 44 [] [.v .nilIface,.sh 1 (l.map dI)] (isR (dI (Ask.kind (.none) l))):=by
 refine zp Tryz.func44 J (N:=64) J J (fun C=>?_)
 refine jk [0,1] J ?_
 refine JD.bd 1 J (fun bd1=>?_)
 have nl1:=zbF bd1
 refine jT J (oR 1 J (oZ J (jS J (jT J (oR 1 J (oP J ((p_assert_n (zv:=(.agg #[(.int .i64 0)])) J (fun _=>by kernel_rfl)).cv (Cv.tup (.cons (Cv.vagg (by decide)) (.cons Cv.rfl' .nil)))) (oR 3 rfl (oE rfl (zC (zv:=(.agg #[(.int .i64 0)])) Tryz.zeroValue143 ⟨rfl,trivial⟩ (Cv.vagg (by decide))) ?_))))))))
 rintro _ _ ⟨g1,rfl,rfl⟩
 refine oE J (zi (i:=0) (X':=.agg [dI 0]) J J J (CellD.agg) Tryz.sizeOf143 J J J) ?_
 rintro _ _ ⟨rfl,rfl⟩
 refine on J (oR 1 J (oZ J (jT J (oR 1 J (oZ J (jCf J (zt J (zj (jS J (jT J (oR 1 J (oP J ((p_assert_n (zv:=(.agg #[(.int .i64 0),(.int .i64 0)])) J (fun _=>by kernel_rfl)).cv (Cv.tup (.cons (Cv.vagg (by decide)) (.cons Cv.rfl' .nil)))) (oR 3 rfl (oE rfl (zC (zv:=(.agg #[(.int .i64 0),(.int .i64 0)])) Tryz.zeroValue146 ⟨rfl,rfl,trivial⟩ (Cv.vagg (by decide))) ?_))))))))))))))
 rintro _ _ ⟨g2,rfl,rfl⟩
 refine oE J (zi (i:=0) (X':=.agg [dI 0,dI 0]) J J J (CellD.agg) Tryz.sizeOf146 J J J) ?_
 rintro _ _ ⟨rfl,rfl⟩
 refine on J (oR 1 J (oZ J (jk [0,1,4,7,8] J (jT J (oR 1 J (oZ J (jCf J (zt J (zj (jS J (jT J (oR 1 J (oP J ((p_assert_n (zv:=(.agg #[(.int .i64 0)])) J (fun _=>by kernel_rfl)).cv (Cv.tup (.cons (Cv.vagg (by decide)) (.cons Cv.rfl' .nil)))) (oR 3 rfl (oE rfl (zC (zv:=(.agg #[(.int .i64 0)])) Tryz.zeroValue149 ⟨rfl,trivial⟩ (Cv.vagg (by decide))) ?_)))))))))))))))
 rintro _ _ ⟨g3,rfl,rfl⟩
 refine oE J (zi (i:=0) (X':=.agg [dI 0]) J J J (CellD.agg) Tryz.sizeOf149 J J J) ?_
 rintro _ _ ⟨rfl,rfl⟩
 refine on J (oR 1 J (oZ J (jT J (oR 1 J (oZ J (jk [0,1,4,9,40] J (jCf J (zt J (zj (jS J (jT J (oR 1 J (oP J ((p_assert_n (zv:=(.agg #[])) J (fun _=>by kernel_rfl)).cv (Cv.tup (.cons (Cv.vagg (by decide)) (.cons Cv.rfl' .nil)))) (oR 3 rfl (oE rfl (zC (zv:=(.agg #[])) Tryz.zeroValue153 trivial (Cv.vagg (by decide))) ?_)))))))))))))))
 rintro _ _ ⟨g4,rfl,rfl⟩
 refine oE J (zi (i:=0) (X':=.agg []) J J J (CellD.agg) Tryz.sizeOf153 J J J) ?_
 rintro _ _ ⟨rfl,rfl⟩
 refine on J (oR 1 J (oZ J (jk [1,4,12] J (jT J (oR 7 J (oZ J (jCf J (zt J (zj (jk [4] J (jT J (oR 1 J (oZ J (zn J ?_))))))))))))))
 exact zh Tryz.results44 (.cons (zx (zl J) (Cv.eq (congrArg (fun n=>D.v (.int .i64 n)) (by rfl)))) .nil) rfl HSub.none ⟨rfl,rfl⟩
theorem kof_c (a:Ask) (l:List Int) (h:a.fits l.length):CD Tryz.prog 44 [] [a.d,.sh 1 (l.map dI)] (isR (dI (a.kind l))):=by
 cases a with
 | leaf k=>exact kof_leaf k l
 | whole a b=>exact kof_whole a b l h
 | plain=>exact kof_plain l h
 | pair m=>exact kof_pair m l h
 | none=>exact kof_none l
theorem kids_s (op text:ByteArray) (n mode:Int) (names:List ByteArray) (ms:List MatD) (kids:List Nd) (ih:∀ x∈kids,CD Tryz.prog 15 [] [Nd.d x] (isR (.tup [dI x.kind,dI x.kindE]))) (hc:Nd.cntL kids≤100000):
 CD Tryz.prog 43 [] [.agg [.s op,.s text,dI n,dI mode,.sh 1 (names.map D.s),.sh 3 (ms.map MatD.d),.sh 7 (kids.map Nd.d)]] (fun r H'=>∃ v0_,r=.tup [.ov v0_,dI (zdc kids)]∧H'=[.sl v0_ 1 3 ((zbZ kids).map dI)]):=by
 refine zp Tryz.func43 J (N:=30) J J (fun C=>?_)
 refine jk [0] J ?_
 refine JD.bd 0 J (fun bd0=>?_)
 have hkl:=zc7 kids
 refine jT J (oE J (zaY J (CellD.agg)) ?_)
 rintro _ _ ⟨g1,rfl,rfl⟩
 refine oR 2 J (oZ J (jT J (oR 1 J (oZ J (jS J (jT J (oP J (zd J zap J) (oP J (ze J (i:=0) J Tryz.isAgg25 J) (oP J (zbf (n:=kids.length) J Tryz.runUnderlying25 (by simp only[lm,lc,ln])) (oR 1 rfl (oZ rfl (jB rfl (jl3 (fun (a_:Nat) (b_:Value) (c_:List Int)=>[(10,.sh 7 (kids.map Nd.d)),(11,dN kids.length),(12,dN a_),(4,.ov b_)]) (fun a_ b_ c_=>[.sl b_ 1 3 (c_.map dI),.bx g1 27 (.agg [.s op,.s text,dI n,dI mode,.sh 1 (names.map D.s),.sh 3 (ms.map MatD.d),.sh 7 (kids.map Nd.d)])]) (fun a_ b_ c_=>(a_≤kids.length)∧(Nd.kinds (kids.take a_)=some c_)∧(c_.length≤a_)) (fun a_ b_ c_=>kids.length-a_) 0 (.slice none 0 0) [] rfl ⟨sk rfl,sk rfl,sk rfl,sc rfl (Cv.ov rfl),trivial⟩ (HSub.nil 1 3) ⟨Nat.zero_le _,rfl,Nat.le_refl _⟩ ?_)))))))))))))
 rintro k ov o ⟨hk,hks,hol⟩
 refine ja J (jn J (jT J (oP J (zN J J J) (oZ J (jS J ?_)))))
 refine jD J (fun hc2=>?_) (fun hc2=>?_)
 · skip
   refine zt J (zj (jS J (jB J (jT J ?_))))
   obtain ⟨x1,hx1⟩:=zW kids k (by omega)
   obtain ⟨yax1,ybx1,ycx1,ydx1,yex1,yfx1,ygx1⟩:=x1
   have hmcx1:=zcf (List.mem_of_getElem? hx1)
   refine oP J (zI (k:=k) J J Tryz.runUnderlying25 Tryz.sizeOf27 (by first | rfl | omega) (zK hx1)) (oP rfl (zan (d:=.agg [.s yax1,.s ybx1,dI ycx1,dI ydx1,.sh 1 (yex1.map D.s),.sh 3 (yfx1.map MatD.d),.sh 7 (Nd.ds ygx1)]) rfl Tryz.isAgg27 Tryz.sizeOf27 rfl rfl) (oE rfl (zC (zv:=(.agg #[(.string ByteArray.empty),(.string ByteArray.empty),(.int .i64 0),(.int .i64 0),(.slice none 0 0),(.slice none 0 0),(.slice none 0 0)])) Tryz.zeroValue27 ⟨rfl,rfl,rfl,rfl,rfl,rfl,rfl,trivial⟩ (Cv.vagg (by decide))) ?_))
   rintro _ _ ⟨g3,rfl,rfl⟩
   refine oE J (zi (i:=0) (X':=.agg [.s yax1,.s ybx1,dI ycx1,dI ydx1,.sh 1 (yex1.map D.s),.sh 3 (yfx1.map MatD.d),.sh 7 (Nd.ds ygx1)]) J J J (CellD.agg) Tryz.sizeOf27 J J J) ?_
   rintro _ _ ⟨rfl,rfl⟩
   refine on J (oZ J (jT J (oP J (zH (d:=.agg [.s yax1,.s ybx1,dI ycx1,dI ydx1,.sh 1 (yex1.map D.s),.sh 3 (yfx1.map MatD.d),.sh 7 (Nd.ds ygx1)]) J (i:=0) J Tryz.isAgg27 Tryz.sizeOf27 J J) (oE J (zm [] [.bx g3 27 (.agg [.s yax1,.s ybx1,dI ycx1,dI ydx1,.sh 1 (yex1.map D.s),.sh 3 (yfx1.map MatD.d),.sh 7 (Nd.ds ygx1)]),.sl ov 1 3 (o.map dI),.bx g1 27 (.agg [.s op,.s text,dI n,dI mode,.sh 1 (names.map D.s),.sh 3 (ms.map MatD.d),.sh 7 (kids.map Nd.d)])] [] J J (.cons ArgC.id .nil) zg Tryz.call15 (ih (Nd.mk yax1 ybx1 ycx1 ydx1 yex1 yfx1 ygx1) (List.mem_of_getElem? hx1)) (.inl J)) ?_))))
   rintro _ _ ⟨_,⟨rfl,rfl⟩,rfl⟩
   refine on J (oR 5 J (oZ J (jS J (jT J (oR 1 J (oP J (za2 J J J) (oZ J ?_)))))))
   refine jD J (fun hc4=>?_) (fun hc4=>?_)
   · skip
     have hkb:(Nd.mk yax1 ybx1 ycx1 ydx1 yex1 yfx1 ygx1).kind=0:=by have h:=hc4;unfold Nd.kindE at h;split at h;assumption;exact absurd rfl h
     obtain ⟨hr1,hr2⟩:=kinds_no (kinds_bad hx1 hks hkb)
     have hr3:(Nd.mk yax1 ybx1 ycx1 ydx1 yex1 yfx1 ygx1).kindE=zdc kids:=by rw[←hr2];unfold Nd.kindE;rw[if_pos hkb]
     refine jT J (oR 3 J (oZ J (zn J (zk (zo (zk (zal (zo (zk (PD.subH (HSub.nil 1 3) (PD.norm [.sl (.slice none 0 0) 1 3 ((zbZ kids).map dI),.bx g3 27 (.agg [.s yax1,.s ybx1,dI ycx1,dI ydx1,.sh 1 (yex1.map D.s),.sh 3 (yfx1.map MatD.d),.sh 7 (Nd.ds ygx1)]),.sl ov 1 3 (o.map dI),.bx g1 27 (.agg [.s op,.s text,dI n,dI mode,.sh 1 (names.map D.s),.sh 3 (ms.map MatD.d),.sh 7 (kids.map Nd.d)])] (by have hw:[]=zbZ kids:=(by first | exact hr1 | exact hr3 | exact hr2);rw[show ([]:List D)=List.map dI (zbZ kids) from congrArg (List.map dI) hw]) ?_)))))))))))
     exact zh Tryz.results43 (.cons (zx (zl J) (Cv.ov J)) (.cons (zx (zl J) (Cv.eq (congrArg (fun n=>D.v (.int .i64 n)) (by first | exact hr1 | exact hr3 | exact hr2)))) .nil)) rfl (HSub.fst 1 rfl) ⟨(.slice none 0 0),rfl,rfl⟩
   · skip
     have hkg:¬(Nd.mk yax1 ybx1 ycx1 ydx1 yex1 yfx1 ygx1).kind=0:=by have h:(Nd.mk yax1 ybx1 ycx1 ydx1 yex1 yfx1 ygx1).kindE=0:=(by simpa using hc4);intro e;unfold Nd.kindE at h;rw[if_pos e] at h;cases h
     refine zt J (zj (zf J (oR 2 J (oE J (zL [.tmp 25] J J (.cons (CellD.v J) .nil) J Tryz.runUnderlying55 Tryz.sizeOf3 Tryz.zeroValue3 J J J J) ?_))))
     rintro _ _ ⟨g5,rfl,rfl⟩
     refine oE J (zP (f:=dI) (l:=o) (l':=[(Nd.mk yax1 ybx1 ycx1 ydx1 yex1 yfx1 ygx1).kind]) (i:=2) J J J (SrcD.own (j:=0) J J) und_55 infz_3 J J (by unfold maxLen;(try simp only[la,lc,ln,lm,lt',ld,ls,lr]);omega) (by (try simp only[la,lc,ln,lm,lt',ld,ls,lr]);omega)) ?_
     rintro _ _ ⟨v6,rfl,rfl⟩
     refine on J (oR 1 J (zq J (zB (zj (zf J (oP J (zaz (c:=((k+1:Nat):Int)) J J (zab (by omega) (by omega))) (oR 1 rfl (zq rfl (PD.subH (HSub.perm (zc (i:=3) rfl)) (pn rfl (PD.subH (HSub.perm (zc (i:=3) rfl)) (pn rfl (PD.subH (HSub.fst 2 rfl) (pn rfl ?_))))))))))))))
     exact pl3 (k+1) v6 (o++[(Nd.mk yax1 ybx1 ycx1 ydx1 yex1 yfx1 ygx1).kind]) (sa J) HSub.rfl' ⟨by show k+1≤kids.length;omega,kinds_go hx1 hks hkg,by simp only[la,List.length_singleton];omega⟩ (by omega)
 · skip
   obtain ⟨hr1,hr2⟩:=kinds_yes (by rw[←hks,List.take_of_length_le (by omega)]:Nd.kinds kids=some o)
   have hr3:=hr2
   refine zF J (zw (zu (zr (zj (jT J (oR 3 J (oZ J (zn J (PD.norm [.sl ov 1 3 ((zbZ kids).map dI),.bx g1 27 (.agg [.s op,.s text,dI n,dI mode,.sh 1 (names.map D.s),.sh 3 (ms.map MatD.d),.sh 7 (kids.map Nd.d)])] (by have hw:o=zbZ kids:=(by first | exact hr1 | exact hr3 | exact hr2);rw[hw]) ?_)))))))))
   exact zh Tryz.results43 (.cons (zl J) (.cons (zx (zl J) (Cv.eq (congrArg (fun n=>D.v (.int .i64 n)) (by first | exact hr1 | exact hr3 | exact hr2)))) .nil)) rfl (HSub.fst 1 rfl) ⟨ov,rfl,rfl⟩
theorem of_s (op text:ByteArray) (n mode:Int) (names:List ByteArray) (ms:List MatD) (kids:List Nd) (ih:∀ x∈kids,CD Tryz.prog 15 [] [Nd.d x] (isR (.tup [dI x.kind,dI x.kindE]))) (hc:Nd.cntL kids≤100000):
 CD Tryz.prog 15 [] [.agg [.s op,.s text,dI n,dI mode,.sh 1 (names.map D.s),.sh 3 (ms.map MatD.d),.sh 7 (kids.map Nd.d)]] (isR (.tup [dI ((Nd.mk op text n mode names ms kids).kind),dI ((Nd.mk op text n mode names ms kids).kindE)])):=by
 refine zp Tryz.func15 J (N:=22) J J (fun C=>?_)
 refine jk [0] J ?_
 refine JD.bd 0 J (fun bd0=>?_)
 refine jT J (oE J (zaY J (CellD.agg)) ?_)
 rintro _ _ ⟨g1,rfl,rfl⟩
 refine oR 2 J (oZ J (jT J (oP J (zH (d:=.agg [.s op,.s text,dI n,dI mode,.sh 1 (names.map D.s),.sh 3 (ms.map MatD.d),.sh 7 (kids.map Nd.d)]) J (i:=0) J Tryz.isAgg27 Tryz.sizeOf27 J J) (oE J (zm [] [.bx g1 27 (.agg [.s op,.s text,dI n,dI mode,.sh 1 (names.map D.s),.sh 3 (ms.map MatD.d),.sh 7 (kids.map Nd.d)])] [] J J (.cons ArgC.id .nil) zg Tryz.call43 (kids_s op text n mode names ms kids ih (by omega)) (.inl rfl)) ?_))))
 rintro _ _ ⟨_,⟨kv2,rfl,rfl⟩,rfl⟩
 have hkc:=kindE_c kids
 refine on J (oR 5 J (oZ J (jS J (jT J (oR 1 J (oP J (za2 J J J) (oZ J ?_)))))))
 refine jD J (fun hc3=>?_) (fun hc3=>?_)
 · skip
   have hkn:=(hkc.resolve_left (fun e=>hc3 e.1))
   have hq0:(Nd.mk op text n mode names ms kids).kind=0:=kind_no hkn.2
   refine jT J (oR 3 J (oZ J (jk [1,2,3,4] J (zn J (zk ?_)))))
   exact zh Tryz.results15 (.cons (zx (zl J) (Cv.eq (congrArg (fun n=>D.v (.int .i64 n)) (by first | exact hq0.symm | (unfold Nd.kindE;rw[if_pos hq0];try exact hkn.1))))) (.cons (zx (zl rfl) (Cv.eq (congrArg (fun n=>D.v (.int .i64 n)) (by first | exact hq0.symm | (unfold Nd.kindE;rw[if_pos hq0];try exact hkn.1))))) .nil)) rfl HSub.none ⟨rfl,rfl⟩
 · skip
   have hky:=(hkc.resolve_right (fun e=>by have h:zdc kids=0:=(by simpa using hc3);rw[e.1] at h;cases h))
   have hkk:=kind_yes (op:=op) (text:=text) (n:=n) (mode:=mode) (names:=names) (ms:=ms) hky.2
   have hfit:(zbG op text n mode kids.length).fits (zbZ kids).length:=by rw[kinds_len hky.2];exact ask_fits op text n mode kids.length
   refine zt J (zj (jk [1,2,3,4] J (jT J (oP J (zH (d:=.agg [.s op,.s text,dI n,dI mode,.sh 1 (names.map D.s),.sh 3 (ms.map MatD.d),.sh 7 (kids.map Nd.d)]) J (i:=1) J Tryz.isAgg27 Tryz.sizeOf27 J J) (oW J J acs Tryz.call45 (asks_c op text n mode names ms kids) (oR 1 J (oE J (zm [] _ [.sl kv2 1 3 ((zbZ kids).map dI)] J J (.cons ArgC.id (.cons (ArgC.own (j:=0) J J) .nil)) (zbt (j:=0) J zg) Tryz.call44 (kof_c _ (zbZ kids) hfit) (.inr (zcA J))) ?_)))))))
   rintro _ _ ⟨_,⟨rfl,rfl⟩,rfl⟩
   refine on J (oR 1 J (oZ J (jS J (jT J (oR 1 J (oP J (zD J J J) (oZ J ?_)))))))
   refine jD J (fun hc4=>?_) (fun hc4=>?_)
   · skip
     have hq0:(Nd.mk op text n mode names ms kids).kind=0:=hkk.trans hc4
     refine jT J (oR 2 J (oZ J (zn J (zk ?_))))
     exact zh Tryz.results15 (.cons (zx (zl J) (Cv.eq (congrArg (fun n=>D.v (.int .i64 n)) (by first | exact hq0.symm | (unfold Nd.kindE;rw[if_pos hq0];try exact hkn.1))))) (.cons (zx (zl rfl) (Cv.eq (congrArg (fun n=>D.v (.int .i64 n)) (by first | exact hq0.symm | (unfold Nd.kindE;rw[if_pos hq0];try exact hkn.1))))) .nil)) rfl HSub.none ⟨rfl,rfl⟩
   · skip
     refine zt J (zj (jT J (oR 3 J (oZ J (jk [2,3] J (zn J ?_))))))
     exact zh Tryz.results15 (.cons (zx (zl J) (Cv.eq (congrArg (fun n=>D.v (.int .i64 n)) (by first | exact hkk.symm | (unfold Nd.kindE;rw[if_neg (fun e=>hc4 (hkk.symm.trans e))]))))) (.cons (zx (zl rfl) (Cv.eq (congrArg (fun n=>D.v (.int .i64 n)) (by first | exact hkk.symm | (unfold Nd.kindE;rw[if_neg (fun e=>hc4 (hkk.symm.trans e))]))))) .nil)) rfl HSub.none ⟨rfl,rfl⟩
theorem of_c:∀ q:Nd,q.cnt≤100000→CD Tryz.prog 15 [] [Nd.d q] (isR (.tup [dI q.kind,dI q.kindE])):=Nd.ind (fun op text n mode names ms kids ih hc=>by
 simp only[Nd.cnt] at hc
 rw[Nd.d_mk]
 exact of_s op text n mode names ms kids (fun x hx=>ih x hx (by have:=zcf hx;omega)) (by omega))
theorem check_c (op text:ByteArray) (n mode:Int) (names:List ByteArray) (ms:List MatD) (kids:List Nd) (o a b:Int) (hc:Nd.cntL kids≤10000):
 CD Tryz.prog 23 [] [.agg [.s op,.s text,dI n,dI mode,.sh 1 (names.map D.s),.sh 3 (ms.map MatD.d),.sh 7 (Nd.ds kids),dI o,dI a,dI b]] (isR (dI ((Nd.mk op text n mode names ms kids).checkE))):=by
 refine zp Tryz.func23 J (N:=18) J J (fun C=>?_)
 refine jk [0] J ?_
 refine JD.bd 0 J (fun bd0=>?_)
 refine jT J (oE J (zaY J (CellD.agg)) ?_)
 rintro _ _ ⟨g1,rfl,rfl⟩
 refine oR 1 J (oZ J (jT J (oP J (zd J zbg J) (oP J (zH (d:=.agg [.s op,.s text,dI n,dI mode,.sh 1 (names.map D.s),.sh 3 (ms.map MatD.d),.sh 7 (Nd.ds kids)]) J (i:=0) J Tryz.isAgg27 Tryz.sizeOf27 J J) (oW J J acs Tryz.call15 (of_c (Nd.mk op text n mode names ms kids) (by simp only[Nd.cnt];omega)) (oR 5 rfl (oZ rfl (jS rfl (jS rfl (jk [2,3,4] rfl ?_))))))))))
 refine zR 16 ((decide ((Nd.mk op text n mode names ms kids).kindE=(0:Int))&&decide ((Nd.mk op text n mode names ms kids).kind=(3:Int)))) [.bx g1 29 (.agg [.s op,.s text,dI n,dI mode,.sh 1 (names.map D.s),.sh 3 (ms.map MatD.d),.sh 7 (Nd.ds kids),dI o,dI a,dI b])] (fun _ hQ2=>?_) ?_
 · skip
   by_cases hg3:(Nd.mk op text n mode names ms kids).kindE=(0:Int)
   · skip
     refine zf J (oR 1 J (oP J (zD J J (decide_eq_true hg3)) (oR 2 J (oG J (zD J J J) (oR 1 J (zq J ?_))))))
     exact PD.sub ((16,dB (decide ((Nd.mk op text n mode names ms kids).kindE=(0:Int))&&decide ((Nd.mk op text n mode names ms kids).kind=(3:Int))))::[(2,dI 0),(3,dI ((Nd.mk op text n mode names ms kids).kind)),(4,dI ((Nd.mk op text n mode names ms kids).kindE))]) ⟨sc J (Cv.eq (congrArg (fun b=>D.v (.bool b)) (by first | (simp[hg3];done) | (simp_all;done)))),sk rfl,sk rfl,sk rfl,trivial⟩ hQ2
   · skip
     refine zf J (oR 1 J (oP J (zD J J (decide_eq_false hg3)) (oR 4 J (zq J ?_))))
     exact PD.sub ((16,dB (decide ((Nd.mk op text n mode names ms kids).kindE=(0:Int))&&decide ((Nd.mk op text n mode names ms kids).kind=(3:Int))))::[(2,dI 0),(3,dI ((Nd.mk op text n mode names ms kids).kind)),(4,dI ((Nd.mk op text n mode names ms kids).kindE))]) ⟨sc J (Cv.eq (congrArg (fun b=>D.v (.bool b)) (by first | (simp[hg3];done) | (simp_all;done)))),sk rfl,sk rfl,sk rfl,trivial⟩ hQ2
 · skip
   refine zj ?_
   refine jC J (fun hc4=>?_) (fun hc4=>?_)
   · simp only[bA,bB,bC,bD,bE,bF,bG,bH,bI,bJ] at hc4
     refine jT J (oR 1 J (oZ J (zn J (zk ?_))))
     exact zh Tryz.results23 (.cons (zx (zl J) (Cv.eq (congrArg (fun n=>D.v (.int .i64 n)) (by unfold Nd.checkE;unfold Nd.kindE at*;have h:=hc4;split<;>simp_all)))) .nil) rfl HSub.none ⟨rfl,rfl⟩
   · simp only[bA,bB,bC,bD,bE,bF,bG,bH,bI,bJ] at hc4
     refine zt J (zj (jT J (oR 2 J (oZ J (zn J ?_)))))
     exact zh Tryz.results23 (.cons (zx (zl J) (Cv.eq (congrArg (fun n=>D.v (.int .i64 n)) (by unfold Nd.checkE;unfold Nd.kindE at*;have h:=hc4;split<;>simp_all)))) .nil) rfl HSub.none ⟨rfl,rfl⟩
end Lp
