import Derived.Scope
import Derived.Laws.Runes
import Derived.Test.YtheccaeefigajaaGreatDoorPParse4
set_option linter.unusedSimpArgs false
set_option linter.unusedVariables false
set_option maxHeartbeats 4000000
set_option maxRecDepth 100000
namespace Lp
open Go Go.RowKit Go.Proofs
namespace HdYtheccaeefigajaaGreatDoorV90
theorem zb1:∀ w,((#[⟨"Kind",3,0,false, "", "",0⟩,⟨"At",3,1,false, "", "",8⟩,⟨"Text",9,2,false, "", "",16⟩]:Array Field).mapM fun f=>do pure (f.offset,←Go.sizeOf f.type):Sem (Array (Nat×Nat))).run Tryz.prog w=.ok ([(0,1),(1,1),(2,1)]:List (Nat×Nat)).toArray w:=fun _=>by kernel_rfl
theorem zbr (b o:Nat):∀ w,(Instr.fieldAt 135 (.pointer (some ⟨b,o,none⟩)) 0).run Tryz.prog w=.ok (.pointer (some ⟨b,o+0,none⟩)) w:=fun _=>by kernel_rfl
theorem zcB (b o:Nat):∀ w,(Instr.fieldAt 135 (.pointer (some ⟨b,o,none⟩)) 2).run Tryz.prog w=.ok (.pointer (some ⟨b,o+2,none⟩)) w:=fun _=>by kernel_rfl
theorem zcL (b o:Nat):∀ w,(Instr.fieldAt 72 (.pointer (some ⟨b,o,none⟩)) 0).run Tryz.prog w=.ok (.pointer (some ⟨b,o+0,none⟩)) w:=fun _=>by kernel_rfl
theorem fa_72_1 (b o:Nat):∀ w,(Instr.fieldAt 72 (.pointer (some ⟨b,o,none⟩)) 1).run Tryz.prog w=.ok (.pointer (some ⟨b,o+1,none⟩)) w:=fun _=>by kernel_rfl
theorem zX (b o:Nat):∀ w,(Instr.fieldAt 72 (.pointer (some ⟨b,o,none⟩)) 2).run Tryz.prog w=.ok (.pointer (some ⟨b,o+2,none⟩)) w:=fun _=>by kernel_rfl
theorem zcI:∃ i,Tryz.prog.info? 9=some i∧i.zero=some (.string ByteArray.empty)∧i.size=1∧i.bytes=16:=zbq (by kernel_rfl)
theorem zcE:Tryz.prog.underlying 23=some (.slice 9):=by kernel_rfl
end HdYtheccaeefigajaaGreatDoorV90
open HdYtheccaeefigajaaGreatDoorV90
abbrev RB (g:Nat) (s:Rd):Hp:=.bx g 72 (.agg [.sh 3 (s.l.map TokD.d),dI s.n,dB s.b])
def NdR (g:Nat) (ev es:Value) (p:Nd×Rd):D→List Hp→Prop:=fun r H'=>∃ op text n mode names ms kids s',(Nd.mk op text n mode names ms kids,s')=p∧r=.agg [.s op,.s text,dI n,dI mode,.sh 1 (names.map D.s),.sh 3 (ms.map MatD.d),.sh 7 (Nd.ds kids)]∧H'=[RB g s',HPow,HErr ev,HSyn es]
theorem peek_c (g:Nat) (s:Rd) (hw:s.n+2*(s.l.length:Int)≤3000000) (hn:0≤s.n) (hT:TOk s.l):
 CD Tryz.prog 113 [.bx g 72 (.agg [.sh 3 (s.l.map TokD.d),dI s.n,dB s.b])] [dP g 0] (fun r H'=>r=TokD.d s.pk∧H'=[RB g s]):=by
 refine zp Tryz.func113 J (N:=16) J J (fun C=>?_)
 refine jk [0] J (jT J (oE J (zC (zv:=(.agg #[(.int .i64 0),(.int .i64 0),(.string ByteArray.empty)])) Tryz.zeroValue135 ⟨J,J,J,trivial⟩ (Cv.vagg (by decide))) ?_))
 rintro _ _ ⟨g1,rfl,rfl⟩
 refine oZ J (jS J (jT J (oR 2 J (oP J (zd J zcL J) (oP J (ze J (i:=1) J Tryz.isAgg67 J) (oP J (zbf (n:=s.l.length) J Tryz.runUnderlying67 (by simp only[lm,lc,ln])) (oP rfl (zD rfl rfl rfl) (oZ rfl ?_))))))))
 refine jD J (fun hc2=>?_) (fun hc2=>?_)
 · skip
   refine jT J (oP J (zJ [] [] (zv:=(.agg #[(.int .i64 0),(.int .i64 0),(.string ByteArray.empty)])) J J (.nil) (Tryz.runUnderlying135) Tryz.zeroValue135 zb1 ⟨rfl,J,J,trivial⟩ J) (oE J (zi (i:=0) (X':=.agg [dI 0,dI 0,.v (.string ByteArray.empty)]) J J J (CellD.agg) Tryz.sizeOf135 J J J) ?_))
   rintro _ _ ⟨rfl,rfl⟩
   refine on J (oZ J (zn J (zk (PD.subH (HSub.perm (zc (i:=1) J)) (pn J (pn J ?_))))))
   exact zh Tryz.results113 (.cons (zx (zU (X:=.agg [dI 0,dI 0,.v (.string ByteArray.empty)]) (d:=.agg [dI 0,dI 0,.v (.string ByteArray.empty)]) (i:=1) J J Tryz.isAgg135 Tryz.sizeOf135 J J) ((Cv.agg (.cons Cv.rfl' (.cons Cv.rfl' (.cons ((Cv.str (by first | decide | (unfold maxLen;omega)))) .nil)))).trans (Cv.eq (congrArg TokD.d (show (TokD.mk 0 0 ByteArray.empty)=s.pk from(pk_0 (by omega)).symm))))) .nil) rfl (HSub.fst 1 rfl) ⟨rfl,rfl⟩
 · skip
   refine zt J (zj (jT J (oR 2 J (oP J (zd J zcL J) (oP J (ze J (i:=1) J Tryz.isAgg67 J) ?_)))))
   obtain ⟨x1,hx1⟩:=zW s.l 0 (by omega)
   refine oP J (zI (k:=0) J J Tryz.runUnderlying67 Tryz.sizeOf135 (by first | rfl | omega) (zK hx1)) (oP rfl (zan (d:=TokD.d x1) rfl Tryz.isAgg135 Tryz.sizeOf135 rfl rfl) (oE rfl (zi (i:=0) (X':=TokD.d x1) rfl rfl rfl (CellD.agg) Tryz.sizeOf135 rfl rfl rfl) ?_))
   rintro _ _ ⟨rfl,rfl⟩
   refine on J (oZ J (jk [2] J (zn J (PD.subH (HSub.perm (zc (i:=1) J)) (pn J (pn J ?_))))))
   exact zh Tryz.results113 (.cons (zx (zU (X:=TokD.d x1) (d:=TokD.d x1) (i:=1) J J Tryz.isAgg135 Tryz.sizeOf135 J J) ((Cv.rfl').trans (Cv.eq (congrArg TokD.d (show x1=s.pk from(pk_x hx1).symm))))) .nil) J (HSub.fst 1 J) ⟨rfl,J⟩
theorem is_c (g:Nat) (s:Rd) (k:Int) (ts:List ByteArray) (hw:s.n+2*(s.l.length:Int)≤3000000) (hn:0≤s.n) (hT:TOk s.l):
 CD Tryz.prog 112 [.bx g 72 (.agg [.sh 3 (s.l.map TokD.d),dI s.n,dB s.b])] [dP g 0,dI k,.sh 1 (ts.map D.s)] (fun r H'=>r=dB (s.is k ts)∧H'=[RB g s]):=by
 refine zp Tryz.func112 J (N:=20) J J (fun C=>?_)
 refine jk [0,1,2] J ?_
 refine JD.bd 2 J (fun bd2=>?_)
 have nl2:=zbF bd2
 refine jT J (oR 1 J (oZ J (jT J (oR 1 J (oE J (zm [.bx g 72 (.agg [.sh 3 (s.l.map TokD.d),dI s.n,dB s.b])] [] [] J J (.cons ArgC.id .nil) zg Tryz.call113 (peek_c g s (by omega) (by omega) hT) (.inl rfl)) ?_)))))
 rintro _ _ ⟨_,⟨rfl,rfl⟩,rfl⟩
 refine on J (oE J (zC (zv:=(.agg #[(.int .i64 0),(.int .i64 0),(.string ByteArray.empty)])) Tryz.zeroValue135 ⟨J,J,J,trivial⟩ (Cv.vagg (by decide))) ?_)
 rintro _ _ ⟨g2,rfl,rfl⟩
 refine oE J (zi (i:=0) (X':=TokD.d s.pk) J J J (CellD.agg) Tryz.sizeOf135 J J J) ?_
 rintro _ _ ⟨rfl,rfl⟩
 refine on J (oZ J (jS J (jk [1,2,7] J ?_)))
 refine zR 6 ((decide (s.pk.k=k)&&hasN ts s.pk.t)) [.bx g2 135 (TokD.d s.pk),.bx g 72 (.agg [.sh 3 (s.l.map TokD.d),dI s.n,dB s.b])] (fun _ hQ3=>?_) ?_
 · skip
   by_cases hg4:s.pk.k=k
   · skip
     refine zf J (oP J (zd J zbr J) (oP J (ze J (i:=0) J Tryz.isAgg3 J) (oR 1 J (oP J (zD J J (decide_eq_true hg4)) (oR 2 J (oG J (zd J zcB J) (oG J (ze J (i:=0) J Tryz.isAgg9 J) (oV J J acs Tryz.call46 (containsS_c ts s.pk.t) (oR 2 J (zq J ?_))))))))))
     exact PD.sub ((6,dB (decide (s.pk.k=k)&&hasN ts s.pk.t))::[(1,dI k),(2,.sh 1 (ts.map D.s)),(7,dP g2 0)]) ⟨sc J (Cv.eq (congrArg (fun b=>D.v (.bool b)) (by first | (simp[hg4];done) | (simp_all;done)))),sk rfl,sk rfl,sk rfl,trivial⟩ hQ3
   · skip
     refine zf J (oP J (zd J zbr J) (oP J (ze J (i:=0) J Tryz.isAgg3 J) (oR 1 J (oP J (zD J J (decide_eq_false hg4)) (oR 7 J (zq J ?_))))))
     exact PD.sub ((6,dB (decide (s.pk.k=k)&&hasN ts s.pk.t))::[(1,dI k),(2,.sh 1 (ts.map D.s)),(7,dP g2 0)]) ⟨sc J (Cv.eq (congrArg (fun b=>D.v (.bool b)) (by first | (simp[hg4];done) | (simp_all;done)))),sk rfl,sk rfl,sk rfl,trivial⟩ hQ3
 · skip
   refine zj (zn J (PD.subH (HSub.perm (zc (i:=1) J)) (pn J (pn J ?_))))
   exact zh Tryz.results112 (.cons (zx (zl J) (Cv.eq (congrArg dB (show (decide (s.pk.k=k)&&hasN ts s.pk.t)=s.is k ts from J)))) .nil) J (HSub.fst 1 J) ⟨rfl,J⟩
theorem zcV (g:Nat) (s:Rd) (k:Int) (ts:List ByteArray) (hw:s.n+2*(s.l.length:Int)≤3000000) (hn:0≤s.n) (hT:TOk s.l) (hk:k≠0):
 CD Tryz.prog 40 [.bx g 72 (.agg [.sh 3 (s.l.map TokD.d),dI s.n,dB s.b])] [dP g 0,dI k,.sh 1 (ts.map D.s)] (fun r H'=>∃ t q s',(t,q,s')=s.take k ts∧r=.tup [.s t,dB q]∧H'=[RB g s']):=by
 refine zp Tryz.func40 J (N:=36) J J (fun C=>?_)
 refine jk [0,1,2] J ?_
 refine JD.bd 2 J (fun bd2=>?_)
 have nl2:=zbF bd2
 refine jT J (oR 2 J (oZ J (jS J (jS J (jk [0,1,2,6,7] J ?_)))))
 refine zR 19 ((s.b||!((s.is k ts)))) [.bx g 72 (.agg [.sh 3 (s.l.map TokD.d),dI s.n,dB s.b])] (fun _ hQ2=>?_) ?_
 · skip
   rcases Bool.eq_false_or_eq_true (s.b) with hg3 | hg3
   · skip
     refine zf J (oR 2 J (oP J (zd J zX J) (oP J ((ze J (i:=0) J Tryz.isAgg4 J).cv (Cv.eq (congrArg (fun b=>D.v (.bool b)) (hg3)))) (oR 7 J (zq J ?_)))))
     exact PD.sub ((19,dB (s.b||!((s.is k ts))))::[(0,dP g 0),(1,dI k),(2,.sh 1 (ts.map D.s)),(6,.v (.string ByteArray.empty)),(7,dB false)]) ⟨sc J (Cv.eq (congrArg (fun b=>D.v (.bool b)) (by first | (simp[hg3];done) | (simp_all;done)))),sk rfl,sk rfl,sk rfl,sk rfl,sk rfl,trivial⟩ hQ2
   · skip
     refine zf J (oR 2 J (oP J (zd J zX J) (oP J ((ze J (i:=0) J Tryz.isAgg4 J).cv (Cv.eq (congrArg (fun b=>D.v (.bool b)) (hg3)))) (oR 4 J (oF J (zm [.bx g 72 (.agg [.sh 3 (s.l.map TokD.d),dI s.n,dB s.b])] [] [] J J (.cons ArgC.id (.cons ArgC.id (.cons ArgC.id .nil))) zg Tryz.call112 (is_c g s k ts (by omega) (by omega) hT) (.inl rfl)) ?_)))))
     rintro _ _ ⟨_,⟨rfl,rfl⟩,rfl⟩
     refine on J (oG J (zaZ J) (oR 1 J (zq J ?_)))
     exact PD.sub ((19,dB (s.b||!((s.is k ts))))::[(0,dP g 0),(1,dI k),(2,.sh 1 (ts.map D.s)),(6,.v (.string ByteArray.empty)),(7,dB false)]) ⟨sc J (Cv.eq (congrArg (fun b=>D.v (.bool b)) (by first | (simp[hg3];done) | (simp_all;done)))),sk rfl,sk rfl,sk rfl,sk rfl,sk rfl,trivial⟩ hQ2
 · skip
   refine zj ?_
   refine jC J (fun hc5=>?_) (fun hc5=>?_)
   · simp only[bA,bB,bC,bD,bE,bF,bG,bH,bI,bJ] at hc5
     have hor:s.b=true∨s.is k ts=false:=by simpa using hc5
     refine jT J (oR 2 J (oZ J (zn J (zk (pn J ?_)))))
     exact zh Tryz.results40 (.cons (zx (zl J) ((Cv.str (by first | decide | (unfold maxLen;omega))))) (.cons (zl rfl) .nil)) rfl (HSub.fst 1 rfl) ⟨_,_,⟨s.l,s.n,s.b⟩,(take_no hor).symm,rfl,rfl⟩
   · simp only[bA,bB,bC,bD,bE,bF,bG,bH,bI,bJ] at hc5
     have hand:s.b=false∧s.is k ts=true:=by simpa using hc5
     have hne:=is_ne hk hand.2
     refine zt J (zj (jT J (oR 2 J (oP J (zd J zcL J) (oP J (ze J (i:=0) J Tryz.isAgg67 J) ?_)))))
     obtain ⟨x1,hx1⟩:=zW s.l 0 (by omega)
     refine oP J (zI (k:=0) J J Tryz.runUnderlying67 Tryz.sizeOf135 (by first | rfl | omega) (zK hx1)) (oP rfl (zan (d:=TokD.d x1) rfl Tryz.isAgg135 Tryz.sizeOf135 rfl rfl) (oE rfl (zC (zv:=(.agg #[(.int .i64 0),(.int .i64 0),(.string ByteArray.empty)])) Tryz.zeroValue135 ⟨rfl,rfl,rfl,trivial⟩ (Cv.vagg (by decide))) ?_))
     rintro _ _ ⟨g6,rfl,rfl⟩
     refine oE J (zi (i:=0) (X':=TokD.d x1) J J J (CellD.agg) Tryz.sizeOf135 J J J) ?_
     rintro _ _ ⟨rfl,rfl⟩
     refine on J (oZ J (jk [0,6,7,8] J (jT J (oR 3 J (oP J (zd J zcL J) (oP J (ze J (i:=1) J Tryz.isAgg67 J) (oP J ((zd7 (a:=1) (b:=s.l.length) J J J (by first | rfl | (show _=_;(try simp only[lm]);omega) | exact List.length_map _) (by first | rfl | (show _=_;(try simp only[lm]);omega) | exact List.length_map _) Tryz.runUnderlying67 Tryz.sizeOf135 (by omega) (by simp only[lm];omega)).cv (Cv.eq (by rw[←List.map_take,←List.map_drop]))) (oR 1 rfl (oP rfl (zd rfl zcL rfl) (oE rfl (zi (i:=1) (X':=.agg [.sh 3 (((s.l.take s.l.length).drop 1).map TokD.d),dI s.n,dB s.b]) rfl rfl rfl (CellD.sh) Tryz.sizeOf67 rfl rfl rfl) ?_))))))))))
     rintro _ _ ⟨rfl,rfl⟩
     refine on J (oZ J (jk [6,7,8] J (jT J (oP J (zd J zcB J) (oP J (ze J (i:=0) J Tryz.isAgg9 J) (oR 2 J (oZ J (zn J (PD.subH (HSub.perm (zc (i:=1) J)) (pn J (pn J ?_)))))))))))
     exact zh Tryz.results40 (.cons (zl J) (.cons (zl J) .nil)) J (HSub.fst 1 J) ⟨_,_,⟨((s.l.take s.l.length).drop 1),s.n,s.b⟩,(take_ok hand.1 hand.2 hx1).symm,J,J⟩
theorem zeu (g:Nat) (s:Rd) (k:Int) (hw:s.n+2*(s.l.length:Int)≤3000000) (hn:0≤s.n) (hT:TOk s.l) (hk:k≠0):
 CD Tryz.prog 41 [.bx g 72 (.agg [.sh 3 (s.l.map TokD.d),dI s.n,dB s.b])] [dP g 0,dI k] (fun r H'=>∃ t s',(t,s')=s.any k∧r=.s t∧H'=[RB g s']):=by
 refine zp Tryz.func41 J (N:=31) J J (fun C=>?_)
 refine jk [0,1] J (jT J (oR 1 J (oZ J (jT J (oR 1 J (oE J (zm [.bx g 72 (.agg [.sh 3 (s.l.map TokD.d),dI s.n,dB s.b])] [] [] J J (.cons ArgC.id .nil) zg Tryz.call113 (peek_c g s (by omega) (by omega) hT) (.inl rfl)) ?_))))))
 rintro _ _ ⟨_,⟨rfl,rfl⟩,rfl⟩
 refine on J (oE J (zC (zv:=(.agg #[(.int .i64 0),(.int .i64 0),(.string ByteArray.empty)])) Tryz.zeroValue135 ⟨J,J,J,trivial⟩ (Cv.vagg (by decide))) ?_)
 rintro _ _ ⟨g2,rfl,rfl⟩
 refine oE J (zi (i:=0) (X':=TokD.d s.pk) J J J (CellD.agg) Tryz.sizeOf135 J J J) ?_
 rintro _ _ ⟨rfl,rfl⟩
 refine on J (oZ J (jS J (jS J (jk [0,1,4,5] J ?_))))
 refine zR 17 ((s.b||decide (s.pk.k≠k))) [.bx g2 135 (TokD.d s.pk),.bx g 72 (.agg [.sh 3 (s.l.map TokD.d),dI s.n,dB s.b])] (fun _ hQ3=>?_) ?_
 · skip
   rcases Bool.eq_false_or_eq_true (s.b) with hg4 | hg4
   · skip
     refine zf J (oR 2 J (oP J (zd J zX J) (oP J ((ze J (i:=1) J Tryz.isAgg4 J).cv (Cv.eq (congrArg (fun b=>D.v (.bool b)) (hg4)))) (oR 6 J (zq J ?_)))))
     exact PD.sub ((17,dB (s.b||decide (s.pk.k≠k)))::[(0,dP g 0),(1,dI k),(4,.v (.string ByteArray.empty)),(5,dP g2 0)]) ⟨sc J (Cv.eq (congrArg (fun b=>D.v (.bool b)) (by first | (simp[hg4];done) | (simp_all;done)))),sk rfl,sk rfl,sk rfl,sk rfl,trivial⟩ hQ3
   · skip
     refine zf J (oR 2 J (oP J (zd J zX J) (oP J ((ze J (i:=1) J Tryz.isAgg4 J).cv (Cv.eq (congrArg (fun b=>D.v (.bool b)) (hg4)))) (oR 1 J (oG J (zd J zbr J) (oG J (ze J (i:=0) J Tryz.isAgg3 J) (oR 1 J (oG J (za2 J J J) (oR 1 J (zq J ?_))))))))))
     exact PD.sub ((17,dB (s.b||decide (s.pk.k≠k)))::[(0,dP g 0),(1,dI k),(4,.v (.string ByteArray.empty)),(5,dP g2 0)]) ⟨sc J (Cv.eq (congrArg (fun b=>D.v (.bool b)) (by first | (simp[hg4];done) | (simp_all;done)))),sk rfl,sk rfl,sk rfl,sk rfl,trivial⟩ hQ3
 · skip
   refine zj ?_
   refine jC J (fun hc5=>?_) (fun hc5=>?_)
   · simp only[bA,bB,bC,bD,bE,bF,bG,bH,bI,bJ] at hc5
     have hor:s.b=true∨s.pk.k≠k:=by simpa using hc5
     refine jT J (oR 2 J (oP J (zd J zX J) (oE J (zi (i:=1) (X':=.agg [.sh 3 (s.l.map TokD.d),dI s.n,dB true]) J J J (CellD.v J) Tryz.sizeOf4 J J J) ?_)))
     rintro _ _ ⟨rfl,rfl⟩
     refine on J (oZ J (jT J (oR 1 J (oZ J (zn J (zk (PD.subH (HSub.perm (zc (i:=1) J)) (pn J (pn J ?_)))))))))
     exact zh Tryz.results41 (.cons (zx (zl J) ((Cv.str (by first | decide | (unfold maxLen;omega))))) .nil) rfl (HSub.fst 1 rfl) ⟨_,⟨s.l,s.n,true⟩,(any_no hor).symm,rfl,rfl⟩
   · simp only[bA,bB,bC,bD,bE,bF,bG,bH,bI,bJ] at hc5
     have hand:s.b=false∧s.pk.k=k:=by simpa using hc5
     have hne:=pk_len hk hand.2
     refine zt J (zj (jT J (oR 3 J (oP J (zd J zcL J) (oP J (ze J (i:=1) J Tryz.isAgg67 J) (oP J ((zd7 (a:=1) (b:=s.l.length) J J J (by first | rfl | (show _=_;(try simp only[lm]);omega) | exact List.length_map _) (by first | rfl | (show _=_;(try simp only[lm]);omega) | exact List.length_map _) Tryz.runUnderlying67 Tryz.sizeOf135 (by omega) (by simp only[lm];omega)).cv (Cv.eq (by rw[←List.map_take,←List.map_drop]))) (oR 1 rfl (oP rfl (zd rfl zcL rfl) (oE rfl (zi (i:=1) (X':=.agg [.sh 3 (((s.l.take s.l.length).drop 1).map TokD.d),dI s.n,dB s.b]) rfl rfl rfl (CellD.sh) Tryz.sizeOf67 rfl rfl rfl) ?_)))))))))
     rintro _ _ ⟨rfl,rfl⟩
     refine on J (oZ J (jk [4,5] J (jT J (oP J (zd J zcB J) (oP J (ze J (i:=0) J Tryz.isAgg9 J) (oR 1 J (oZ J (zn J (PD.subH (HSub.perm (zc (i:=1) J)) (pn J (pn J ?_)))))))))))
     exact zh Tryz.results41 (.cons (zl J) .nil) J (HSub.fst 1 J) ⟨_,⟨((s.l.take s.l.length).drop 1),s.n,s.b⟩,(any_ok hand.1 hand.2).symm,J,J⟩
theorem zbL (g:Nat) (s:Rd) (t:ByteArray) (hw:s.n+2*(s.l.length:Int)≤3000000) (hn:0≤s.n) (hT:TOk s.l):
 CD Tryz.prog 200 [.bx g 72 (.agg [.sh 3 (s.l.map TokD.d),dI s.n,dB s.b])] [dP g 0,.s t] (fun r H'=>∃ s',s'=s.must t∧r=.tup []∧H'=[RB g s']):=by
 refine zp Tryz.func200 J (N:=24) J J (fun C=>?_)
 refine jk [0,1] J ?_
 refine JD.bd 1 J (fun bd1=>?_)
 have sz1:t.size≤9223372036854775807:=bd1
 refine jT J (oR 2 J (oE J (Qu.ef (d:=.sh 1 ([t].map D.s)) (zy [.tmp 8] J J (.cons CellD.s .nil) J Tryz.runUnderlying23 Tryz.sizeOf9 Tryz.zeroValue9 J J J J)) ?_))
 rintro _ _ ⟨rfl,rfl⟩
 refine oE J (zm [.bx g 72 (.agg [.sh 3 (s.l.map TokD.d),dI s.n,dB s.b])] [] [] J J (.cons ArgC.id (.cons ArgC.id (.cons ArgC.id .nil))) zg Tryz.call40 (zcV g s 5 [t] (by omega) (by omega) hT (by decide)) (.inl rfl)) ?_
 rintro _ _ ⟨_,⟨t1,q1,s1,e1,rfl,rfl⟩,rfl⟩
 obtain ⟨ka1,kb1,kc1,hT1⟩:=(zcU e1).out hT
 have kz1:=zcT e1 hT
 refine on J (oR 5 J (oZ J (jk [0,5] J (jk [0,5] J ?_))))
 refine zd1 [(0,dP g 0),(5,dB q1)] [.bx g 72 (.agg [.sh 3 (s1.l.map TokD.d),dI s1.n,dB (s1.b||!q1)])] (fun _ hQ2=>?_) ?_
 · skip
   rcases Bool.eq_false_or_eq_true (s1.b) with hg3 | hg3
   · skip
     refine zf J (oR 3 J (oP J (zd J zX J) (oP J ((ze J (i:=0) J Tryz.isAgg4 J).cv (Cv.eq (congrArg (fun b=>D.v (.bool b)) (hg3)))) (oR 5 J (oP J (zd J zX J) (oE J (zi (i:=0) (X':=.agg [.sh 3 (s1.l.map TokD.d),dI s1.n,dB true]) J J J (CellD.v J) Tryz.sizeOf4 J J J) ?_))))))
     rintro _ _ ⟨rfl,rfl⟩
     refine on J (zq J (PD.norm [.bx g 72 (.agg [.sh 3 (s1.l.map TokD.d),dI s1.n,dB (s1.b||!q1)])] (by simp only[hg3,Bool.or_true,Bool.true_or,Bool.or_false,Bool.false_or,Bool.not_true,Bool.not_false]<;>rfl) ?_))
     exact PD.sub [(0,dP g 0),(5,dB q1)] (sa J) hQ2
   · skip
     refine zf J (oR 3 J (oP J (zd J zX J) (oP J ((ze J (i:=0) J Tryz.isAgg4 J).cv (Cv.eq (congrArg (fun b=>D.v (.bool b)) (hg3)))) (oR 2 J (oG J (zaZ J) (oR 2 J (oP J (zd J zX J) (oE J (zi (i:=0) (X':=.agg [.sh 3 (s1.l.map TokD.d),dI s1.n,dB (!q1)]) J J J (CellD.v J) Tryz.sizeOf4 J J J) ?_))))))))
     rintro _ _ ⟨rfl,rfl⟩
     refine on J (zq J (PD.norm [.bx g 72 (.agg [.sh 3 (s1.l.map TokD.d),dI s1.n,dB (s1.b||!q1)])] (by simp only[hg3,Bool.or_true,Bool.true_or,Bool.or_false,Bool.false_or,Bool.not_true,Bool.not_false]<;>rfl) ?_))
     exact PD.sub [(0,dP g 0),(5,dB q1)] (sa J) hQ2
 · skip
   refine pn J ?_
   exact zbU Tryz.results200 (.nil) J (HSub.fst 1 J) ⟨⟨s1.l,s1.n,(s1.b||!q1)⟩,must_of e1,J,J⟩
theorem zei (g:Nat) (s:Rd) (x0 x1 x2 x3 x4 x5 x6:D) (hw:s.n+2*(s.l.length:Int)≤3000000) (hn:0≤s.n) (hT:TOk s.l):
 CD Tryz.prog 158 [.bx g 72 (.agg [.sh 3 (s.l.map TokD.d),dI s.n,dB s.b])] [dP g 0,.agg [x0,x1,x2,x3,x4,x5,x6]] (fun r H'=>∃ s',s'=s.node∧r=.agg [x0,x1,x2,x3,x4,x5,x6]∧H'=[RB g s']):=by
 refine zp Tryz.func158 J (N:=27) J J (fun C=>?_)
 refine jk [0,1] J ?_
 refine JD.bd 1 J (fun bd1=>?_)
 refine jT J (oE J (zaY J (CellD.agg)) ?_)
 rintro _ _ ⟨g1,rfl,rfl⟩
 refine oE J (zC (zv:=(.agg #[(.string ByteArray.empty),(.string ByteArray.empty),(.int .i64 0),(.int .i64 0),(.slice none 0 0),(.slice none 0 0),(.slice none 0 0)])) Tryz.zeroValue27 ⟨J,J,J,J,J,J,J,trivial⟩ (Cv.vagg (by decide))) ?_
 rintro _ _ ⟨g2,rfl,rfl⟩
 refine oZ J (jT J (oR 2 J (oP J (zd J fa_72_1 J) (oP J (ze J (i:=2) J Tryz.isAgg3 J) (oP J (zaz (c:=(s.n+1)) J J (zab (by omega) (by omega))) (oR 1 rfl (oP rfl (zd rfl fa_72_1 rfl) (oE rfl (zi (i:=2) (X':=.agg [.sh 3 (s.l.map TokD.d),dI (s.n+1),dB s.b]) rfl rfl rfl (CellD.v rfl) Tryz.sizeOf3 rfl rfl rfl) ?_))))))))
 rintro _ _ ⟨rfl,rfl⟩
 refine on J (oZ J (jS J (jk [0,3,4] J ?_)))
 refine zd1 [(0,dP g 0),(3,dP g1 0),(4,dP g2 0)] [.bx g2 27 (.agg [.v (.string ByteArray.empty),.v (.string ByteArray.empty),dI 0,dI 0,dZ,dZ,dZ]),.bx g1 27 (.agg [x0,x1,x2,x3,x4,x5,x6]),.bx g 72 (.agg [.sh 3 (s.l.map TokD.d),dI (s.n+1),dB (s.b||decide ((200:Int)<(s.n+1)))])] (fun _ hQ3=>?_) ?_
 · skip
   rcases Bool.eq_false_or_eq_true (s.b) with hg4 | hg4
   · skip
     refine zf J (oR 3 J (oP J (zd J zX J) (oP J ((ze J (i:=2) J Tryz.isAgg4 J).cv (Cv.eq (congrArg (fun b=>D.v (.bool b)) (hg4)))) (oR 8 J (oP J (zd J zX J) (oE J (zi (i:=2) (X':=.agg [.sh 3 (s.l.map TokD.d),dI (s.n+1),dB true]) J J J (CellD.v J) Tryz.sizeOf4 J J J) ?_))))))
     rintro _ _ ⟨rfl,rfl⟩
     refine on J (zq J (PD.norm [.bx g2 27 (.agg [.v (.string ByteArray.empty),.v (.string ByteArray.empty),dI 0,dI 0,dZ,dZ,dZ]),.bx g1 27 (.agg [x0,x1,x2,x3,x4,x5,x6]),.bx g 72 (.agg [.sh 3 (s.l.map TokD.d),dI (s.n+1),dB (s.b||decide ((200:Int)<(s.n+1)))])] (by simp only[hg4,Bool.or_true,Bool.true_or,Bool.or_false,Bool.false_or,Bool.not_true,Bool.not_false]<;>rfl) ?_))
     exact PD.sub [(0,dP g 0),(3,dP g1 0),(4,dP g2 0)] (sa J) hQ3
   · skip
     refine zf J (oR 3 J (oP J (zd J zX J) (oP J ((ze J (i:=2) J Tryz.isAgg4 J).cv (Cv.eq (congrArg (fun b=>D.v (.bool b)) (hg4)))) (oR 3 J (oG J (zd J fa_72_1 J) (oG J (ze J (i:=2) J Tryz.isAgg3 J) (oG J (zaF J J J) (oR 2 J (oP J (zd J zX J) (oE J (zi (i:=2) (X':=.agg [.sh 3 (s.l.map TokD.d),dI (s.n+1),dB (decide ((200:Int)<(s.n+1)))]) J J J (CellD.v J) Tryz.sizeOf4 J J J) ?_))))))))))
     rintro _ _ ⟨rfl,rfl⟩
     refine on J (zq J (PD.norm [.bx g2 27 (.agg [.v (.string ByteArray.empty),.v (.string ByteArray.empty),dI 0,dI 0,dZ,dZ,dZ]),.bx g1 27 (.agg [x0,x1,x2,x3,x4,x5,x6]),.bx g 72 (.agg [.sh 3 (s.l.map TokD.d),dI (s.n+1),dB (s.b||decide ((200:Int)<(s.n+1)))])] (by simp only[hg4,Bool.or_true,Bool.true_or,Bool.or_false,Bool.false_or,Bool.not_true,Bool.not_false]<;>rfl) ?_))
     exact PD.sub [(0,dP g 0),(3,dP g1 0),(4,dP g2 0)] (sa J) hQ3
 · skip
   refine zj (jT J (oP J (zH (d:=.agg [x0,x1,x2,x3,x4,x5,x6]) J (i:=1) J Tryz.isAgg27 Tryz.sizeOf27 J J) (oE J (zi (i:=0) (X':=.agg [x0,x1,x2,x3,x4,x5,x6]) J J J (CellD.agg) Tryz.sizeOf27 J J J) ?_)))
   rintro _ _ ⟨rfl,rfl⟩
   refine on J (oZ J (zn J (PD.subH (HSub.perm (zc (i:=2) J)) (pn J (pn J ?_)))))
   exact zh Tryz.results158 (.cons (zU (i:=1) J J Tryz.isAgg27 Tryz.sizeOf27 J J) .nil) J (HSub.fst 1 J) ⟨⟨s.l,(s.n+1),(s.b||decide ((200:Int)<(s.n+1)))⟩,J,J,J⟩
theorem rdnum_c (g:Nat) (s:Rd) (k:Int) (ev es:Value) (hev:EvOk ev) (hes:EvOk es) (hw:s.n+2*(s.l.length:Int)≤3000000) (hn:0≤s.n) (hT:TOk s.l) (hk:k=2∨k=4):
 CD Tryz.prog 114 [.bx g 72 (.agg [.sh 3 (s.l.map TokD.d),dI s.n,dB s.b]),HPow,HErr ev,HSyn es] [dP g 0,dI k] (fun r H'=>∃ v s',(v,s')=s.number k∧r=dI v∧H'=[RB g s',HPow,HErr ev,HSyn es]):=by
 refine zp Tryz.func114 J (N:=15) J J (fun C=>?_)
 refine jk [0,1] J ?_
 have hk0:k≠0:=by omega
 refine jT J (oR 1 J (oZ J (jT J (oR 2 J (oE J (zm [.bx g 72 (.agg [.sh 3 (s.l.map TokD.d),dI s.n,dB s.b])] [HPow,HErr ev,HSyn es] [] J J (.cons ArgC.id (.cons ArgC.id .nil)) zg Tryz.call41 (zeu g s k (by omega) (by omega) hT hk0) (.inl rfl)) ?_)))))
 rintro _ _ ⟨_,⟨t1,s1,e1,rfl,rfl⟩,rfl⟩
 obtain ⟨ka1,kb1,kc1,hT1⟩:=(zet e1).out hT
 have kz1:=zes e1 hT
 refine on J (OpsD.subH (HSub.perm (zc (i:=3) J)) (on J (OpsD.subH (HSub.perm (zc (i:=3) J)) (on J (oE J (zm [HErr ev,HSyn es] [.bx g 72 (.agg [.sh 3 (s1.l.map TokD.d),dI s1.n,dB s1.b]),HPow] [] J J (.cons ArgC.id .nil) zg Tryz.call160 (atoi_e t1 ev es hev hes (any_num e1 hk hT)) (.inl J)) ?_)))))
 rintro _ _ ⟨_,⟨ax,rfl,rfl⟩,rfl⟩
 refine on J (oR 5 J (oZ J (jk [4,5] J (jT J (oR 2 J (oZ J (zn J (PD.subH (HSub.perm (zc (i:=1) J)) (pn J (PD.subH (HSub.perm (zc (i:=1) J)) (pn J (PD.subH (HSub.perm (zc (i:=3) J)) (pn J (PD.subH (HSub.perm (zc (i:=3) J)) (pn J (pn J ?_))))))))))))))))
 exact zh Tryz.results114 (.cons (zl J) .nil) J (HSub.fst 4 J) ⟨_,⟨s1.l,s1.n,s1.b⟩,number_of e1,J,J⟩
theorem names_c (g:Nat) (s:Rd) (hw:s.n+2*(s.l.length:Int)≤3000000) (hn:0≤s.n) (hT:TOk s.l):
 CD Tryz.prog 180 [.bx g 72 (.agg [.sh 3 (s.l.map TokD.d),dI s.n,dB s.b])] [dP g 0] (fun r H'=>∃ l s',(l,s')=s.names∧r=.sh 1 (l.map D.s)∧H'=[RB g s']):=by
 refine zp Tryz.func180 J (N:=34) J J (fun C=>?_)
 refine jk [0] J (jT J (oR 1 J (oZ J (jT J (oR 1 J (oZ J (jT J (oR 1 J (oE J (zm [.bx g 72 (.agg [.sh 3 (s.l.map TokD.d),dI s.n,dB s.b])] [] [] J J (.cons ArgC.id (.cons (ArgC.cv (Cv.str (by first | decide | (unfold maxLen;omega)))) .nil)) zg Tryz.call200 (zbL g s (⟨#[40]⟩:ByteArray) (by omega) (by omega) hT) (.inl rfl)) ?_)))))))))
 rintro _ _ ⟨_,⟨s1,e1,rfl,rfl⟩,rfl⟩
 obtain ⟨ka1,kb1,kc1,hT1⟩:=(zbK e1).out hT
 refine on J (oZ J (jS J (jT J (oR 1 J (oE J (Qu.ef (d:=.sh 1 ([(⟨#[41]⟩:ByteArray)].map D.s)) ((zy [.const (.string (⟨#[41]⟩:ByteArray))] J J (.cons (CellD.v J) .nil) J Tryz.runUnderlying23 Tryz.sizeOf9 Tryz.zeroValue9 J J J J).cv (Cv.shs (.cons (Cv.str (by first | decide | (unfold maxLen;omega))) .nil)))) ?_)))))
 rintro _ _ ⟨rfl,rfl⟩
 refine oE J (zm [.bx g 72 (.agg [.sh 3 (s1.l.map TokD.d),dI s1.n,dB s1.b])] [] [] J J (.cons ArgC.id (.cons ArgC.id (.cons ArgC.id .nil))) zg Tryz.call112 (is_c g s1 5 [(⟨#[41]⟩:ByteArray)] (by omega) (by omega) hT1) (.inl rfl)) ?_
 rintro _ _ ⟨_,⟨rfl,rfl⟩,rfl⟩
 refine on J (oZ J ?_)
 refine jC J (fun hc3=>?_) (fun hc3=>?_)
 · skip
   refine jT J (oR 1 J (oE J (zm [.bx g 72 (.agg [.sh 3 (s1.l.map TokD.d),dI s1.n,dB s1.b])] [] [] J J (.cons ArgC.id (.cons (ArgC.cv (Cv.str (by first | decide | (unfold maxLen;omega)))) .nil)) zg Tryz.call200 (zbL g s1 (⟨#[41]⟩:ByteArray) (by omega) (by omega) hT1) (.inl rfl)) ?_))
   rintro _ _ ⟨_,⟨s4,e4,rfl,rfl⟩,rfl⟩
   obtain ⟨ka4,kb4,kc4,hT4⟩:=(zbK e4).out hT1
   refine on J (oZ J (jT J (oR 1 J (oZ J (zn J (zk (pn J ?_)))))))
   exact zh Tryz.results180 (.cons (zx (zl J) (Cv.nil)) .nil) J (HSub.fst 1 J) ⟨[],⟨s4.l,s4.n,s4.b⟩,names_0 e1 hc3 e4,J,J⟩
 · skip
   refine zt J (zj (jS J (jB J (jl4 (fun (a_:Nat) (b_:Rd) (c_:Value) (d_:List ByteArray)=>[(0,dP g 0),(2,dZ),(3,.ov c_)]) (fun a_ b_ c_ d_=>[.sl c_ 1 9 (d_.map D.s),.bx g 72 (.agg [.sh 3 (b_.l.map TokD.d),dI b_.n,dB b_.b])]) (fun a_ b_ c_ d_=>(b_.l.length<a_)∧(zbY a_ d_ b_=zbY (s1.l.length+1) [] s1)∧(b_.n+2*(b_.l.length:Int)≤3000000)∧(0≤b_.n)∧(TOk b_.l)∧(d_.length+b_.l.length≤1500000)) (fun a_ b_ c_ d_=>a_) (s1.l.length+1) s1 (.slice none 0 0) [] J ⟨sk J,sk J,sc J (Cv.ov J),trivial⟩ (HSub.nil 1 9) ⟨Nat.lt_succ_self _,J,(by omega),(by omega),hT1,(by show 0+s1.l.length≤_;omega)⟩ ?_))))
   rintro f z ov o ⟨hlf,hf,hzw,hzn,hz,hol⟩
   refine ja J (jn J ?_)
   obtain ⟨f,rfl⟩:∃ k,f=k+1:=⟨f-1,by omega⟩
   refine jS J (jT J (oR 2 J (oP J (zd J zX J) (oP J (ze J (i:=1) J Tryz.isAgg4 J) (oP J (zaZ J) (oZ J ?_))))))
   refine jC J (fun hc5=>?_) (fun hc5=>?_)
   · simp only[bA,bB,bC,bD,bE,bF,bG,bH,bI,bJ] at hc5
     have hbf:z.b=false:=by simpa using hc5
     refine zt J (zj (jB J (jT J (oR 2 J (OpsD.subH (HSub.perm (zc (i:=1) J)) (on J (oE J (zm [.bx g 72 (.agg [.sh 3 (z.l.map TokD.d),dI z.n,dB z.b])] [.sl ov 1 9 (o.map D.s)] [] J J (.cons ArgC.id (.cons ArgC.id .nil)) zg Tryz.call41 (zeu g z 1 (by omega) (by omega) hz (by decide)) (.inl rfl)) ?_)))))))
     rintro _ _ ⟨_,⟨t6,s6,e6,rfl,rfl⟩,rfl⟩
     obtain ⟨ka6,kb6,kc6,hT6⟩:=(zet e6).out hz
     have kz6:=zes e6 hz
     refine on J (oE J (Qu.ef (d:=.sh 1 ([t6].map D.s)) (zy [.tmp 20] J J (.cons CellD.s .nil) J Tryz.runUnderlying23 Tryz.sizeOf9 Tryz.zeroValue9 J J J J)) ?_)
     rintro _ _ ⟨rfl,rfl⟩
     refine oE J (zP (f:=D.s) (l:=o) (l':=[t6]) (i:=1) J J J (SrcD.sh) zcE zcI J J (by unfold maxLen;(try simp only[la,lc,ln,lm,lt',ld,ls,lr]);omega) (by (try simp only[la,lc,ln,lm,lt',ld,ls,lr]);omega)) ?_
     rintro _ _ ⟨v7,rfl,rfl⟩
     refine on J (oR 1 J (oZ J (jT J (oR 1 J (oE J (Qu.ef (d:=.sh 1 ([(⟨#[44]⟩:ByteArray)].map D.s)) ((zy [.const (.string (⟨#[44]⟩:ByteArray))] J J (.cons (CellD.v J) .nil) J Tryz.runUnderlying23 Tryz.sizeOf9 Tryz.zeroValue9 J J J J).cv (Cv.shs (.cons (Cv.str (by first | decide | (unfold maxLen;omega))) .nil)))) ?_)))))
     rintro _ _ ⟨rfl,rfl⟩
     refine oE J (zm [.bx g 72 (.agg [.sh 3 (s6.l.map TokD.d),dI s6.n,dB s6.b])] [.sl v7 1 9 ((o++[t6]).map D.s)] [] J J (.cons ArgC.id (.cons ArgC.id (.cons ArgC.id .nil))) zg Tryz.call40 (zcV g s6 5 [(⟨#[44]⟩:ByteArray)] (by omega) (by omega) hT6 (by decide)) (.inl rfl)) ?_
     rintro _ _ ⟨_,⟨t8,q8,s8,e8,rfl,rfl⟩,rfl⟩
     obtain ⟨ka8,kb8,kc8,hT8⟩:=(zcU e8).out hT6
     have kz8:=zcT e8 hT6
     refine on J (oR 5 J (oZ J (jT J (oR 1 J (oP J (zaZ J) (oZ J ?_))))))
     refine jC J (fun hc9=>?_) (fun hc9=>?_)
     · simp only[bA,bB,bC,bD,bE,bF,bG,bH,bI,bJ] at hc9
       have hff:=hf.symm.trans (names_end hbf e6 e8 (by simpa using hc9))
       refine zF J (pd_block_exit_far J (zu (zr (zj (jk [0,2,3] J (jT J (oR 1 J (oE J (zm [.bx g 72 (.agg [.sh 3 (s8.l.map TokD.d),dI s8.n,dB s8.b])] [.sl v7 1 9 ((o++[t6]).map D.s)] [] J J (.cons ArgC.id (.cons (ArgC.cv (Cv.str (by first | decide | (unfold maxLen;omega)))) .nil)) zg Tryz.call200 (zbL g s8 (⟨#[41]⟩:ByteArray) (by omega) (by omega) hT8) (.inl rfl)) ?_))))))))
       rintro _ _ ⟨_,⟨s10,e10,rfl,rfl⟩,rfl⟩
       obtain ⟨ka10,kb10,kc10,hT10⟩:=(zbK e10).out hT8
       refine on J (oZ J (jT J (oR 2 J (oZ J (zn J (PD.subH (HSub.perm (zc (i:=1) J)) (pn J (zbi (Mv.freeze (K':=[(0,dP g 0),(2,.sh 1 ((o++[t6]).map D.s)),(3,.sh 1 ((o++[t6]).map D.s)),(31,dP g 0),(32,.tup []),(33,.sh 1 ((o++[t6]).map D.s))]) [.sl v7 1 9 ((o++[t6]).map D.s)] (H1:=[.bx g 72 (.agg [.sh 3 (s10.l.map TokD.d),dI s10.n,dB s10.b])]) (H1':=[.bx g 72 (.agg [.sh 3 (s10.l.map TokD.d),dI s10.n,dB s10.b])]) ⟨⟨_,J,ArgC.id⟩,⟨_,J,ArgC.own (j:=0) J J⟩,⟨_,J,ArgC.own (j:=0) J J⟩,⟨_,J,ArgC.id⟩,⟨_,J,ArgC.id⟩,⟨_,J,ArgC.own (j:=0) J J⟩,trivial⟩ (.same .nil)) (pn J ?_)))))))))
       exact zh Tryz.results180 (.cons (zl J) .nil) J (HSub.fst 1 J) ⟨(o++[t6]),⟨s10.l,s10.n,s10.b⟩,names_1 e1 (by simpa using hc3) hff e10,rfl,rfl⟩
     · simp only[bA,bB,bC,bD,bE,bF,bG,bH,bI,bJ] at hc9
       obtain ⟨ky,_⟩:=take_y e8 (by decide) (by simpa using hc9)
       refine zt J (zB (PD.subH (HSub.perm (zc (i:=1) J)) (pn J (pn J ?_))))
       exact pl4 f s8 v7 (o++[t6]) (sa J) HSub.rfl' ⟨by omega,(names_go hbf e6 e8 (by simpa using hc9)).symm.trans hf,by omega,by omega,hT8,by simp only[la,List.length_singleton];omega⟩ (by omega)
   · simp only[bA,bB,bC,bD,bE,bF,bG,bH,bI,bJ] at hc5
     have hff:=hf.symm.trans (names_bad (by simpa using hc5))
     refine zF J (zw (zu (zr (zj (jT J (oR 1 J (OpsD.subH (HSub.perm (zc (i:=1) J)) (on J (oE J (zm [.bx g 72 (.agg [.sh 3 (z.l.map TokD.d),dI z.n,dB z.b])] [.sl ov 1 9 (o.map D.s)] [] J J (.cons ArgC.id (.cons (ArgC.cv (Cv.str (by first | decide | (unfold maxLen;omega)))) .nil)) zg Tryz.call200 (zbL g z (⟨#[41]⟩:ByteArray) (by omega) (by omega) hz) (.inl rfl)) ?_)))))))))
     rintro _ _ ⟨_,⟨s11,e11,rfl,rfl⟩,rfl⟩
     obtain ⟨ka11,kb11,kc11,hT11⟩:=(zbK e11).out hz
     refine on J (oZ J (jT J (oR 2 J (oZ J (jk [2] J (zn J (PD.subH (HSub.perm (zc (i:=1) J)) (pn J (zbi (Mv.freeze (K':=[(2,.sh 1 (o.map D.s))]) [.sl ov 1 9 (o.map D.s)] (H1:=[.bx g 72 (.agg [.sh 3 (s11.l.map TokD.d),dI s11.n,dB s11.b])]) (H1':=[.bx g 72 (.agg [.sh 3 (s11.l.map TokD.d),dI s11.n,dB s11.b])]) ⟨⟨_,J,ArgC.own (j:=0) J J⟩,trivial⟩ (.same .nil)) (pn J ?_))))))))))
     exact zh Tryz.results180 (.cons (zl J) .nil) J (HSub.fst 1 J) ⟨o,⟨s11.l,s11.n,s11.b⟩,names_1 e1 (by simpa using hc3) hff e11,rfl,rfl⟩
theorem mode_c (g:Nat) (s:Rd) (a b:ByteArray) (hw:s.n+2*(s.l.length:Int)≤3000000) (hn:0≤s.n) (hT:TOk s.l):
 CD Tryz.prog 157 [.bx g 72 (.agg [.sh 3 (s.l.map TokD.d),dI s.n,dB s.b])] [dP g 0,.s a,.s b] (fun r H'=>∃ m l s',(m,l,s')=s.mode a b∧r=.tup [dI m,.sh 1 (l.map D.s)]∧H'=[RB g s']):=by
 refine zp Tryz.func157 J (N:=29) J J (fun C=>?_)
 refine jk [0,1,2] J ?_
 refine JD.bd 1 J (fun bd1=>?_)
 have sz1:a.size≤9223372036854775807:=bd1
 refine JD.bd 2 J (fun bd2=>?_)
 have sz2:b.size≤9223372036854775807:=bd2
 refine jT J (oR 2 J (oZ J (jT J (oR 3 J (oE J (Qu.ef (d:=.sh 1 ([a,b].map D.s)) (zy [.tmp 12,.tmp 13] J J (.cons CellD.s (.cons CellD.s .nil)) J Tryz.runUnderlying23 Tryz.sizeOf9 Tryz.zeroValue9 J J J J)) ?_)))))
 rintro _ _ ⟨rfl,rfl⟩
 refine oE J (zm [.bx g 72 (.agg [.sh 3 (s.l.map TokD.d),dI s.n,dB s.b])] [] [] J J (.cons ArgC.id (.cons ArgC.id (.cons ArgC.id .nil))) zg Tryz.call40 (zcV g s 1 [a,b] (by omega) (by omega) hT (by decide)) (.inl rfl)) ?_
 rintro _ _ ⟨_,⟨t1,q1,s1,e1,rfl,rfl⟩,rfl⟩
 obtain ⟨ka1,kb1,kc1,hT1⟩:=(zcU e1).out hT
 have kz1:=zcT e1 hT
 refine on J (oR 5 J (oZ J (jk [0,1,6,7,8,9] J (jS J (jB J (jT J (oR 1 J (oP J (zaZ J) (oR 1 J (oZ J ?_))))))))))
 refine jC J (fun hc2=>?_) (fun hc2=>?_)
 · simp only[bA,bB,bC,bD,bE,bF,bG,bH,bI,bJ] at hc2
   refine jT J (oR 2 J (oZ J (zn J (zo (zk (pn J ?_))))))
   exact zh Tryz.results157 (.cons (zl J) (.cons (zx (zl J) (Cv.nil)) .nil)) J (HSub.fst 1 J) ⟨0,[],⟨s1.l,s1.n,s1.b⟩,mode_0 e1 (by simpa using hc2),rfl,rfl⟩
 · simp only[bA,bB,bC,bD,bE,bF,bG,bH,bI,bJ] at hc2
   refine jT J (oR 2 J (oP J (zQ J J J) (oR 1 J (oZ J (jk [0,6,7,21] J ?_)))))
   refine jD J (fun hc3=>?_) (fun hc3=>?_)
   · skip
     refine jT J (oR 1 J (oE J (zm [.bx g 72 (.agg [.sh 3 (s1.l.map TokD.d),dI s1.n,dB s1.b])] [] [] J J (.cons ArgC.id .nil) zg Tryz.call180 (names_c g s1 (by omega) (by omega) hT1) (.inl rfl)) ?_))
     rintro _ _ ⟨_,⟨l4,s4,e4,rfl,rfl⟩,rfl⟩
     obtain ⟨ka4,kb4,kc4,hT4⟩:=(names_e e4).out hT1
     refine on J (oR 2 J (oZ J (zn J (zo (zk (pn J ?_))))))
     exact zh Tryz.results157 (.cons (zl J) (.cons (zl J) .nil)) J (HSub.fst 1 J) ⟨1,l4,⟨s4.l,s4.n,s4.b⟩,mode_1 e1 (by simpa using hc2) hc3 e4,rfl,rfl⟩
   · skip
     refine zt J (zB (zj (jT J (oR 1 J (oE J (zm [.bx g 72 (.agg [.sh 3 (s1.l.map TokD.d),dI s1.n,dB s1.b])] [] [] J J (.cons ArgC.id .nil) zg Tryz.call180 (names_c g s1 (by omega) (by omega) hT1) (.inl rfl)) ?_)))))
     rintro _ _ ⟨_,⟨l5,s5,e5,rfl,rfl⟩,rfl⟩
     obtain ⟨ka5,kb5,kc5,hT5⟩:=(names_e e5).out hT1
     refine on J (oR 2 J (oZ J (zn J (pn J ?_))))
     exact zh Tryz.results157 (.cons (zl J) (.cons (zl J) .nil)) J (HSub.fst 1 J) ⟨2,l5,⟨s5.l,s5.n,s5.b⟩,mode_2 e1 (by simpa using hc2) hc3 e5,rfl,rfl⟩
end Lp
set_option linter.unusedVariables false
namespace Lp
open Go Go.RowKit
def scopeOf:Code→Bool | .scope _=>true | _=>false
def qscope (Q:zaH):zaH
 | .goto _,_,_,_=>False
 | e,ρ,w,F=>Q e ρ w F
section
variable {P:Program} {N:Nat} {C:Ctx} {K:Kd} {H:List Hp} {Q:zaH} {c:Code} {p:List Bool}
theorem jd_scope (pa:List Bool) (hk:scopeOf (cd c p)=true) (ha:p++[false]=pa) (h:JD P N C (cd c pa) K H (qscope Q)):JD P N C (cd c p) K H Q:=by
 subst ha
 rw[zd4] at h
 cases hc:cd c p<;>rw[hc] at hk h<;>simp[scopeOf] at hk
 simp only[cd,zek] at h
 refine⟨fun a w F ok hk g=>wp_scope_straight (wp_mono (h.out a w F ok hk g) ?_)⟩
 rintro e a' w' ⟨ok',F',hq⟩
 cases e with
 | normal=>exact⟨ok',F',hq⟩
 | exit id=>exact⟨ok',F',hq⟩
 | goto l=>exact hq.elim
 | ret=>exact⟨ok',F',hq⟩
 | panic ch=>exact⟨ok',F',hq⟩
 | outgrown=>exact⟨ok',F',hq⟩
theorem pd_scope_ret (h:PD C Q .ret K H):PD C (qscope Q) .ret K H:=⟨h.out⟩
end
end Lp
set_option linter.unusedSimpArgs false
set_option linter.unusedVariables false
set_option maxHeartbeats 4000000
set_option maxRecDepth 100000
namespace Lp
open Go Go.RowKit Go.Proofs
namespace HdYtheccaeefigajaaGreatDoorV91
theorem cv_21_5 {a:Int} (h:0≤a∧a≤255):∀ w,(convert 21 5 (.int .i32 a)).run Tryz.prog w=.ok (.int .u8 a) w:=fun w=>by
 have e:IntKind.u8.wrap a=a:=by simp[IntKind.wrap,IntKind.bits,IntKind.signed];omega
 simp[convert,run_underlying (show Tryz.prog.underlying 21=some _ by kernel_rfl),run_underlying (show Tryz.prog.underlying 5=some _ by kernel_rfl),Conv.intToInt,e]
end HdYtheccaeefigajaaGreatDoorV91
open HdYtheccaeefigajaaGreatDoorV91
abbrev tSig:ByteArray:=⟨#[42,43,63,124,41,93]⟩
theorem ext_idxB (s:ByteArray) (u:Int) (w:World):(callFunc 237 #[.string s,.int .u8 u]).run Tryz.prog w=.ok (.value (.int .i64 (firstIdx s u.toNat.toUInt8))) w:=by
 rw[run_callFunc_extern Tryz.func237 (by kernel_rfl) (by kernel_rfl) (by kernel_rfl) (e:=Extern.BytealgIndexByte.indexByte) (by kernel_rfl),run_indexByte_string]
 rfl
theorem p_idxB {ty:TypeId} {K:Kd} {H:List Hp} {x y:Operand} {ats:Array TypeId} {s:ByteArray} {u:Int} (hx:opS K x=some s) (hy:opD K y=some (.v (.int .u8 u))):Pu Tryz.prog (.call { callee:=.value (.func 237),args:=#[x,y],argTypes:=ats }) ty K H (dI (firstIdx s u.toNat.toUInt8)):=
 ⟨fun ρ w F hk _ _=>e_ext (vs:=[.string s,.int .u8 u]) (zA ρ [x,y]) (by rw[show (#[x,y]:Array Operand).toList=[x,y] from rfl,zb7 ρ [x,y] [x,y] (fun _ h=>h)];have e:ev ρ y=_:=hk.op hy;simp[hk.opS hx,e]) (ext_idxB s u) ⟨rfl,rfl⟩⟩
theorem p_runeStr {ty:TypeId} {K:Kd} {H:List Hp} {x:Operand} {u:Int} (hx:opD K x=some (.v (.int .i32 u))):Pu Tryz.prog (.convert 21 9 x) ty K H (.v (.string (Utf8.encode u))):=
 ⟨fun ρ w F hk _ _=>by
  have e:ev ρ x=_:=hk.op hx
  refine EOp.of_run (v:=.string (Utf8.encode u)) (w':=w) ?_ ⟨rfl,J⟩
  have:=zbw (run_convert_int_string (P:=Tryz.prog) w 21 9 .i32 u (by kernel_rfl) (by kernel_rfl))
  simpa [execOp,zas,e] using this⟩
theorem sig_any {u:Int} (h0:0≤u) (h1:u<128):decide (0≤firstIdx tSig u.toNat.toUInt8)=sgnN.any (fun x=>decide (x=u)):=by
 obtain ⟨n,rfl⟩:∃ n:Nat,u=n:=⟨u.toNat,by omega⟩
 have key:∀ n:Nat,n<128→decide (0≤firstIdx tSig (n:Int).toNat.toUInt8)=sgnN.any (fun x=>decide (x=(n:Int))):=by decide+kernel
 exact key n (by omega)
theorem sig_no {u:Int} (h:¬(0≤u∧u<128)):sgnN.any (fun x=>decide (x=u))=false:=by
 show (decide (42=u)||(decide (43=u)||(decide (63=u)||(decide (124=u)||(decide (41=u)||(decide (93=u)||false))))))=false
 simp only[Bool.or_false,Bool.or_eq_false_iff,decide_eq_false_iff_not]
 refine⟨?_,?_,?_,?_,?_,?_⟩<;>omega
theorem sig_dec:∀ p,p<6→¬(((decR tSig p:Nat):Int)=65533):=by decide+kernel
theorem sig_lt:∀ b∈tSig.data.toList,b.toNat<128:=by decide
theorem sig_at {i:Nat} {u:UInt8} (h:tSig[i]?=some u):u.toNat<128:=sig_lt u (by
 obtain ⟨hi,e⟩:=getElem?_eq_some_iff.1 h
 rw[←e];exact Array.getElem_mem_toList (xs:=tSig.data) hi)
theorem enc_last {u:Int} (hv:Utf8.valid u=true) (h:128≤u) {k:Nat} {b:UInt8} (hk:k+1=(Utf8.encode u).size) (hb:(Utf8.encode u)[k]?=some b):128≤b.toNat:=by
 obtain ⟨hi,e⟩:=getElem?_eq_some_iff.1 hb
 have h3:=(encode_facts u hv h).2.2
 rw[←e]
 have hk':k=(Utf8.encode u).size-1:=by omega
 subst hk'
 exact h3 hi
theorem p_slice_strC {P:Program} {ty:TypeId} {K:Kd} {H:List Hp} {t:TypeId} {a c:Nat} {x:Operand} {lo hi:Option Operand} {b:ByteArray} {rl rh:Option Int} (hx:opS K x=some b) (hm:b.size≤maxLen) (hlo:bndD K lo=some rl) (hhi:bndD K hi=some rh) (ha:Bnd rl 0 a) (hb:Bnd rh b.size c)
 (ht:∀ w,(underlying t).run P w=.ok .string w) (hab:a≤c) (hbn:c≤b.size):Pu P (.slice t x lo hi none) ty K H (.s (b.extract a c)):=
 ⟨fun ρ w F hk hF _=>e_slice_str (zA ρ [x]) (opv1 ρ (hk.opS hx)) rfl rfl (ha.out (zdq hk hlo)) (hb.out (zdq hk hhi)) ht hab hbn ⟨rfl,rfl,Nat.le_trans (by rw[ByteArray.size_extract];omega) hm⟩⟩
theorem idxB0_c (s:ByteArray) (c:Int) :
 CD Tryz.prog 229 [] [.s s,.v (.int .u8 c)] (isR (dI (firstIdx s c.toNat.toUInt8))):=by
 refine zp Tryz.func229 J (N:=8) J J (fun C=>?_)
 refine jk [0,1] J ?_
 refine JD.bd 0 J (fun bd0=>?_)
 have sz0:s.size≤9223372036854775807:=bd0
 refine jT J (oR 1 J (oZ J (jT J (oR 2 J (oP J (p_idxB (s:=s) (u:=c) J J) (oR 1 J (oZ J (zn J ?_))))))))
 exact zh Tryz.results229 (.cons (zx (zl J) (Cv.eq (congrArg (fun n=>D.v (.int .i64 n)) (by rfl)))) .nil) rfl HSub.none ⟨rfl,rfl⟩
theorem idxB_c (s:ByteArray) (c:Int) :
 CD Tryz.prog 218 [] [.s s,.v (.int .u8 c)] (isR (dI (firstIdx s c.toNat.toUInt8))):=by
 refine zp Tryz.func218 J (N:=8) J J (fun C=>?_)
 refine jk [0,1] J ?_
 refine JD.bd 0 J (fun bd0=>?_)
 have sz0:s.size≤9223372036854775807:=bd0
 refine jT J (oR 1 J (oZ J (jT J (oR 2 J (oW J J acs Tryz.call229 (idxB0_c s c) (oR 1 J (oZ J (zn J ?_))))))))
 exact zh Tryz.results218 (.cons (zx (zl J) (Cv.eq (congrArg (fun n=>D.v (.int .i64 n)) (by rfl)))) .nil) rfl HSub.none ⟨rfl,rfl⟩
theorem validR_c (u:Int) :
 CD Tryz.prog 277 [] [.v (.int .i32 u)] (isR (dB (Utf8.valid u))):=by
 refine zp Tryz.func277 J (N:=17) J J (fun C=>?_)
 refine jk [0] J (jT J (oR 1 J (oZ J (jS J (jB J (jS J (jk [0,2] J ?_)))))))
 refine zR 3 ((decide ((0:Int)≤u)&&decide (u<(55296:Int)))) [] (fun _ hQ1=>?_) ?_
 · skip
   by_cases hg2:(0:Int)≤u
   · skip
     refine zf J (oR 1 J (oP J (zbj J J (decide_eq_true hg2)) (oR 2 J (oG J (zN J J J) (oR 2 J (zq J ?_))))))
     exact PD.sub ((3,dB (decide ((0:Int)≤u)&&decide (u<(55296:Int))))::[(0,.v (.int .i32 u)),(2,dB false)]) ⟨sc J (Cv.eq (congrArg (fun b=>D.v (.bool b)) (by first | (simp[hg2];done) | (simp_all;done)))),sk rfl,sk rfl,trivial⟩ hQ1
   · skip
     refine zf J (oR 1 J (oP J (zbj J J (decide_eq_false hg2)) (oR 5 J (zq J ?_))))
     exact PD.sub ((3,dB (decide ((0:Int)≤u)&&decide (u<(55296:Int))))::[(0,.v (.int .i32 u)),(2,dB false)]) ⟨sc J (Cv.eq (congrArg (fun b=>D.v (.bool b)) (by first | (simp[hg2];done) | (simp_all;done)))),sk rfl,sk rfl,trivial⟩ hQ1
 · skip
   refine zj ?_
   refine jC J (fun hc3=>?_) (fun hc3=>?_)
   · simp only[bA,bB,bC,bD,bE,bF,bG,bH,bI,bJ] at hc3
     refine jT J (oR 1 J (oZ J (zn J (zo (zk ?_)))))
     exact zh Tryz.results277 (.cons (zx (zl J) (Cv.eq (congrArg (fun b=>D.v (.bool b)) (by rw[validRune_eq];unfold validRune;simp only[eq_comm (a:=true),eq_comm (a:=false),decide_eq_true_eq,decide_eq_false_iff_not];omega)))) .nil) rfl HSub.none ⟨rfl,rfl⟩
   · simp only[bA,bB,bC,bD,bE,bF,bG,bH,bI,bJ] at hc3
     refine jS J (jk [0,2] J ?_)
     refine zR 10 ((decide ((57343:Int)<u)&&decide (u≤(1114111:Int)))) [] (fun _ hQ4=>?_) ?_
     · skip
       by_cases hg5:(57343:Int)<u
       · skip
         refine zf J (oR 1 J (oP J (zN J J (decide_eq_true hg5)) (oR 2 J (oG J (zbj J J J) (oR 2 J (zq J ?_))))))
         exact PD.sub ((10,dB (decide ((57343:Int)<u)&&decide (u≤(1114111:Int))))::[(0,.v (.int .i32 u)),(2,dB false)]) ⟨sc J (Cv.eq (congrArg (fun b=>D.v (.bool b)) (by first | (simp[hg5];done) | (simp_all;done)))),sk rfl,sk rfl,trivial⟩ hQ4
       · skip
         refine zf J (oR 1 J (oP J (zN J J (decide_eq_false hg5)) (oR 5 J (zq J ?_))))
         exact PD.sub ((10,dB (decide ((57343:Int)<u)&&decide (u≤(1114111:Int))))::[(0,.v (.int .i32 u)),(2,dB false)]) ⟨sc J (Cv.eq (congrArg (fun b=>D.v (.bool b)) (by first | (simp[hg5];done) | (simp_all;done)))),sk rfl,sk rfl,trivial⟩ hQ4
     · skip
       refine zj ?_
       refine jC J (fun hc6=>?_) (fun hc6=>?_)
       · simp only[bA,bB,bC,bD,bE,bF,bG,bH,bI,bJ] at hc6
         refine jT J (oR 1 J (oZ J (zn J (zo (zk ?_)))))
         exact zh Tryz.results277 (.cons (zx (zl J) (Cv.eq (congrArg (fun b=>D.v (.bool b)) (by rw[validRune_eq];unfold validRune;simp only[eq_comm (a:=true),eq_comm (a:=false),decide_eq_true_eq,decide_eq_false_iff_not];omega)))) .nil) rfl HSub.none ⟨rfl,rfl⟩
       · simp only[bA,bB,bC,bD,bE,bF,bG,bH,bI,bJ] at hc6
         refine zt J (zB (zj (jT J (oR 1 J (oZ J (zn J ?_))))))
         exact zh Tryz.results277 (.cons (zx (zl J) (Cv.eq (congrArg (fun b=>D.v (.bool b)) (by rw[validRune_eq];unfold validRune;simp only[eq_comm (a:=true),eq_comm (a:=false),decide_eq_true_eq,decide_eq_false_iff_not];omega)))) .nil) rfl HSub.none ⟨rfl,rfl⟩
theorem indexRune_c (u:Int) (h0:0≤u) (h1:u<1114112):
 CD Tryz.prog 276 [] [.v (.string (⟨#[42,43,63,124,41,93]⟩:ByteArray)),.v (.int .i32 u)] (fun r H'=>(∃ i:Int,r=dI i∧decide (0≤i)=sgnN.any (fun x=>decide (x=u)))∧H'=[]):=by
 refine zp Tryz.func276 J (N:=187) J J (fun C=>?_)
 refine jk [0,1] J ?_
 have hz6:tSig.size=6:=rfl
 refine jT J (oR 1 J (oZ J (jB J (jS J (jk [0,1,4] J ?_)))))
 refine zR 160 ((decide ((0:Int)≤u)&&decide (u<(128:Int)))) [] (fun _ hQ1=>?_) ?_
 · skip
   by_cases hg2:(0:Int)≤u
   · skip
     refine zf J (oR 1 J (oP J (zbj J J (decide_eq_true hg2)) (oR 2 J (oG J (zN J J J) (oR 2 J (zq J ?_))))))
     exact PD.sub ((160,dB (decide ((0:Int)≤u)&&decide (u<(128:Int))))::[(0,.v (.string (⟨#[42,43,63,124,41,93]⟩:ByteArray))),(1,.v (.int .i32 u)),(4,dI 0)]) ⟨sc J (Cv.eq (congrArg (fun b=>D.v (.bool b)) (by first | (simp[hg2];done) | (simp_all;done)))),sk rfl,sk rfl,sk rfl,trivial⟩ hQ1
   · skip
     refine zf J (oR 1 J (oP J (zbj J J (decide_eq_false hg2)) (oR 5 J (zq J ?_))))
     exact PD.sub ((160,dB (decide ((0:Int)≤u)&&decide (u<(128:Int))))::[(0,.v (.string (⟨#[42,43,63,124,41,93]⟩:ByteArray))),(1,.v (.int .i32 u)),(4,dI 0)]) ⟨sc J (Cv.eq (congrArg (fun b=>D.v (.bool b)) (by first | (simp[hg2];done) | (simp_all;done)))),sk rfl,sk rfl,sk rfl,trivial⟩ hQ1
 · skip
   refine zj ?_
   refine jC J (fun hc3=>?_) (fun hc3=>?_)
   · simp only[bA,bB,bC,bD,bE,bF,bG,bH,bI,bJ] at hc3
     have ha:0≤u∧u<128:=by simpa using hc3
     refine jT J (oR 2 J (oP J (zaK J (c:=u) (cv_21_5 (by omega))) (oW rfl rfl (.cons (ArgC.cv (Cv.str (by first | decide | (unfold maxLen;omega)))) (.cons ArgC.id .nil)) Tryz.call218 (idxB_c (⟨#[42,43,63,124,41,93]⟩:ByteArray) u) (oR 1 rfl (oZ rfl (zn rfl (zo ?_)))))))
     exact zh Tryz.results276 (.cons (zl J) .nil) J HSub.none ⟨⟨firstIdx (⟨#[42,43,63,124,41,93]⟩:ByteArray) (u).toNat.toUInt8,J,sig_any ha.1 ha.2⟩,J⟩
   · simp only[bA,bB,bC,bD,bE,bF,bG,bH,bI,bJ] at hc3
     have hna:¬(0≤u∧u<128):=by have h:=hc3;omega
     refine jT J (oR 1 J (oP J (zD J J J) (oR 1 J (oZ J ?_))))
     refine jD J (fun hc4=>?_) (fun hc4=>?_)
     · skip
       refine jS J (jT J (oR 1 J (oE J (zdo J Tryz.runUnderlying9) ?_)))
       rintro _ _ ⟨g5,rfl,rfl⟩
       refine oZ J (jB J (jl1 (fun (a_:Nat)=>[(175,dP g5 0)]) (fun a_=>[.it g5 (⟨#[42,43,63,124,41,93]⟩:ByteArray) a_]) (fun a_=>(a_≤(⟨#[42,43,63,124,41,93]⟩:ByteArray).size)) (fun a_=>(⟨#[42,43,63,124,41,93]⟩:ByteArray).size-a_) 0 J (sa J) HSub.rfl' (Nat.zero_le _) ?_))
       rintro p hp
       refine ja J (jn J ?_)
       rcases Nat.lt_or_ge p (⟨#[42,43,63,124,41,93]⟩:ByteArray).size with hlt | hge
       · skip
         have hrune:=zaO hlt
         have hrl:=zcM (⟨#[42,43,63,124,41,93]⟩:ByteArray) p
         have hdw:=zaN (⟨#[42,43,63,124,41,93]⟩:ByteArray) p hlt
         have hdp:=zY (⟨#[42,43,63,124,41,93]⟩:ByteArray) p
         refine jT J (oE J (zcR (i:=0) J J hlt) ?_)
         rintro _ _ ⟨rfl,rfl⟩
         refine on J (oR 1 J (oZ J (jS J (jCt J (zt J (zj (jB J (jT J (oR 4 J (oZ J (jT J (oR 1 J (oP J (zD J J J) (oZ J ?_))))))))))))))
         refine jD J (fun hc6=>?_) (fun hc6=>?_)
         · skip
           exfalso;exact sig_dec p (show p<6 from hlt) hc6
         · skip
           refine zt J (zB ?_)
           exact pl1 (p+decW (⟨#[42,43,63,124,41,93]⟩:ByteArray) p) (sa J) HSub.rfl' (by have:=zaN (⟨#[42,43,63,124,41,93]⟩:ByteArray) p hlt;omega) (by have:=zY (⟨#[42,43,63,124,41,93]⟩:ByteArray) p;omega)
       · skip
         have hrune:=zbb hge
         refine jT J (oP J (zdj (i:=0) J J hge) (oR 1 J (oZ J (jS J (jCf J (zF J (zw (zu (zr (zj (jT J (oR 1 J (oZ J (zn J (zo ?_)))))))))))))))
         exact zh Tryz.results276 (.cons (zl J) .nil) J HSub.none ⟨⟨(-1),J,(sig_no hna).symm⟩,J⟩
     · skip
       refine jT J (oR 1 J (oW J J acs Tryz.call277 (validR_c u) (oP J (zaZ J) (oR 1 J (oZ J ?_)))))
       refine jC J (fun hc7=>?_) (fun hc7=>?_)
       · simp only[bA,bB,bC,bD,bE,bF,bG,bH,bI,bJ] at hc7
         refine jT J (oR 1 J (oZ J (jk [4] J (zn J (zo ?_)))))
         exact zh Tryz.results276 (.cons (zl J) .nil) J HSub.none ⟨⟨(-1),J,(sig_no hna).symm⟩,J⟩
       · simp only[bA,bB,bC,bD,bE,bF,bG,bH,bI,bJ] at hc7
         have hval:Utf8.valid u=true:=by simpa using hc7
         refine jd_scope _ J J (jT J (oR 1 J ?_))
         obtain ⟨en1,en2,_⟩:=encode_facts u hval (by omega)
         refine oP J ((p_runeStr J).cv (Cv.str (by unfold maxLen;omega))) (oR 1 rfl (oZ rfl (jk [0,1,4,7] rfl (jT rfl (oR 1 rfl (oP rfl (z7 rfl Tryz.runUnderlying9) (oP rfl (zeA (c:=((((Utf8.encode u).size)-1:Nat):Int)) rfl rfl (zab (by omega) (by omega))) (oR 1 rfl (oZ rfl (jT rfl (oR 2 rfl (oZ rfl (jT rfl (oR 1 rfl (oZ rfl (jS rfl (jB rfl (jl1 (fun (_:Unit)=>[(0,.v (.string (⟨#[42,43,63,124,41,93]⟩:ByteArray))),(1,.v (.int .i32 u)),(7,.s (Utf8.encode u)),(8,dN (((Utf8.encode u).size)-1)),(9,dN (((Utf8.encode u).size)-1)),(10,dI 0)]) (fun _=>[]) (fun _=>True) (fun _=>0) () rfl (sa rfl) HSub.rfl' trivial ?_))))))))))))))))))
         rintro _ _
         refine ja J (jn J (jS J (jT J (oR 2 J (oP J (z7 J Tryz.runUnderlying9) (oP J (zN J J J) (oZ J ?_)))))))
         refine jD J (fun hc8=>?_) (fun hc8=>?_)
         · skip
           refine zt J (zj (jB J (jd_scope _ J J (jS J (jS J ?_)))))
           obtain ⟨u1,hu1⟩:=zcc tSig (((Utf8.encode u).size)-1) (by show _<6;omega)
           have hl1:=sig_at hu1
           obtain ⟨u2,hu2⟩:=zcc (Utf8.encode u) (((Utf8.encode u).size)-1) (by omega)
           have hl2:=enc_last hval (by omega) (by omega) hu2
           have hl3:=u2.toNat_lt
           have hne:((u1.toNat:Nat):Int)≠((u2.toNat:Nat):Int):=by omega
           refine jk [0,1,7,8,9,10,23,24,25,26] J (jn J (zaX 6 [(27,.v (.string (⟨#[42,43,63,124,41,93]⟩:ByteArray)),none),(28,dN (((Utf8.encode u).size)-1),none),(29,.v (.int .u8 ((u1.toNat:Nat):Int)),none),(30,.s (Utf8.encode u),none),(31,dN (((Utf8.encode u).size)-1),none),(32,.v (.int .u8 ((u2.toNat:Nat):Int)),none)] [] (Hn:=[]) mixed J J J J HSub.rfl' J ⟨sa_p J J J (zG J),sa_p J J J (zG J),sa_p J J J (zac (k:=((Utf8.encode u).size)-1) J J Tryz.runUnderlying9 (by first | rfl | omega) hu1),sa_p rfl rfl rfl (zG rfl),sa_p rfl rfl rfl (zG rfl),sa_p rfl rfl rfl (zac (k:=((Utf8.encode u).size)-1) rfl rfl Tryz.runUnderlying9 (by first | rfl | omega) hu2),trivial⟩ (ok [0,1,7,8,9,10,23,24,25,26,27,28,29,30,31,32] rfl (oP rfl (za2 rfl rfl (decide_eq_true hne)) (oZ rfl (jCt rfl (jS rfl (jk [0,1,7,8,9,10,23,24,25,26,27,28,29,30,31,32,33] rfl (jn rfl ?_)))))))))
           refine zaX 7 [(34,.v (.string (⟨#[42,43,63,124,41,93]⟩:ByteArray)),none),(35,dN (((Utf8.encode u).size)-1),none),(36,dN ((((Utf8.encode u).size)-1)+1),none),(37,.s ((⟨#[42,43,63,124,41,93]⟩:ByteArray).extract ((((Utf8.encode u).size)-1)+1) ((⟨#[42,43,63,124,41,93]⟩:ByteArray).size)),none),(38,.s (Utf8.encode u),none),(39,dN (((Utf8.encode u).size)-1),none),(40,.v (.int .u8 ((u2.toNat:Nat):Int)),none)] [] (Hn:=[]) mixed J J J J HSub.rfl' J ⟨sa_p J J J (zG J),sa_p J J J (zG J),sa_p J J J (zaz (c:=(((((Utf8.encode u).size)-1)+1:Nat):Int)) J J (zab (by omega) (by omega))),sa_p rfl rfl rfl (p_slice_strC (a:=(((Utf8.encode u).size)-1)+1) (c:=(⟨#[42,43,63,124,41,93]⟩:ByteArray).size) rfl (by decide) rfl rfl (by first | rfl | (show _=_;omega)) (by first | rfl | (show _=_;omega)) Tryz.runUnderlying9 (by show _≤6;omega) (Nat.le_refl _)),sa_p rfl rfl rfl (zG rfl),sa_p rfl rfl rfl (zG rfl),sa_p rfl rfl rfl (zac (k:=((Utf8.encode u).size)-1) rfl rfl Tryz.runUnderlying9 (by first | rfl | omega) hu2),trivial⟩ (ok [0,1,7,8,9,10,23,24,25,26,27,28,29,30,31,32,33,34,35,36,37,38,39,40] rfl ?_)
           refine oW J J acs Tryz.call218 (idxB_c ((⟨#[42,43,63,124,41,93]⟩:ByteArray).extract ((((Utf8.encode u).size)-1)+1) ((⟨#[42,43,63,124,41,93]⟩:ByteArray).size)) ((u2.toNat:Nat):Int)) (oR 1 J (oZ J (jS J (jS J ?_))))
           have hneg:firstIdx ((⟨#[42,43,63,124,41,93]⟩:ByteArray).extract ((((Utf8.encode u).size)-1)+1) ((⟨#[42,43,63,124,41,93]⟩:ByteArray).size)) (((u2.toNat:Nat):Int)).toNat.toUInt8= -1:=firstIdx_ascii _ _ _ _ sig_lt (by have:=hl2;have:=hl3;show 128≤(((u2.toNat:Nat):Int).toNat.toUInt8).toNat;rw[Int.toNat_natCast];simp;omega)
           have hlt0:firstIdx ((⟨#[42,43,63,124,41,93]⟩:ByteArray).extract ((((Utf8.encode u).size)-1)+1) ((⟨#[42,43,63,124,41,93]⟩:ByteArray).size)) (((u2.toNat:Nat):Int)).toNat.toUInt8<(0:Int):=by omega
           refine zf J (oR 1 J (oP J (zN J J (decide_eq_true hlt0)) (oZ J (jCt J (jT J (oR 1 J (oZ J (zn J (zk (zk (pd_scope_ret (zo (zal (zo (zk (pd_scope_ret (zo ?_)))))))))))))))))
           exact zh Tryz.results276 (.cons (zl J) .nil) J HSub.none ⟨⟨(-1),J,(sig_no hna).symm⟩,J⟩
         · skip
           refine zF J (zw (zu (zr (zj (jS J (jT J (oR 1 J (oZ J (zn J (zk (pd_scope_ret (zo ?_))))))))))))
           exact zh Tryz.results276 (.cons (zl J) .nil) J HSub.none ⟨⟨(-1),J,(sig_no hna).symm⟩,J⟩
end Lp
