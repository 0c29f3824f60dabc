import Derived.Test.YtheccaeefigajaaGreatDoorPTok4
set_option linter.unusedSimpArgs false
set_option linter.unusedVariables false
set_option maxHeartbeats 4000000
set_option maxRecDepth 100000
namespace Lp
open Go Go.RowKit Go.Proofs
namespace HdYtheccaeefigajaaGreatDoorV113
theorem eqb_4_eql (x y:Operand) (a b:Bool) (w:World):(do eqGuard .eql 4 x y (.bool a) (.bool b);binOp .eql 4 (.bool a) (.bool b):Sem Value).run Tryz.prog w=.ok (.bool (a==b)) w:=by cases a<;>cases b<;>kernel_rfl
theorem zcV (b o:Nat):∀ w,(Instr.fieldAt 29 (.pointer (some ⟨b,o,none⟩)) 0).run Tryz.prog w=.ok (.pointer (some ⟨b,o+0,none⟩)) w:=fun _=>by kernel_rfl
end HdYtheccaeefigajaaGreatDoorV113
open HdYtheccaeefigajaaGreatDoorV113
theorem unlike_q {s t:ByteArray} (hs:zba s=0) (ht:zba t=0):decide ((z8 s).pr=(z8 t).pr)=zd3 (z8 s) (z8 t):=by
 by_cases h:(z8 s).pr=(z8 t).pr
 · rw[decide_eq_true h];exact(sameQ_is.2 (read_inj hs ht h)).symm
 · rw[decide_eq_false h];exact(sameQ_no (fun e=>h (by rw[e]))).symm
theorem law_unlike_c (s t:ByteArray) (ev es:Value) (hev:EvOk ev) (hes:EvOk es):
 CD Tryz.prog 8 [HPow,HErr ev,HSyn es] [.s s,.s t] (fun r H'=>r=dB true∧H'=[HPow,HErr ev,HSyn es]):=by
 refine zq Tryz.func8 J (N:=64) J J (fun C=>?_)
 refine jk [0,1] J ?_
 refine JD.bd 0 J (fun bd0=>?_)
 have sz0:s.size≤9223372036854775807:=bd0
 refine JD.bd 1 J (fun bd1=>?_)
 have sz1:t.size≤9223372036854775807:=bd1
 refine jT J (oR 1 J (oZ J (jS J (jS J (jk [0,1,4] J ?_)))))
 refine zac 22 ((decide ((600:Int)<((s.size:Nat):Int))||decide ((600:Int)<((t.size:Nat):Int)))) [HPow,HErr ev,HSyn es] (fun _ hQ1=>?_) ?_
 · skip
   by_cases hg2:(600:Int)<((s.size:Nat):Int)
   · skip
     refine zf J (oR 1 J (oP J (zX J Tryz.runUnderlying9) (oP J (zbg J J (decide_eq_true hg2)) (oR 9 J (zr J ?_)))))
     exact PD.sub ((22,dB (decide ((600:Int)<((s.size:Nat):Int))||decide ((600:Int)<((t.size:Nat):Int))))::[(0,.s s),(1,.s t),(4,dB false)]) ⟨sc J (Cv.eq (congrArg (fun b=>D.v (.bool b)) (by first | (simp[hg2];done) | (simp_all;done)))),sk rfl,sk rfl,sk rfl,trivial⟩ hQ1
   · skip
     by_cases hg3:(600:Int)<((t.size:Nat):Int)
     · skip
       refine zf J (oR 1 J (oP J (zX J Tryz.runUnderlying9) (oP J (zbg J J (decide_eq_false hg2)) (oR 2 J (oG J (zX J Tryz.runUnderlying9) (oG J (zbg J J (decide_eq_true hg3)) (oR 5 J (zr J ?_))))))))
       exact PD.sub ((22,dB (decide ((600:Int)<((s.size:Nat):Int))||decide ((600:Int)<((t.size:Nat):Int))))::[(0,.s s),(1,.s t),(4,dB false)]) ⟨sc J (Cv.eq (congrArg (fun b=>D.v (.bool b)) (by first | (simp[hg2,hg3];done) | (simp_all;done)))),sk rfl,sk rfl,sk rfl,trivial⟩ hQ1
     · skip
       refine zf J (oR 1 J (oP J (zX J Tryz.runUnderlying9) (oP J (zbg J J (decide_eq_false hg2)) (oR 2 J (oG J (zX J Tryz.runUnderlying9) (oG J (zbg J J (decide_eq_false hg3)) (oR 2 J (oF J (zk [HPow,HErr ev,HSyn es] [] [] J J (.nil) zh Tryz.call25 (alive8_c ev es hev hes) (.inl J)) ?_))))))))
       rintro _ _ ⟨_,⟨rfl,rfl⟩,rfl⟩
       refine on J (oR 2 J (zr J ?_))
       exact PD.sub ((22,dB (decide ((600:Int)<((s.size:Nat):Int))||decide ((600:Int)<((t.size:Nat):Int))))::[(0,.s s),(1,.s t),(4,dB false)]) ⟨sc J (Cv.eq (congrArg (fun b=>D.v (.bool b)) (by first | (simp[hg2,hg3];done) | (simp_all;done)))),sk rfl,sk rfl,sk rfl,trivial⟩ hQ1
 · skip
   refine zn ?_
   refine jC J (fun hc4=>?_) (fun hc4=>?_)
   · simp only[bA,bB,bC,bD,bE,bF,bG,bH,bI,bJ] at hc4
     refine jT J (oE J (zk [HPow,HErr ev,HSyn es] [] [] J J (.nil) zh Tryz.call25 (alive8_c ev es hev hes) (.inl J)) ?_)
     rintro _ _ ⟨_,⟨rfl,rfl⟩,rfl⟩
     refine on J (oR 1 J (oZ J (zo J (zj (pn J ?_)))))
     exact zi Tryz.results8 (.cons (zl J) .nil) J (HSub.fst 3 J) ⟨rfl,J⟩
   · simp only[bA,bB,bC,bD,bE,bF,bG,bH,bI,bJ] at hc4
     have hgd:=hc4
     refine zp J (zn (jT J (oR 1 J (oE J (zk [HPow,HErr ev,HSyn es] [] [] J J (.cons ArgC.id .nil) zh Tryz.call14 (Read_c s ev es hev hes) (.inl J)) ?_))))
     rintro _ _ ⟨_,⟨no5,nt5,nn5,nm5,nl5,ns5,nk5,qo5,qa5,qb5,e5,rfl,rfl⟩,rfl⟩
     refine on J (oR 3 J (oE J (zw (zv:=(.agg #[(.string ByteArray.empty),(.string ByteArray.empty),(.int .i64 0),(.int .i64 0),(.slice none 0 0),(.slice none 0 0),(.slice none 0 0),(.int .i64 0),(.int .i64 0),(.int .i64 0)])) Tryz.zeroValue29 ⟨J,J,J,J,J,J,J,J,J,J,trivial⟩ (Cv.vagg (by decide))) ?_))
     rintro _ _ ⟨g6,rfl,rfl⟩
     refine oE J (zg (i:=0) (X':=.agg [.s no5,.s nt5,dI nn5,dI nm5,.sh 1 (nl5.map D.s),.sh 3 (ns5.map MatD.d),.sh 7 (Nd.ds nk5),dI qo5,dI qa5,dI qb5]) J J J (CellD.agg) Tryz.sizeOf29 J J J) ?_
     rintro _ _ ⟨rfl,rfl⟩
     refine on J (oR 1 J (oZ J (jT J (oR 1 J (OpsD.subH (HSub.perm (zd (i:=3) J)) (on J (OpsD.subH (HSub.perm (zd (i:=3) J)) (on J (OpsD.subH (HSub.perm (zd (i:=3) J)) (on J (oE J (zk [HPow,HErr ev,HSyn es] [.bx g6 29 (.agg [.s no5,.s nt5,dI nn5,dI nm5,.sh 1 (nl5.map D.s),.sh 3 (ns5.map MatD.d),.sh 7 (Nd.ds nk5),dI qo5,dI qa5,dI qb5])] [] J J (.cons ArgC.id .nil) zh Tryz.call14 (Read_c t ev es hev hes) (.inl J)) ?_)))))))))))
     rintro _ _ ⟨_,⟨no7,nt7,nn7,nm7,nl7,ns7,nk7,qo7,qa7,qb7,e7,rfl,rfl⟩,rfl⟩
     refine on J (oR 3 J (oE J (zw (zv:=(.agg #[(.string ByteArray.empty),(.string ByteArray.empty),(.int .i64 0),(.int .i64 0),(.slice none 0 0),(.slice none 0 0),(.slice none 0 0),(.int .i64 0),(.int .i64 0),(.int .i64 0)])) Tryz.zeroValue29 ⟨J,J,J,J,J,J,J,J,J,J,trivial⟩ (Cv.vagg (by decide))) ?_))
     rintro _ _ ⟨g8,rfl,rfl⟩
     refine oE J (zg (i:=0) (X':=.agg [.s no7,.s nt7,dI nn7,dI nm7,.sh 1 (nl7.map D.s),.sh 3 (ns7.map MatD.d),.sh 7 (Nd.ds nk7),dI qo7,dI qa7,dI qb7]) J J J (CellD.agg) Tryz.sizeOf29 J J J) ?_
     rintro _ _ ⟨rfl,rfl⟩
     refine on J (oR 1 J (oZ J (jk [4,5,6,7,8] J (jS J (jS J (jk [4,5,6,7,8] J ?_))))))
     refine zac 39 ((decide ((zba s)≠(0:Int))||decide ((zba t)≠(0:Int)))) [.bx g8 29 (.agg [.s no7,.s nt7,dI nn7,dI nm7,.sh 1 (nl7.map D.s),.sh 3 (ns7.map MatD.d),.sh 7 (Nd.ds nk7),dI qo7,dI qa7,dI qb7]),HPow,HErr ev,HSyn es,.bx g6 29 (.agg [.s no5,.s nt5,dI nn5,dI nm5,.sh 1 (nl5.map D.s),.sh 3 (ns5.map MatD.d),.sh 7 (Nd.ds nk5),dI qo5,dI qa5,dI qb5])] (fun _ hQ9=>?_) ?_
     · skip
       by_cases hg10:(zba s)≠(0:Int)
       · skip
         refine zf J (oR 1 J (oP J (zbf J J (decide_eq_true hg10)) (oR 4 J (zr J ?_))))
         exact PD.sub ((39,dB (decide ((zba s)≠(0:Int))||decide ((zba t)≠(0:Int))))::[(4,dB false),(5,dP g6 0),(6,dI (zba s)),(7,dP g8 0),(8,dI (zba t))]) ⟨sc J (Cv.eq (congrArg (fun b=>D.v (.bool b)) (by first | (simp[hg10];done) | (simp_all;done)))),sk rfl,sk rfl,sk rfl,sk rfl,sk rfl,trivial⟩ hQ9
       · skip
         refine zf J (oR 1 J (oP J (zbf J J (decide_eq_false hg10)) (oR 2 J (oG J (zbf J J J) (oR 1 J (zr J ?_))))))
         exact PD.sub ((39,dB (decide ((zba s)≠(0:Int))||decide ((zba t)≠(0:Int))))::[(4,dB false),(5,dP g6 0),(6,dI (zba s)),(7,dP g8 0),(8,dI (zba t))]) ⟨sc J (Cv.eq (congrArg (fun b=>D.v (.bool b)) (by first | (simp[hg10];done) | (simp_all;done)))),sk rfl,sk rfl,sk rfl,sk rfl,sk rfl,trivial⟩ hQ9
     · skip
       refine zn ?_
       refine jC J (fun hc11=>?_) (fun hc11=>?_)
       · simp only[bA,bB,bC,bD,bE,bF,bG,bH,bI,bJ] at hc11
         refine jT J (oR 1 J (oZ J (zo J (zj (PD.subH (HSub.perm (zd (i:=3) J)) (pn J (PD.subH (HSub.perm (zd (i:=3) J)) (pn J (PD.subH (HSub.perm (zd (i:=3) J)) (pn J (pn J ?_)))))))))))
         exact zi Tryz.results8 (.cons (zl J) .nil) J (HSub.fst 3 J) ⟨rfl,J⟩
       · simp only[bA,bB,bC,bD,bE,bF,bG,bH,bI,bJ] at hc11
         have hEe5:zba s=0:=by have h:=hc11;omega
         have hEe7:zba t=0:=by have h:=hc11;omega
         refine zp J (zn (jS J (JD.subH (HSub.perm (zd (i:=1) J)) (jn J (jk [4,5,6,7,8,39] J (jn J ?_))))))
         refine za4 3 [(40,.agg [.s no5,.s nt5,dI nn5,dI nm5,.sh 1 (nl5.map D.s),.sh 3 (ns5.map MatD.d),.sh 7 (Nd.ds nk5),dI qo5,dI qa5,dI qb5],none),(41,.s ((z8 s).pr),some [HPow,.bx g8 29 (.agg [.s no7,.s nt7,dI nn7,dI nm7,.sh 1 (nl7.map D.s),.sh 3 (ns7.map MatD.d),.sh 7 (Nd.ds nk7),dI qo7,dI qa7,dI qb7]),HErr ev,HSyn es,.bx g6 29 (.agg [.s no5,.s nt5,dI nn5,dI nm5,.sh 1 (nl5.map D.s),.sh 3 (ns5.map MatD.d),.sh 7 (Nd.ds nk5),dI qo5,dI qa5,dI qb5])]),(42,.agg [.s no7,.s nt7,dI nn7,dI nm7,.sh 1 (nl7.map D.s),.sh 3 (ns7.map MatD.d),.sh 7 (Nd.ds nk7),dI qo7,dI qa7,dI qb7],none)] [.bx g8 29 (.agg [.s no7,.s nt7,dI nn7,dI nm7,.sh 1 (nl7.map D.s),.sh 3 (ns7.map MatD.d),.sh 7 (Nd.ds nk7),dI qo7,dI qa7,dI qb7]),HErr ev,HSyn es,.bx g6 29 (.agg [.s no5,.s nt5,dI nn5,dI nm5,.sh 1 (nl5.map D.s),.sh 3 (ns5.map MatD.d),.sh 7 (Nd.ds nk5),dI qo5,dI qa5,dI qb5])] (Hn:=[HPow,.bx g8 29 (.agg [.s no7,.s nt7,dI nn7,dI nm7,.sh 1 (nl7.map D.s),.sh 3 (ns7.map MatD.d),.sh 7 (Nd.ds nk7),dI qo7,dI qa7,dI qb7]),HErr ev,HSyn es,.bx g6 29 (.agg [.s no5,.s nt5,dI nn5,dI nm5,.sh 1 (nl5.map D.s),.sh 3 (ns5.map MatD.d),.sh 7 (Nd.ds nk5),dI qo5,dI qa5,dI qb5])]) mixed rfl rfl rfl rfl (HSub.lst 1 rfl) rfl ⟨sa_p rfl rfl rfl (zx (d:=.agg [.s no5,.s nt5,dI nn5,dI nm5,.sh 1 (nl5.map D.s),.sh 3 (ns5.map MatD.d),.sh 7 (Nd.ds nk5),dI qo5,dI qa5,dI qb5]) rfl (i:=3) rfl Tryz.isAgg29 Tryz.sizeOf29 rfl rfl),sa_e rfl rfl rfl rfl (((zk [HPow] [.bx g8 29 (.agg [.s no7,.s nt7,dI nn7,dI nm7,.sh 1 (nl7.map D.s),.sh 3 (ns7.map MatD.d),.sh 7 (Nd.ds nk7),dI qo7,dI qa7,dI qb7]),HErr ev,HSyn es,.bx g6 29 (.agg [.s no5,.s nt5,dI nn5,dI nm5,.sh 1 (nl5.map D.s),.sh 3 (ns5.map MatD.d),.sh 7 (Nd.ds nk5),dI qo5,dI qa5,dI qb5])] [] rfl rfl (.cons ArgC.id .nil) zh Tryz.call32 (print_q hEe5 e5) (.inl rfl))).mono (by rintro _ _ ⟨_,⟨rfl,rfl⟩,rfl⟩;exact⟨rfl,rfl⟩)) (HSub.lst 1 rfl),sa_p rfl rfl rfl (zx (d:=.agg [.s no7,.s nt7,dI nn7,dI nm7,.sh 1 (nl7.map D.s),.sh 3 (ns7.map MatD.d),.sh 7 (Nd.ds nk7),dI qo7,dI qa7,dI qb7]) rfl (i:=0) rfl Tryz.isAgg29 Tryz.sizeOf29 rfl rfl),trivial⟩ ?_
         refine ok [4,5,6,7,8,39,40,41,42] J (oE J (zk [HPow] [.bx g8 29 (.agg [.s no7,.s nt7,dI nn7,dI nm7,.sh 1 (nl7.map D.s),.sh 3 (ns7.map MatD.d),.sh 7 (Nd.ds nk7),dI qo7,dI qa7,dI qb7]),HErr ev,HSyn es,.bx g6 29 (.agg [.s no5,.s nt5,dI nn5,dI nm5,.sh 1 (nl5.map D.s),.sh 3 (ns5.map MatD.d),.sh 7 (Nd.ds nk5),dI qo5,dI qa5,dI qb5])] [] J J (.cons ArgC.id .nil) zh Tryz.call32 (print_q hEe7 e7) (.inl J)) ?_)
         rintro _ _ ⟨_,⟨rfl,rfl⟩,rfl⟩
         refine on J (oR 2 J (oZ J (jS J (jk [5,7,9,10] J ?_))))
         refine zac 4 (((decide (((z8 s).pr)=((z8 t).pr))==zd3 (⟨Nd.mk no5 nt5 nn5 nm5 nl5 ns5 nk5,qo5,qa5,qb5⟩:QryD) (⟨Nd.mk no7 nt7 nn7 nm7 nl7 ns7 nk7,qo7,qa7,qb7⟩:QryD))&&((Nd.mk no5 nt5 nn5 nm5 nl5 ns5 nk5).eqB (Nd.mk no7 nt7 nn7 nm7 nl7 ns7 nk7)==(Nd.mk no5 nt5 nn5 nm5 nl5 ns5 nk5).eqB (Nd.mk no7 nt7 nn7 nm7 nl7 ns7 nk7)))) [HPow,.bx g8 29 (.agg [.s no7,.s nt7,dI nn7,dI nm7,.sh 1 (nl7.map D.s),.sh 3 (ns7.map MatD.d),.sh 7 (Nd.ds nk7),dI qo7,dI qa7,dI qb7]),HErr ev,HSyn es,.bx g6 29 (.agg [.s no5,.s nt5,dI nn5,dI nm5,.sh 1 (nl5.map D.s),.sh 3 (ns5.map MatD.d),.sh 7 (Nd.ds nk5),dI qo5,dI qa5,dI qb5])] (fun _ hQ12=>?_) ?_
         · skip
           rcases Bool.eq_false_or_eq_true ((decide (((z8 s).pr)=((z8 t).pr))==zd3 (⟨Nd.mk no5 nt5 nn5 nm5 nl5 ns5 nk5,qo5,qa5,qb5⟩:QryD) (⟨Nd.mk no7 nt7 nn7 nm7 nl7 ns7 nk7,qo7,qa7,qb7⟩:QryD))) with hg13 | hg13
           · skip
             refine jk [5,7,9,10] J (jn J ?_)
             refine za4 17 [(44,.s ((z8 s).pr),none),(45,.s ((z8 t).pr),none),(46,dB (decide (((z8 s).pr)=((z8 t).pr))),none),(47,.agg [.s no5,.s nt5,dI nn5,dI nm5,.sh 1 (nl5.map D.s),.sh 3 (ns5.map MatD.d),.sh 7 (Nd.ds nk5),dI qo5,dI qa5,dI qb5],none),(48,.agg [.s no7,.s nt7,dI nn7,dI nm7,.sh 1 (nl7.map D.s),.sh 3 (ns7.map MatD.d),.sh 7 (Nd.ds nk7),dI qo7,dI qa7,dI qb7],none),(49,dB (zd3 (⟨Nd.mk no5 nt5 nn5 nm5 nl5 ns5 nk5,qo5,qa5,qb5⟩:QryD) (⟨Nd.mk no7 nt7 nn7 nm7 nl7 ns7 nk7,qo7,qa7,qb7⟩:QryD)),none),(50,dB true,none),(51,dB true,none),(52,dP g6 0,none),(53,.agg [.s no5,.s nt5,dI nn5,dI nm5,.sh 1 (nl5.map D.s),.sh 3 (ns5.map MatD.d),.sh 7 (Nd.ds nk5)],none),(54,dP g8 0,none),(55,.agg [.s no7,.s nt7,dI nn7,dI nm7,.sh 1 (nl7.map D.s),.sh 3 (ns7.map MatD.d),.sh 7 (Nd.ds nk7)],none),(56,dB ((Nd.mk no5 nt5 nn5 nm5 nl5 ns5 nk5).eqB (Nd.mk no7 nt7 nn7 nm7 nl7 ns7 nk7)),none),(57,dP g6 0,none),(58,.agg [.s no5,.s nt5,dI nn5,dI nm5,.sh 1 (nl5.map D.s),.sh 3 (ns5.map MatD.d),.sh 7 (Nd.ds nk5)],none),(59,dP g8 0,none),(60,.agg [.s no7,.s nt7,dI nn7,dI nm7,.sh 1 (nl7.map D.s),.sh 3 (ns7.map MatD.d),.sh 7 (Nd.ds nk7)],none)] [HPow,.bx g8 29 (.agg [.s no7,.s nt7,dI nn7,dI nm7,.sh 1 (nl7.map D.s),.sh 3 (ns7.map MatD.d),.sh 7 (Nd.ds nk7),dI qo7,dI qa7,dI qb7]),HErr ev,HSyn es,.bx g6 29 (.agg [.s no5,.s nt5,dI nn5,dI nm5,.sh 1 (nl5.map D.s),.sh 3 (ns5.map MatD.d),.sh 7 (Nd.ds nk5),dI qo5,dI qa5,dI qb5])] (Hn:=[HPow,.bx g8 29 (.agg [.s no7,.s nt7,dI nn7,dI nm7,.sh 1 (nl7.map D.s),.sh 3 (ns7.map MatD.d),.sh 7 (Nd.ds nk7),dI qo7,dI qa7,dI qb7]),HErr ev,HSyn es,.bx g6 29 (.agg [.s no5,.s nt5,dI nn5,dI nm5,.sh 1 (nl5.map D.s),.sh 3 (ns5.map MatD.d),.sh 7 (Nd.ds nk5),dI qo5,dI qa5,dI qb5])]) mixed J J J J HSub.rfl' J ⟨sa_p J J J (z7 J),sa_p J J J (z7 J),sa_p J J J (zal J J J),sa_p J J J (zx (d:=.agg [.s no5,.s nt5,dI nn5,dI nm5,.sh 1 (nl5.map D.s),.sh 3 (ns5.map MatD.d),.sh 7 (Nd.ds nk5),dI qo5,dI qa5,dI qb5]) J (i:=4) J Tryz.isAgg29 Tryz.sizeOf29 J J),sa_p J J J (zx (d:=.agg [.s no7,.s nt7,dI nn7,dI nm7,.sh 1 (nl7.map D.s),.sh 3 (ns7.map MatD.d),.sh 7 (Nd.ds nk7),dI qo7,dI qa7,dI qb7]) J (i:=1) J Tryz.isAgg29 Tryz.sizeOf29 J J),sa_q J J J (zcS J (.cons Cv.rfl' (.cons Cv.rfl' .nil)) Tryz.call27 (same8_c no5 nt5 nn5 nm5 nl5 ns5 nk5 qo5 qa5 qb5 no7 nt7 nn7 nm7 nl7 ns7 nk7 qo7 qa7 qb7) zbV),sa_p J J J ((zdP J J (eqb_4_eql _ _ _ _)).cv (Cv.eq (congrArg (fun b=>D.v (.bool b)) hg13))),sa_p J J J (z7 J),zeM J J J J J J (zc J zcV J).qu,zeM J J J J J J (zx (d:=.agg [.s no5,.s nt5,dI nn5,dI nm5,.sh 1 (nl5.map D.s),.sh 3 (ns5.map MatD.d),.sh 7 (Nd.ds nk5)]) J (i:=4) J Tryz.isAgg27 Tryz.sizeOf27 J J).qu,zeM J J J J J J (zc J zcV J).qu,zeM J J J J J J (zx (d:=.agg [.s no7,.s nt7,dI nn7,dI nm7,.sh 1 (nl7.map D.s),.sh 3 (ns7.map MatD.d),.sh 7 (Nd.ds nk7)]) J (i:=1) J Tryz.isAgg27 Tryz.sizeOf27 J J).qu,zeM J J J J J J (zcS J (.cons Cv.rfl' (.cons Cv.rfl' .nil)) Tryz.call31 (pSame_c (Nd.mk no5 nt5 nn5 nm5 nl5 ns5 nk5) (Nd.mk no7 nt7 nn7 nm7 nl7 ns7 nk7)) zbV),zeM J J J J J J (zc J zcV J).qu,zeM J J J J J J (zx (d:=.agg [.s no5,.s nt5,dI nn5,dI nm5,.sh 1 (nl5.map D.s),.sh 3 (ns5.map MatD.d),.sh 7 (Nd.ds nk5)]) J (i:=4) J Tryz.isAgg27 Tryz.sizeOf27 J J).qu,zeM J J J J J J (zc J zcV J).qu,zeM J J J J J J (zx (d:=.agg [.s no7,.s nt7,dI nn7,dI nm7,.sh 1 (nl7.map D.s),.sh 3 (ns7.map MatD.d),.sh 7 (Nd.ds nk7)]) J (i:=1) J Tryz.isAgg27 Tryz.sizeOf27 J J).qu,trivial⟩ ?_
             refine ok [5,7,9,10,44,45,46,47,48,49,50,51,52,53,54,55,56,57,58,59,60] J (oV J J acs Tryz.call36 (refSame_c (Nd.mk no5 nt5 nn5 nm5 nl5 ns5 nk5) (Nd.mk no7 nt7 nn7 nm7 nl7 ns7 nk7)) (oG J (zdP (r:=.bool ((Nd.mk no5 nt5 nn5 nm5 nl5 ns5 nk5).eqB (Nd.mk no7 nt7 nn7 nm7 nl7 ns7 nk7)==(Nd.mk no5 nt5 nn5 nm5 nl5 ns5 nk5).eqB (Nd.mk no7 nt7 nn7 nm7 nl7 ns7 nk7))) J J (eqb_4_eql _ _ _ _)) (oR 2 J (zr J ?_))))
             exact PD.sub ((4,dB ((decide (((z8 s).pr)=((z8 t).pr))==zd3 (⟨Nd.mk no5 nt5 nn5 nm5 nl5 ns5 nk5,qo5,qa5,qb5⟩:QryD) (⟨Nd.mk no7 nt7 nn7 nm7 nl7 ns7 nk7,qo7,qa7,qb7⟩:QryD))&&((Nd.mk no5 nt5 nn5 nm5 nl5 ns5 nk5).eqB (Nd.mk no7 nt7 nn7 nm7 nl7 ns7 nk7)==(Nd.mk no5 nt5 nn5 nm5 nl5 ns5 nk5).eqB (Nd.mk no7 nt7 nn7 nm7 nl7 ns7 nk7))))::[(5,dP g6 0),(7,dP g8 0),(9,.s ((z8 s).pr)),(10,.s ((z8 t).pr))]) ⟨sc J (Cv.eq (congrArg (fun b=>D.v (.bool b)) (by first | (simp[hg13];done) | (simp_all;done)))),sk rfl,sk rfl,sk rfl,sk rfl,trivial⟩ hQ12
           · skip
             refine jk [5,7,9,10] J (jn J ?_)
             refine za4 17 [(44,.s ((z8 s).pr),none),(45,.s ((z8 t).pr),none),(46,dB (decide (((z8 s).pr)=((z8 t).pr))),none),(47,.agg [.s no5,.s nt5,dI nn5,dI nm5,.sh 1 (nl5.map D.s),.sh 3 (ns5.map MatD.d),.sh 7 (Nd.ds nk5),dI qo5,dI qa5,dI qb5],none),(48,.agg [.s no7,.s nt7,dI nn7,dI nm7,.sh 1 (nl7.map D.s),.sh 3 (ns7.map MatD.d),.sh 7 (Nd.ds nk7),dI qo7,dI qa7,dI qb7],none),(49,dB (zd3 (⟨Nd.mk no5 nt5 nn5 nm5 nl5 ns5 nk5,qo5,qa5,qb5⟩:QryD) (⟨Nd.mk no7 nt7 nn7 nm7 nl7 ns7 nk7,qo7,qa7,qb7⟩:QryD)),none),(50,dB false,none),(51,dB false,none),(52,.v undef,none),(53,.v undef,none),(54,.v undef,none),(55,.v undef,none),(56,.v undef,none),(57,.v undef,none),(58,.v undef,none),(59,.v undef,none),(60,.v undef,none)] [HPow,.bx g8 29 (.agg [.s no7,.s nt7,dI nn7,dI nm7,.sh 1 (nl7.map D.s),.sh 3 (ns7.map MatD.d),.sh 7 (Nd.ds nk7),dI qo7,dI qa7,dI qb7]),HErr ev,HSyn es,.bx g6 29 (.agg [.s no5,.s nt5,dI nn5,dI nm5,.sh 1 (nl5.map D.s),.sh 3 (ns5.map MatD.d),.sh 7 (Nd.ds nk5),dI qo5,dI qa5,dI qb5])] (Hn:=[HPow,.bx g8 29 (.agg [.s no7,.s nt7,dI nn7,dI nm7,.sh 1 (nl7.map D.s),.sh 3 (ns7.map MatD.d),.sh 7 (Nd.ds nk7),dI qo7,dI qa7,dI qb7]),HErr ev,HSyn es,.bx g6 29 (.agg [.s no5,.s nt5,dI nn5,dI nm5,.sh 1 (nl5.map D.s),.sh 3 (ns5.map MatD.d),.sh 7 (Nd.ds nk5),dI qo5,dI qa5,dI qb5])]) mixed J J J J HSub.rfl' J ⟨sa_p J J J (z7 J),sa_p J J J (z7 J),sa_p J J J (zal J J J),sa_p J J J (zx (d:=.agg [.s no5,.s nt5,dI nn5,dI nm5,.sh 1 (nl5.map D.s),.sh 3 (ns5.map MatD.d),.sh 7 (Nd.ds nk5),dI qo5,dI qa5,dI qb5]) J (i:=4) J Tryz.isAgg29 Tryz.sizeOf29 J J),sa_p J J J (zx (d:=.agg [.s no7,.s nt7,dI nn7,dI nm7,.sh 1 (nl7.map D.s),.sh 3 (ns7.map MatD.d),.sh 7 (Nd.ds nk7),dI qo7,dI qa7,dI qb7]) J (i:=1) J Tryz.isAgg29 Tryz.sizeOf29 J J),sa_q J J J (zcS J (.cons Cv.rfl' (.cons Cv.rfl' .nil)) Tryz.call27 (same8_c no5 nt5 nn5 nm5 nl5 ns5 nk5 qo5 qa5 qb5 no7 nt7 nn7 nm7 nl7 ns7 nk7 qo7 qa7 qb7) zbV),sa_p J J J ((zdP J J (eqb_4_eql _ _ _ _)).cv (Cv.eq (congrArg (fun b=>D.v (.bool b)) hg13))),sa_p J J J (z7 J),sa_s J J J J J J (by decide),sa_s rfl rfl rfl rfl rfl rfl (by decide),sa_s rfl rfl rfl rfl rfl rfl (by decide),sa_s rfl rfl rfl rfl rfl rfl (by decide),sa_s rfl rfl rfl rfl rfl rfl (by decide),sa_s rfl rfl rfl rfl rfl rfl (by decide),sa_s rfl rfl rfl rfl rfl rfl (by decide),sa_s rfl rfl rfl rfl rfl rfl (by decide),sa_s rfl rfl rfl rfl rfl rfl (by decide),trivial⟩ ?_
             refine ok [5,7,9,10,44,45,46,47,48,49,50,51,52,53,54,55,56,57,58,59,60] J (oR 4 J (zr J ?_))
             exact PD.sub ((4,dB ((decide (((z8 s).pr)=((z8 t).pr))==zd3 (⟨Nd.mk no5 nt5 nn5 nm5 nl5 ns5 nk5,qo5,qa5,qb5⟩:QryD) (⟨Nd.mk no7 nt7 nn7 nm7 nl7 ns7 nk7,qo7,qa7,qb7⟩:QryD))&&((Nd.mk no5 nt5 nn5 nm5 nl5 ns5 nk5).eqB (Nd.mk no7 nt7 nn7 nm7 nl7 ns7 nk7)==(Nd.mk no5 nt5 nn5 nm5 nl5 ns5 nk5).eqB (Nd.mk no7 nt7 nn7 nm7 nl7 ns7 nk7))))::[(5,dP g6 0),(7,dP g8 0),(9,.s ((z8 s).pr)),(10,.s ((z8 t).pr))]) ⟨sc J (Cv.eq (congrArg (fun b=>D.v (.bool b)) (by first | (simp[hg13];done) | (simp_all;done)))),sk rfl,sk rfl,sk rfl,sk rfl,trivial⟩ hQ12
         · skip
           refine zn (zo J (PD.subH (HSub.perm (zd (i:=3) J)) (pn J (PD.subH (HSub.perm (zd (i:=3) J)) (pn J (PD.subH (HSub.perm (zd (i:=2) J)) (pn J (pn J ?_))))))))
           exact zi Tryz.results8 (.cons (zt (zl J) (Cv.eq (congrArg (fun b=>D.v (.bool b)) (by rw[Bool.and_eq_true,beq_iff_eq,beq_iff_eq];refine⟨?_,rfl⟩;rw[e5,e7];exact unlike_q hEe5 hEe7)))) .nil) rfl (HSub.fst 3 rfl) ⟨rfl,rfl⟩
end Lp
