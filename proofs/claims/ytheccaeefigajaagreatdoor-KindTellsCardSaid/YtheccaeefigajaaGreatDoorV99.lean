import Derived.Test.YtheccaeefigajaaGreatDoorV98
set_option linter.unusedSimpArgs false
set_option linter.unusedVariables false
set_option maxHeartbeats 4000000
set_option maxRecDepth 100000
namespace Lp
open Go Go.RowKit Go.Proofs
namespace HdYtheccaeefigajaaGreatDoorV99
theorem zed:∀ w,((#[⟨"Op",9,0,false, "", "",0⟩,⟨"Text",9,1,false, "", "",16⟩,⟨"N",3,2,false, "", "",32⟩,⟨"Mode",3,3,false, "", "",40⟩,⟨"Names",23,4,false, "", "",48⟩,⟨"Matchers",24,5,false, "", "",72⟩,⟨"Kids",25,6,false, "", "",96⟩]:Array Field).mapM fun f=>do pure (f.offset,←Go.sizeOf f.type):Sem (Array (Nat×Nat))).run Tryz.prog w=.ok ([(0,1),(1,1),(2,1),(3,1),(4,1),(5,1),(6,1)]:List (Nat×Nat)).toArray w:=fun _=>by kernel_rfl
theorem zbr (b o:Nat):∀ w,(Instr.fieldAt 135 (.pointer (some ⟨b,o,none⟩)) 0).run Tryz.prog w=.ok (.pointer (some ⟨b,o+0,none⟩)) w:=fun _=>by kernel_rfl
theorem zcB (b o:Nat):∀ w,(Instr.fieldAt 135 (.pointer (some ⟨b,o,none⟩)) 2).run Tryz.prog w=.ok (.pointer (some ⟨b,o+2,none⟩)) w:=fun _=>by kernel_rfl
theorem zaA (b o:Nat):∀ w,(Instr.fieldAt 27 (.pointer (some ⟨b,o,none⟩)) 1).run Tryz.prog w=.ok (.pointer (some ⟨b,o+1,none⟩)) w:=fun _=>by kernel_rfl
theorem zaD (b o:Nat):∀ w,(Instr.fieldAt 27 (.pointer (some ⟨b,o,none⟩)) 2).run Tryz.prog w=.ok (.pointer (some ⟨b,o+2,none⟩)) w:=fun _=>by kernel_rfl
theorem zdu (b o:Nat):∀ w,(Instr.fieldAt 27 (.pointer (some ⟨b,o,none⟩)) 3).run Tryz.prog w=.ok (.pointer (some ⟨b,o+3,none⟩)) w:=fun _=>by kernel_rfl
theorem fa_27_4 (b o:Nat):∀ w,(Instr.fieldAt 27 (.pointer (some ⟨b,o,none⟩)) 4).run Tryz.prog w=.ok (.pointer (some ⟨b,o+4,none⟩)) w:=fun _=>by kernel_rfl
theorem zap (b o:Nat):∀ w,(Instr.fieldAt 27 (.pointer (some ⟨b,o,none⟩)) 6).run Tryz.prog w=.ok (.pointer (some ⟨b,o+6,none⟩)) w:=fun _=>by kernel_rfl
theorem zX (b o:Nat):∀ w,(Instr.fieldAt 72 (.pointer (some ⟨b,o,none⟩)) 2).run Tryz.prog w=.ok (.pointer (some ⟨b,o+2,none⟩)) w:=fun _=>by kernel_rfl
end HdYtheccaeefigajaaGreatDoorV99
open HdYtheccaeefigajaaGreatDoorV99
def zbM (ev es:Value) (F:FuncId) (L:Nat) (part:Rd→Nd×Rd):Prop:=∀ (g:Nat) (s:Rd),s.l.length<L→s.n+2*(s.l.length:Int)≤2000000→0≤s.n→TOk s.l→
 CD Tryz.prog F [RB g s,HPow,HErr ev,HSyn es] [dP g 0] (NdR g ev es (part s))
theorem nd_nm {f:FuncId} {H:List Hp} {ds:List D} {g:Nat} {ev es:Value} {p:Nd×Rd} {op text:ByteArray} {n mode:Int} {names:List ByteArray} {ms:List MatD} {kids:List Nd} {s':Rd} (e:(Nd.mk op text n mode names ms kids,s')=p) (h:CD Tryz.prog f H ds (NdR g ev es p)):
 CD Tryz.prog f H ds (fun r H'=>r=.agg [.s op,.s text,dI n,dI mode,.sh 1 (names.map D.s),.sh 3 (ms.map MatD.d),.sh 7 (Nd.ds kids)]∧H'=[RB g s',HPow,HErr ev,HSyn es]):=h.to (by
 rintro r H' ⟨op2,text2,n2,mode2,names2,ms2,kids2,s2,e2,rfl,rfl⟩
 rw[←e] at e2
 injection e2 with e2 e3
 injection e2 with a1 a2 a3 a4 a5 a6 a7
 subst a1;subst a2;subst a3;subst a4;subst a5;subst a6;subst a7;subst e3
 exact⟨rfl,J⟩)
def Rd.aggN (s:Rd) (t:ByteArray):Int×Rd:=if zbk t=true then((s.number 2).1,(s.number 2).2.must za0) else(0,s)
section
variable {s s1 s2 s3 s4 s5 s6 s7 s8:Rd} {t:ByteArray} {m w:Int} {l:List ByteArray} {n:Nd} {ex:Rd→Nd×Rd}
theorem aggN_1 (h:zbk t=true) (e:(w,s1)=s.number 2) (e2:s2=s1.must za0):(w,s2)=s.aggN t:=by unfold Rd.aggN;rw[if_pos h,←e,e2]
theorem aggN_0 (h:¬zbk t=true):(0,s)=s.aggN t:=by unfold Rd.aggN;rw[if_neg h]
theorem aggN_e (e:(w,s1)=s.aggN t):Stp 0 s s1:=by
 have h:s1=(s.aggN t).2:=congrArg Prod.snd e
 rw[h];unfold Rd.aggN;split
 · exact((za3 s 2).trans (zV _ za0)).le (by omega)
 · exact Stp.rfl' s
theorem aggr_of (e1:(t,s1)=s.any 1) (e2:(m,l,s2)=s1.mode tBy zau) (e3:s3=s2.must zag) (e4:(w,s4)=s3.aggN t) (e6:(n,s6)=ex s4) (e7:s7=s6.must zaJ) (e8:s8=s7.node):(Nd.mk tAgg t w m l [] [n],s8)=s.aggr ex:=by
 unfold Rd.aggN at e4
 by_cases h:zbk t=true
 · rw[if_pos h] at e4
   have h1:w=(s3.number 2).1:=congrArg Prod.fst e4
   have h2:s4=(s3.number 2).2.must za0:=congrArg Prod.snd e4
   rw[h1]
   exact aggr_1 e1 e2 e3 h (show ((s3.number 2).1,(s3.number 2).2)=s3.number 2 from J) h2 e6 e7 e8
 · rw[if_neg h] at e4
   have h1:w=0:=congrArg Prod.fst e4
   have h2:s4=s3:=congrArg Prod.snd e4
   rw[h1]
   rw[h2] at e6
   exact aggr_0 e1 e2 e3 h e6 e7 e8
theorem must_y {s':Rd} (e:s'=s.must t) (hb:s.b=false) (hi:s.is 5 [t]=true):s'.l.length+1=s.l.length∧s'.n+2*(s'.l.length:Int)≤s.n+2*(s.l.length:Int)-2:=by
 have ht:(s.take 5 [t]).2.1=true:=by unfold Rd.take;rw[if_neg (by rw[hb,hi];simp)]
 have h:=zbB (by decide) ht
 have hw:=h.2.1.w
 rw[e];unfold Rd.w at hw;exact⟨h.1,by have h2:=hw;show (s.take 5 [t]).2.2.n+2*((s.take 5 [t]).2.2.l.length:Int)≤_;omega⟩
theorem any_yw {s':Rd} {k:Int} (e:(t,s')=s.any k) (hk:k≠0) (hb:s.b=false) (h:s.pk.k=k):s'.l.length+1=s.l.length∧s'.n+2*(s'.l.length:Int)≤s.n+2*(s.l.length:Int)-2:=by
 have h:=any_y e hk hb h
 have hw:=h.2.1.w
 unfold Rd.w at hw;exact⟨h.1,by omega⟩
theorem take_yw {s':Rd} {k:Int} {ts:List ByteArray} {q:Bool} (e:(t,q,s')=s.take k ts) (hk:k≠0) (hq:q=true):s'.l.length+1=s.l.length∧s'.n+2*(s'.l.length:Int)≤s.n+2*(s.l.length:Int)-2:=by
 have h:=take_y e hk hq
 have hw:=h.2.1.w
 unfold Rd.w at hw;exact⟨h.1,by omega⟩
end
theorem agg_s (g:Nat) (s:Rd) (ev es:Value) (L:Nat) (ex:Rd→Nd×Rd) (hev:EvOk ev) (hes:EvOk es) (hex:zbM ev es 39 L ex) (hst:∀ s,Stp 1 s (ex s).2) (hL:s.l.length<L+1) (hb:s.b=false) (hk:s.pk.k=1) (hw:s.n+2*(s.l.length:Int)≤2000000) (hn:0≤s.n) (hT:TOk s.l):
 CD Tryz.prog 220 [.bx g 72 (.agg [.sh 3 (s.l.map TokD.d),dI s.n,dB s.b]),HPow,HErr ev,HSyn es] [dP g 0] (NdR g ev es (s.aggr ex)):=by
 refine zp Tryz.func220 J (N:=33) J J (fun C=>?_)
 refine jk [0] J (jT J (oE J (zC (zv:=(.agg #[(.string ByteArray.empty),(.string ByteArray.empty),(.int .i64 0),(.int .i64 0),(.slice none 0 0),(.slice none 0 0),(.slice none 0 0)])) Tryz.zeroValue27 ⟨J,J,J,J,J,J,J,trivial⟩ (Cv.vagg (by decide))) ?_))
 rintro _ _ ⟨g1,rfl,rfl⟩
 refine oZ J (jT J (oR 1 J (OpsD.subH (HSub.perm (zc (i:=1) J)) (on J (oE J (zm [.bx g 72 (.agg [.sh 3 (s.l.map TokD.d),dI s.n,dB s.b])] [.bx g1 27 (.agg [.v (.string ByteArray.empty),.v (.string ByteArray.empty),dI 0,dI 0,dZ,dZ,dZ]),HPow,HErr ev,HSyn es] [] J J (.cons ArgC.id (.cons ArgC.id .nil)) zg Tryz.call41 (zeu g s 1 (by omega) (by omega) hT (by decide)) (.inl rfl)) ?_)))))
 rintro _ _ ⟨_,⟨t2,s2,e2,rfl,rfl⟩,rfl⟩
 obtain ⟨ka2,kb2,kc2,hT2⟩:=(zet e2).out hT
 have kz2:=zes e2 hT
 refine on J (oP J (zJ [0,1] [.const (.string (⟨#[97,103,103]⟩:ByteArray)),.tmp 5] (zv:=(.agg #[(.string ByteArray.empty),(.string ByteArray.empty),(.int .i64 0),(.int .i64 0),(.slice none 0 0),(.slice none 0 0),(.slice none 0 0)])) J J (.cons (CellD.v J) (.cons CellD.s .nil)) (Tryz.runUnderlying27) Tryz.zeroValue27 zed ⟨J,J,J,J,J,J,J,trivial⟩ J) (oE J (zC (zv:=(.agg #[(.string ByteArray.empty),(.string ByteArray.empty),(.int .i64 0),(.int .i64 0),(.slice none 0 0),(.slice none 0 0),(.slice none 0 0)])) Tryz.zeroValue27 ⟨J,J,J,J,J,J,J,trivial⟩ (Cv.vagg (by decide))) ?_))
 rintro _ _ ⟨g3,rfl,rfl⟩
 refine oE J (zi (i:=0) (X':=.agg [.v (.string (⟨#[97,103,103]⟩:ByteArray)),.s t2,dI 0,dI 0,dZ,dZ,dZ]) J J J (CellD.agg) Tryz.sizeOf27 J J J) ?_
 rintro _ _ ⟨rfl,rfl⟩
 refine on J (oZ J (jS J ?_))
 obtain ⟨kq,kw⟩:=any_yw e2 (by decide) hb hk
 refine JD.subH (HSub.turn (h':=.bx g3 27 (.agg [.s tAgg,.s t2,dI 0,dI 0,.sh 1 (([]:List ByteArray).map D.s),.sh 3 (([]:List MatD).map MatD.d),.sh 7 (Nd.ds ([]:List Nd))])) J (Hp.cv_bx (Cv.agg (.cons (Cv.str (by decide)) (.cons Cv.rfl' (.cons Cv.rfl' (.cons Cv.rfl' (.cons Cv.nil (.cons Cv.nil (.cons Cv.nil .nil)))))))))) (zf rfl (oR 1 rfl (OpsD.subH (HSub.perm (zc (i:=1) rfl)) (on rfl (oE rfl (zm [.bx g 72 (.agg [.sh 3 (s2.l.map TokD.d),dI s2.n,dB s2.b])] [.bx g3 27 (.agg [.s tAgg,.s t2,dI 0,dI 0,.sh 1 (([]:List ByteArray).map D.s),.sh 3 (([]:List MatD).map MatD.d),.sh 7 (Nd.ds ([]:List Nd))]),.bx g1 27 (.agg [.v (.string ByteArray.empty),.v (.string ByteArray.empty),dI 0,dI 0,dZ,dZ,dZ]),HPow,HErr ev,HSyn es] [] rfl rfl (.cons ArgC.id (.cons (ArgC.cv (Cv.str (by first | decide | (unfold maxLen;omega)))) (.cons (ArgC.cv (Cv.str (by first | decide | (unfold maxLen;omega)))) .nil))) zg Tryz.call157 (mode_c g s2 (⟨#[98,121]⟩:ByteArray) (⟨#[119,105,116,104,111,117,116]⟩:ByteArray) (by omega) (by omega) hT2) (.inl rfl)) ?_)))))
 rintro _ _ ⟨_,⟨m4,l4,s4,e4,rfl,rfl⟩,rfl⟩
 obtain ⟨ka4,kb4,kc4,hT4⟩:=(mode_e e4).out hT2
 refine on J (oR 3 J (oP J (zd J zdu J) (oE J (zi (i:=1) (X':=.agg [.s tAgg,.s t2,dI 0,dI m4,.sh 1 (([]:List ByteArray).map D.s),.sh 3 (([]:List MatD).map MatD.d),.sh 7 (Nd.ds ([]:List Nd))]) J J J (CellD.v J) Tryz.sizeOf3 J J J) ?_)))
 rintro _ _ ⟨rfl,rfl⟩
 refine on J (oP J (zd J fa_27_4 J) (oE J (zi (i:=1) (X':=.agg [.s tAgg,.s t2,dI 0,dI m4,.sh 1 (l4.map D.s),.sh 3 (([]:List MatD).map MatD.d),.sh 7 (Nd.ds ([]:List Nd))]) J J J (CellD.sh) Tryz.sizeOf23 J J J) ?_))
 rintro _ _ ⟨rfl,rfl⟩
 refine on J (oZ J (jk [0,2,3] J (jT J (oR 1 J (oE J (zm [.bx g 72 (.agg [.sh 3 (s4.l.map TokD.d),dI s4.n,dB s4.b])] [.bx g3 27 (.agg [.s tAgg,.s t2,dI 0,dI m4,.sh 1 (l4.map D.s),.sh 3 (([]:List MatD).map MatD.d),.sh 7 (Nd.ds ([]:List Nd))]),.bx g1 27 (.agg [.v (.string ByteArray.empty),.v (.string ByteArray.empty),dI 0,dI 0,dZ,dZ,dZ]),HPow,HErr ev,HSyn es] [] J J (.cons ArgC.id (.cons (ArgC.cv (Cv.str (by first | decide | (unfold maxLen;omega)))) .nil)) zg Tryz.call200 (zbL g s4 (⟨#[40]⟩:ByteArray) (by omega) (by omega) hT4) (.inl rfl)) ?_)))))
 rintro _ _ ⟨_,⟨s5,e5,rfl,rfl⟩,rfl⟩
 obtain ⟨ka5,kb5,kc5,hT5⟩:=(zbK e5).out hT4
 refine on J (oZ J (jS J (jT J (oP J (zd J zaA J) (oP J (ze J (i:=1) J Tryz.isAgg9 J) (oW J J acs Tryz.call146 (numbered_c t2) (oZ J ?_)))))))
 refine zct (fun (jg:Int×Rd)=>[(0,dP g 0),(2,dP g1 0),(3,dP g3 0)]) (fun (jg:Int×Rd)=>[.bx g1 27 (.agg [.v (.string ByteArray.empty),.v (.string ByteArray.empty),dI 0,dI 0,dZ,dZ,dZ]),.bx g3 27 (.agg [.s tAgg,.s t2,dI jg.1,dI m4,.sh 1 (l4.map D.s),.sh 3 (([]:List MatD).map MatD.d),.sh 7 (Nd.ds ([]:List Nd))]),.bx g 72 (.agg [.sh 3 (jg.2.l.map TokD.d),dI jg.2.n,dB jg.2.b]),HPow,HErr ev,HSyn es]) (fun (jg:Int×Rd)=>((jg.1,jg.2)=s5.aggN t2)) (fun _ hQ6=>?_) ?_
 · skip
   refine jC J (fun hc7=>?_) (fun hc7=>?_)
   · skip
     refine jT J (oR 1 J (OpsD.subH (HSub.perm (zc (i:=5) J)) (on J (OpsD.subH (HSub.perm (zc (i:=5) J)) (on J (OpsD.subH (HSub.perm (zc (i:=5) J)) (on J (OpsD.subH (HSub.perm (zc (i:=3) J)) (on J (oE J (zm [.bx g 72 (.agg [.sh 3 (s5.l.map TokD.d),dI s5.n,dB s5.b]),HPow,HErr ev,HSyn es] [.bx g3 27 (.agg [.s tAgg,.s t2,dI 0,dI m4,.sh 1 (l4.map D.s),.sh 3 (([]:List MatD).map MatD.d),.sh 7 (Nd.ds ([]:List Nd))]),.bx g1 27 (.agg [.v (.string ByteArray.empty),.v (.string ByteArray.empty),dI 0,dI 0,dZ,dZ,dZ])] [] J J (.cons ArgC.id (.cons ArgC.id .nil)) zg Tryz.call114 (rdnum_c g s5 2 ev es hev hes (by omega) (by omega) hT5 (by omega)) (.inl rfl)) ?_))))))))))
     rintro _ _ ⟨_,⟨v8,s8,e8,rfl,rfl⟩,rfl⟩
     obtain ⟨ka8,kb8,kc8,hT8⟩:=(number_e e8).out hT5
     have kv8:=zdk e8 (by omega) hT5
     refine on J (oP J (zd J zaD J) (oE J (zi (i:=4) (X':=.agg [.s tAgg,.s t2,dI v8,dI m4,.sh 1 (l4.map D.s),.sh 3 (([]:List MatD).map MatD.d),.sh 7 (Nd.ds ([]:List Nd))]) J J J (CellD.v J) Tryz.sizeOf3 J J J) ?_))
     rintro _ _ ⟨rfl,rfl⟩
     refine on J (oZ J (zf J (oR 1 J (oE J (zm [.bx g 72 (.agg [.sh 3 (s8.l.map TokD.d),dI s8.n,dB s8.b])] [HPow,HErr ev,HSyn es,.bx g3 27 (.agg [.s tAgg,.s t2,dI v8,dI m4,.sh 1 (l4.map D.s),.sh 3 (([]:List MatD).map MatD.d),.sh 7 (Nd.ds ([]:List Nd))]),.bx g1 27 (.agg [.v (.string ByteArray.empty),.v (.string ByteArray.empty),dI 0,dI 0,dZ,dZ,dZ])] [] J J (.cons ArgC.id (.cons (ArgC.cv (Cv.str (by first | decide | (unfold maxLen;omega)))) .nil)) zg Tryz.call200 (zbL g s8 (⟨#[44]⟩:ByteArray) (by omega) (by omega) hT8) (.inl rfl)) ?_))))
     rintro _ _ ⟨_,⟨s9,e9,rfl,rfl⟩,rfl⟩
     obtain ⟨ka9,kb9,kc9,hT9⟩:=(zbK e9).out hT8
     refine on J (zq J (PD.subH (HSub.perm (zc (i:=3) J)) (pn J (PD.subH (HSub.perm (zc (i:=3) J)) (pn J (PD.subH (HSub.perm (zc (i:=3) J)) (pn J (PD.subH (HSub.perm (zc (i:=3) J)) (pn J (PD.subH (HSub.perm (zc (i:=4) J)) (pn J (PD.subH (HSub.perm (zc (i:=5) J)) (pn J (pn J ?_))))))))))))))
     exact PD.sub [(0,dP g 0),(2,dP g1 0),(3,dP g3 0)] (sa J) (hQ6 (v8,s9) (aggN_1 hc7 e8 e9))
   · skip
     refine zt J (PD.subH (HSub.perm (zc (i:=5) J)) (pn J (PD.subH (HSub.perm (zc (i:=5) J)) (pn J (PD.subH (HSub.perm (zc (i:=5) J)) (pn J (PD.subH (HSub.perm (zc (i:=3) J)) (pn J (PD.subH (HSub.perm (zc (i:=4) J)) (pn J (PD.subH (HSub.perm (zc (i:=5) J)) (pn J (pn J ?_)))))))))))))
     exact PD.sub [(0,dP g 0),(2,dP g1 0),(3,dP g3 0)] (sa J) (hQ6 (0,s5) (aggN_0 (by simpa using hc7)))
 · skip
   rintro ⟨w,z⟩ hag
   replace hag:(w,z)=s5.aggN t2:=hag
   refine pk [0,2,3] J (pn J (zj (jS J ?_)))
   obtain ⟨kx1,ky1,kz1,hTj⟩:=(aggN_e hag).out hT5
   refine zf J (oR 1 J (OpsD.subH (HSub.perm (zc (i:=5) J)) (on J (OpsD.subH (HSub.perm (zc (i:=5) J)) (on J (OpsD.subH (HSub.perm (zc (i:=5) J)) (on J (OpsD.subH (HSub.perm (zc (i:=5) J)) (on J (oE J (zm [.bx g 72 (.agg [.sh 3 (z.l.map TokD.d),dI z.n,dB z.b]),HPow,HErr ev,HSyn es] [.bx g1 27 (.agg [.v (.string ByteArray.empty),.v (.string ByteArray.empty),dI 0,dI 0,dZ,dZ,dZ]),.bx g3 27 (.agg [.s tAgg,.s t2,dI w,dI m4,.sh 1 (l4.map D.s),.sh 3 (([]:List MatD).map MatD.d),.sh 7 (Nd.ds ([]:List Nd))])] [] J J (.cons ArgC.id .nil) zg Tryz.call39 (hex g z (by omega) (by omega) (by omega) hTj) (.inl rfl)) ?_))))))))))
   rintro _ _ ⟨_,⟨no10,nt10,nn10,nm10,nl10,ns10,nk10,s10,e10,rfl,rfl⟩,rfl⟩
   obtain ⟨ka10,kb10,kc10,hT10⟩:=(nd_e e10 (hst z)).out hTj
   refine on J (oE J (zL [.tmp 25] J J (.cons CellD.agg .nil) J Tryz.runUnderlying25 Tryz.sizeOf27 Tryz.zeroValue27 J J J J) ?_)
   rintro _ _ ⟨g11,rfl,rfl⟩
   refine oP J (zd J zap J) ?_
   refine OpsD.mv (Mv.freeze (K':=[(0,dP g 0),(2,dP g1 0),(3,dP g3 0),(24,dP g 0),(25,.agg [.s no10,.s nt10,dI nn10,dI nm10,.sh 1 (nl10.map D.s),.sh 3 (ns10.map MatD.d),.sh 7 (Nd.ds nk10)]),(26,.sh 7 [.agg [.s no10,.s nt10,dI nn10,dI nm10,.sh 1 (nl10.map D.s),.sh 3 (ns10.map MatD.d),.sh 7 (Nd.ds nk10)]]),(27,dP g3 6)]) [.sl (vS g11 1 1) 7 27 ([.agg [.s no10,.s nt10,dI nn10,dI nm10,.sh 1 (nl10.map D.s),.sh 3 (ns10.map MatD.d),.sh 7 (Nd.ds nk10)]])] (H1:=[.bx g 72 (.agg [.sh 3 (s10.l.map TokD.d),dI s10.n,dB s10.b]),HPow,HErr ev,HSyn es,.bx g1 27 (.agg [.v (.string ByteArray.empty),.v (.string ByteArray.empty),dI 0,dI 0,dZ,dZ,dZ]),.bx g3 27 (.agg [.s tAgg,.s t2,dI w,dI m4,.sh 1 (l4.map D.s),.sh 3 (([]:List MatD).map MatD.d),.sh 7 (Nd.ds ([]:List Nd))])]) (H1':=[.bx g 72 (.agg [.sh 3 (s10.l.map TokD.d),dI s10.n,dB s10.b]),HPow,HErr ev,HSyn es,.bx g1 27 (.agg [.v (.string ByteArray.empty),.v (.string ByteArray.empty),dI 0,dI 0,dZ,dZ,dZ]),.bx g3 27 (.agg [.s tAgg,.s t2,dI w,dI m4,.sh 1 (l4.map D.s),.sh 3 (([]:List MatD).map MatD.d),.sh 7 (Nd.ds ([]:List Nd))])]) ⟨⟨_,J,ArgC.id⟩,⟨_,J,ArgC.id⟩,⟨_,J,ArgC.id⟩,⟨_,J,ArgC.id⟩,⟨_,J,ArgC.id⟩,⟨_,J,ArgC.own (j:=0) J J⟩,⟨_,J,ArgC.id⟩,trivial⟩ (.same (.same (.same (.same (.same (.same .nil))))))) ?_
   refine oE J (zi (i:=5) (X':=.agg [.s tAgg,.s t2,dI w,dI m4,.sh 1 (l4.map D.s),.sh 3 (([]:List MatD).map MatD.d),.sh 7 [.agg [.s no10,.s nt10,dI nn10,dI nm10,.sh 1 (nl10.map D.s),.sh 3 (ns10.map MatD.d),.sh 7 (Nd.ds nk10)]]]) J J J (CellD.sh) Tryz.sizeOf25 J J J) ?_
   rintro _ _ ⟨rfl,rfl⟩
   refine on J (oZ J (jT J (oR 1 J (oE J (zm [.bx g 72 (.agg [.sh 3 (s10.l.map TokD.d),dI s10.n,dB s10.b])] [HPow,HErr ev,HSyn es,.bx g1 27 (.agg [.v (.string ByteArray.empty),.v (.string ByteArray.empty),dI 0,dI 0,dZ,dZ,dZ]),.bx g3 27 (.agg [.s tAgg,.s t2,dI w,dI m4,.sh 1 (l4.map D.s),.sh 3 (([]:List MatD).map MatD.d),.sh 7 [.agg [.s no10,.s nt10,dI nn10,dI nm10,.sh 1 (nl10.map D.s),.sh 3 (ns10.map MatD.d),.sh 7 (Nd.ds nk10)]]])] [] J J (.cons ArgC.id (.cons (ArgC.cv (Cv.str (by first | decide | (unfold maxLen;omega)))) .nil)) zg Tryz.call200 (zbL g s10 (⟨#[41]⟩:ByteArray) (by omega) (by omega) hT10) (.inl rfl)) ?_))))
   rintro _ _ ⟨_,⟨s12,e12,rfl,rfl⟩,rfl⟩
   obtain ⟨ka12,kb12,kc12,hT12⟩:=(zbK e12).out hT10
   refine on J (oZ J (jT J (oR 1 J (oP J (zH (d:=.agg [.s tAgg,.s t2,dI w,dI m4,.sh 1 (l4.map D.s),.sh 3 (([]:List MatD).map MatD.d),.sh 7 [.agg [.s no10,.s nt10,dI nn10,dI nm10,.sh 1 (nl10.map D.s),.sh 3 (ns10.map MatD.d),.sh 7 (Nd.ds nk10)]]]) J (i:=5) J Tryz.isAgg27 Tryz.sizeOf27 J J) (oE J (zm [.bx g 72 (.agg [.sh 3 (s12.l.map TokD.d),dI s12.n,dB s12.b])] [HPow,HErr ev,HSyn es,.bx g1 27 (.agg [.v (.string ByteArray.empty),.v (.string ByteArray.empty),dI 0,dI 0,dZ,dZ,dZ]),.bx g3 27 (.agg [.s tAgg,.s t2,dI w,dI m4,.sh 1 (l4.map D.s),.sh 3 (([]:List MatD).map MatD.d),.sh 7 [.agg [.s no10,.s nt10,dI nn10,dI nm10,.sh 1 (nl10.map D.s),.sh 3 (ns10.map MatD.d),.sh 7 (Nd.ds nk10)]]])] [] J J (.cons ArgC.id (.cons ArgC.id .nil)) zg Tryz.call158 (zei g s12 (.s tAgg) (.s t2) (dI w) (dI m4) (.sh 1 (l4.map D.s)) (.sh 3 (([]:List MatD).map MatD.d)) (.sh 7 [.agg [.s no10,.s nt10,dI nn10,dI nm10,.sh 1 (nl10.map D.s),.sh 3 (ns10.map MatD.d),.sh 7 (Nd.ds nk10)]]) (by omega) (by omega) hT12) (.inl rfl)) ?_)))))
   rintro _ _ ⟨_,⟨s13,e13,rfl,rfl⟩,rfl⟩
   obtain ⟨ka13,kb13,kc13,hT13⟩:=(zeh e13).out hT12
   refine on J (oE J (zi (i:=4) (X':=.agg [.s tAgg,.s t2,dI w,dI m4,.sh 1 (l4.map D.s),.sh 3 (([]:List MatD).map MatD.d),.sh 7 [.agg [.s no10,.s nt10,dI nn10,dI nm10,.sh 1 (nl10.map D.s),.sh 3 (ns10.map MatD.d),.sh 7 (Nd.ds nk10)]]]) J J J (CellD.agg) Tryz.sizeOf27 J J J) ?_)
   rintro _ _ ⟨rfl,rfl⟩
   refine on J (oZ J (jk [2] J (zn J (pn J ?_))))
   exact zh Tryz.results220 (.cons (zU (i:=4) J J Tryz.isAgg27 Tryz.sizeOf27 J J) .nil) J (HSub.fst 4 J) ⟨tAgg,t2,w,m4,l4,([]:List MatD),[(Nd.mk no10 nt10 nn10 nm10 nl10 ns10 nk10)],⟨s13.l,s13.n,s13.b⟩,aggr_of e2 e4 e5 hag e10 e12 e13,J,J⟩
theorem prim_s (g:Nat) (s:Rd) (ev es:Value) (L:Nat) (ex:Rd→Nd×Rd) (hev:EvOk ev) (hes:EvOk es) (hex:zbM ev es 39 L ex) (hst:∀ s,Stp 1 s (ex s).2) (hL:s.l.length<L+1) (hw:s.n+2*(s.l.length:Int)≤2000000) (hn:0≤s.n) (hT:TOk s.l):
 CD Tryz.prog 201 [.bx g 72 (.agg [.sh 3 (s.l.map TokD.d),dI s.n,dB s.b]),HPow,HErr ev,HSyn es] [dP g 0] (NdR g ev es (s.prim rmD ex)):=by
 refine zp Tryz.func201 J (N:=71) J J (fun C=>?_)
 refine jk [0] J (jT J (oE J (zC (zv:=(.agg #[(.string ByteArray.empty),(.string ByteArray.empty),(.int .i64 0),(.int .i64 0),(.slice none 0 0),(.slice none 0 0),(.slice none 0 0)])) Tryz.zeroValue27 ⟨J,J,J,J,J,J,J,trivial⟩ (Cv.vagg (by decide))) ?_))
 rintro _ _ ⟨g1,rfl,rfl⟩
 refine oZ J (jT J (oR 1 J (OpsD.subH (HSub.perm (zc (i:=1) J)) (on J (oE J (zm [.bx g 72 (.agg [.sh 3 (s.l.map TokD.d),dI s.n,dB s.b])] [.bx g1 27 (.agg [.v (.string ByteArray.empty),.v (.string ByteArray.empty),dI 0,dI 0,dZ,dZ,dZ]),HPow,HErr ev,HSyn es] [] J J (.cons ArgC.id .nil) zg Tryz.call113 (peek_c g s (by omega) (by omega) hT) (.inl rfl)) ?_)))))
 rintro _ _ ⟨_,⟨rfl,rfl⟩,rfl⟩
 refine on J (oE J (zC (zv:=(.agg #[(.int .i64 0),(.int .i64 0),(.string ByteArray.empty)])) Tryz.zeroValue135 ⟨J,J,J,trivial⟩ (Cv.vagg (by decide))) ?_)
 rintro _ _ ⟨g3,rfl,rfl⟩
 refine oE J (zi (i:=0) (X':=TokD.d s.pk) J J J (CellD.agg) Tryz.sizeOf135 J J J) ?_
 rintro _ _ ⟨rfl,rfl⟩
 refine on J (oZ J (jS J (jB J (jT J (oR 2 J (oP J (zd J zX J) (oP J (ze J (i:=1) J Tryz.isAgg4 J) (oR 1 J (oZ J ?_)))))))))
 refine jC J (fun hc4=>?_) (fun hc4=>?_)
 · skip
   refine jT J (oP J (zJ [] [] (zv:=(.agg #[(.string ByteArray.empty),(.string ByteArray.empty),(.int .i64 0),(.int .i64 0),(.slice none 0 0),(.slice none 0 0),(.slice none 0 0)])) J J (.nil) (Tryz.runUnderlying27) Tryz.zeroValue27 zed ⟨rfl,J,J,J,J,J,J,trivial⟩ J) (oE J (zi (i:=2) (X':=.agg [.v (.string ByteArray.empty),.v (.string ByteArray.empty),dI 0,dI 0,dZ,dZ,dZ]) J J J (CellD.agg) Tryz.sizeOf27 J J J) ?_))
   rintro _ _ ⟨rfl,rfl⟩
   refine on J (oZ J (jk [0,2] J (zn J (zo (zk (PD.subH (HSub.perm (zc (i:=5) J)) (pn J (PD.subH (HSub.perm (zc (i:=5) J)) (pn J (PD.subH (HSub.perm (zc (i:=5) J)) (pn J (PD.subH (HSub.perm (zc (i:=4) J)) (pn J (pn J ?_))))))))))))))
   exact zh Tryz.results201 (.cons (zx (zU (X:=.agg [.v (.string ByteArray.empty),.v (.string ByteArray.empty),dI 0,dI 0,dZ,dZ,dZ]) (d:=.agg [.v (.string ByteArray.empty),.v (.string ByteArray.empty),dI 0,dI 0,dZ,dZ,dZ]) (i:=5) J J Tryz.isAgg27 Tryz.sizeOf27 J J) (Cv.agg (.cons ((Cv.str (by first | decide | (unfold maxLen;omega)))) (.cons ((Cv.str (by first | decide | (unfold maxLen;omega)))) (.cons Cv.rfl' (.cons Cv.rfl' (.cons (Cv.nil) (.cons (Cv.nil) (.cons (Cv.nil) .nil))))))))) .nil) rfl (HSub.fst 4 rfl) ⟨ByteArray.empty,ByteArray.empty,0,0,[],[],[],⟨s.l,s.n,s.b⟩,prim_bad rmD hc4,rfl,rfl⟩
 · skip
   have hbf:s.b=false:=by simpa using hc4
   refine jT J (oP J (zd J zbr J) (oP J (ze J (i:=0) J Tryz.isAgg3 J) (oP J (zD J J J) (oR 1 J (oZ J (jk [0,2,3,15] J ?_))))))
   refine jD J (fun hc5=>?_) (fun hc5=>?_)
   · skip
     refine jT J (oR 2 J (OpsD.subH (HSub.perm (zc (i:=5) J)) (on J (OpsD.subH (HSub.perm (zc (i:=5) J)) (on J (OpsD.subH (HSub.perm (zc (i:=5) J)) (on J (OpsD.subH (HSub.perm (zc (i:=4) J)) (on J (oE J (zm [.bx g 72 (.agg [.sh 3 (s.l.map TokD.d),dI s.n,dB s.b]),HPow,HErr ev,HSyn es] [.bx g3 135 (TokD.d s.pk),.bx g1 27 (.agg [.v (.string ByteArray.empty),.v (.string ByteArray.empty),dI 0,dI 0,dZ,dZ,dZ])] [] J J (.cons ArgC.id (.cons ArgC.id .nil)) zg Tryz.call114 (rdnum_c g s 2 ev es hev hes (by omega) (by omega) hT (by omega)) (.inl rfl)) ?_))))))))))
     rintro _ _ ⟨_,⟨v6,s6,e6,rfl,rfl⟩,rfl⟩
     obtain ⟨ka6,kb6,kc6,hT6⟩:=(number_e e6).out hT
     have kv6:=zdk e6 (by omega) hT
     refine on J (oP J (zJ [0,2] [.const (.string (⟨#[110,117,109]⟩:ByteArray)),.tmp 21] (zv:=(.agg #[(.string ByteArray.empty),(.string ByteArray.empty),(.int .i64 0),(.int .i64 0),(.slice none 0 0),(.slice none 0 0),(.slice none 0 0)])) J J (.cons (CellD.v J) (.cons (CellD.v J) .nil)) (Tryz.runUnderlying27) Tryz.zeroValue27 zed ⟨J,J,J,J,J,J,J,trivial⟩ J) (oE J (zm [.bx g 72 (.agg [.sh 3 (s6.l.map TokD.d),dI s6.n,dB s6.b])] [HPow,HErr ev,HSyn es,.bx g3 135 (TokD.d s.pk),.bx g1 27 (.agg [.v (.string ByteArray.empty),.v (.string ByteArray.empty),dI 0,dI 0,dZ,dZ,dZ])] [] J J (.cons ArgC.id (.cons ArgC.id .nil)) zg Tryz.call158 (zei g s6 (.v (.string (⟨#[110,117,109]⟩:ByteArray))) (.v (.string ByteArray.empty)) (dI v6) (dI 0) (dZ) (dZ) (dZ) (by omega) (by omega) hT6) (.inl rfl)) ?_))
     rintro _ _ ⟨_,⟨s7,e7,rfl,rfl⟩,rfl⟩
     obtain ⟨ka7,kb7,kc7,hT7⟩:=(zeh e7).out hT6
     refine on J (oE J (zi (i:=5) (X':=.agg [.v (.string (⟨#[110,117,109]⟩:ByteArray)),.v (.string ByteArray.empty),dI v6,dI 0,dZ,dZ,dZ]) J J J (CellD.agg) Tryz.sizeOf27 J J J) ?_)
     rintro _ _ ⟨rfl,rfl⟩
     refine on J (oZ J (zn J (zo (zk (pn J ?_)))))
     exact zh Tryz.results201 (.cons (zx (zU (X:=.agg [.v (.string (⟨#[110,117,109]⟩:ByteArray)),.v (.string ByteArray.empty),dI v6,dI 0,dZ,dZ,dZ]) (d:=.agg [.v (.string (⟨#[110,117,109]⟩:ByteArray)),.v (.string ByteArray.empty),dI v6,dI 0,dZ,dZ,dZ]) (i:=5) J J Tryz.isAgg27 Tryz.sizeOf27 J J) (Cv.agg (.cons ((Cv.str (by first | decide | (unfold maxLen;omega)))) (.cons ((Cv.str (by first | decide | (unfold maxLen;omega)))) (.cons Cv.rfl' (.cons Cv.rfl' (.cons (Cv.nil) (.cons (Cv.nil) (.cons (Cv.nil) .nil))))))))) .nil) rfl (HSub.fst 4 rfl) ⟨(⟨#[110,117,109]⟩:ByteArray),ByteArray.empty,v6,0,[],[],[],⟨s7.l,s7.n,s7.b⟩,prim_num rmD (by simpa using hc4) hc5 e6 e7,rfl,rfl⟩
   · skip
     refine jT J (oR 1 J (oE J (Qu.ef (d:=.sh 1 ([(⟨#[40]⟩:ByteArray)].map D.s)) ((zy [.const (.string (⟨#[40]⟩:ByteArray))] J J (.cons (CellD.v J) .nil) J Tryz.runUnderlying23 Tryz.sizeOf9 Tryz.zeroValue9 J J J J).cv (Cv.shs (.cons (Cv.str (by first | decide | (unfold maxLen;omega))) .nil)))) ?_))
     rintro _ _ ⟨rfl,rfl⟩
     refine OpsD.subH (HSub.perm (zc (i:=1) J)) (on J (oE J (zm [.bx g 72 (.agg [.sh 3 (s.l.map TokD.d),dI s.n,dB s.b])] [.bx g3 135 (TokD.d s.pk),.bx g1 27 (.agg [.v (.string ByteArray.empty),.v (.string ByteArray.empty),dI 0,dI 0,dZ,dZ,dZ]),HPow,HErr ev,HSyn es] [] J J (.cons ArgC.id (.cons ArgC.id (.cons ArgC.id .nil))) zg Tryz.call112 (is_c g s 5 [(⟨#[40]⟩:ByteArray)] (by omega) (by omega) hT) (.inl rfl)) ?_))
     rintro _ _ ⟨_,⟨rfl,rfl⟩,rfl⟩
     refine on J (oR 1 J (oZ J ?_))
     refine jC J (fun hc9=>?_) (fun hc9=>?_)
     · skip
       refine jT J (oR 1 J (oE J (zm [.bx g 72 (.agg [.sh 3 (s.l.map TokD.d),dI s.n,dB s.b])] [.bx g3 135 (TokD.d s.pk),.bx g1 27 (.agg [.v (.string ByteArray.empty),.v (.string ByteArray.empty),dI 0,dI 0,dZ,dZ,dZ]),HPow,HErr ev,HSyn es] [] J J (.cons ArgC.id (.cons (ArgC.cv (Cv.str (by first | decide | (unfold maxLen;omega)))) .nil)) zg Tryz.call200 (zbL g s (⟨#[40]⟩:ByteArray) (by omega) (by omega) hT) (.inl rfl)) ?_))
       rintro _ _ ⟨_,⟨s10,e10,rfl,rfl⟩,rfl⟩
       obtain ⟨ka10,kb10,kc10,hT10⟩:=(zbK e10).out hT
       refine on J (oZ J (jS J ?_))
       obtain ⟨kq,kw⟩:=must_y e10 hbf hc9
       refine zf J (oR 1 J (OpsD.subH (HSub.perm (zc (i:=5) J)) (on J (OpsD.subH (HSub.perm (zc (i:=5) J)) (on J (OpsD.subH (HSub.perm (zc (i:=5) J)) (on J (OpsD.subH (HSub.perm (zc (i:=3) J)) (on J (oE J (zm [.bx g 72 (.agg [.sh 3 (s10.l.map TokD.d),dI s10.n,dB s10.b]),HPow,HErr ev,HSyn es] [.bx g3 135 (TokD.d s.pk),.bx g1 27 (.agg [.v (.string ByteArray.empty),.v (.string ByteArray.empty),dI 0,dI 0,dZ,dZ,dZ])] [] J J (.cons ArgC.id .nil) zg Tryz.call39 (hex g s10 (by omega) (by omega) (by omega) hT10) (.inl rfl)) ?_))))))))))
       rintro _ _ ⟨_,⟨no11,nt11,nn11,nm11,nl11,ns11,nk11,s11,e11,rfl,rfl⟩,rfl⟩
       obtain ⟨ka11,kb11,kc11,hT11⟩:=(nd_e e11 (hst s10)).out hT10
       refine on J (oE J (zC (zv:=(.agg #[(.string ByteArray.empty),(.string ByteArray.empty),(.int .i64 0),(.int .i64 0),(.slice none 0 0),(.slice none 0 0),(.slice none 0 0)])) Tryz.zeroValue27 ⟨J,J,J,J,J,J,J,trivial⟩ (Cv.vagg (by decide))) ?_)
       rintro _ _ ⟨g12,rfl,rfl⟩
       refine oE J (zi (i:=0) (X':=.agg [.s no11,.s nt11,dI nn11,dI nm11,.sh 1 (nl11.map D.s),.sh 3 (ns11.map MatD.d),.sh 7 (Nd.ds nk11)]) J J J (CellD.agg) Tryz.sizeOf27 J J J) ?_
       rintro _ _ ⟨rfl,rfl⟩
       refine on J (oZ J (jk [0,2,4] J (jT J (oR 1 J (OpsD.subH (HSub.perm (zc (i:=1) J)) (on J (oE J (zm [.bx g 72 (.agg [.sh 3 (s11.l.map TokD.d),dI s11.n,dB s11.b])] [.bx g12 27 (.agg [.s no11,.s nt11,dI nn11,dI nm11,.sh 1 (nl11.map D.s),.sh 3 (ns11.map MatD.d),.sh 7 (Nd.ds nk11)]),HPow,HErr ev,HSyn es,.bx g3 135 (TokD.d s.pk),.bx g1 27 (.agg [.v (.string ByteArray.empty),.v (.string ByteArray.empty),dI 0,dI 0,dZ,dZ,dZ])] [] J J (.cons ArgC.id (.cons (ArgC.cv (Cv.str (by first | decide | (unfold maxLen;omega)))) .nil)) zg Tryz.call200 (zbL g s11 (⟨#[41]⟩:ByteArray) (by omega) (by omega) hT11) (.inl rfl)) ?_)))))))
       rintro _ _ ⟨_,⟨s13,e13,rfl,rfl⟩,rfl⟩
       obtain ⟨ka13,kb13,kc13,hT13⟩:=(zbK e13).out hT11
       refine on J (oZ J (jT J (oP J (zH (d:=.agg [.s no11,.s nt11,dI nn11,dI nm11,.sh 1 (nl11.map D.s),.sh 3 (ns11.map MatD.d),.sh 7 (Nd.ds nk11)]) J (i:=1) J Tryz.isAgg27 Tryz.sizeOf27 J J) (oE J (zi (i:=6) (X':=.agg [.s no11,.s nt11,dI nn11,dI nm11,.sh 1 (nl11.map D.s),.sh 3 (ns11.map MatD.d),.sh 7 (Nd.ds nk11)]) J J J (CellD.agg) Tryz.sizeOf27 J J J) ?_))))
       rintro _ _ ⟨rfl,rfl⟩
       refine on J (oZ J (zn J (zo (zk (PD.subH (HSub.perm (zc (i:=4) J)) (pn J (PD.subH (HSub.perm (zc (i:=4) J)) (pn J (PD.subH (HSub.perm (zc (i:=4) J)) (pn J (PD.subH (HSub.perm (zc (i:=3) J)) (pn J (pn J ?_)))))))))))))
       exact zh Tryz.results201 (.cons (zU (i:=6) J J Tryz.isAgg27 Tryz.sizeOf27 J J) .nil) J (HSub.fst 4 J) ⟨no11,nt11,nn11,nm11,nl11,ns11,nk11,⟨s13.l,s13.n,s13.b⟩,prim_brk rmD (by simpa using hc4) hc5 hc9 e10 e11 e13,rfl,rfl⟩
     · skip
       refine jS J (jk [0,2,3] J ?_)
       refine zR 35 ((decide (s.pk.k=(1:Int))&&hasN aggN s.pk.t)) [.bx g 72 (.agg [.sh 3 (s.l.map TokD.d),dI s.n,dB s.b]),.bx g3 135 (TokD.d s.pk),.bx g1 27 (.agg [.v (.string ByteArray.empty),.v (.string ByteArray.empty),dI 0,dI 0,dZ,dZ,dZ]),HPow,HErr ev,HSyn es] (fun _ hQ14=>?_) ?_
       · skip
         by_cases hg15:s.pk.k=(1:Int)
         · skip
           refine zf J (oP J (zd J zbr J) (oP J (ze J (i:=1) J Tryz.isAgg3 J) (oP J (zD J J (decide_eq_true hg15)) (oR 1 J (oG J (zd J zcB J) (oG J (ze J (i:=1) J Tryz.isAgg9 J) (oV J J acs Tryz.call29 (Agg_c s.pk.t) (oR 2 J (zq J ?_)))))))))
           exact PD.sub ((35,dB (decide (s.pk.k=(1:Int))&&hasN aggN s.pk.t))::[(0,dP g 0),(2,dP g1 0),(3,dP g3 0)]) ⟨sc J (Cv.eq (congrArg (fun b=>D.v (.bool b)) (by first | (simp[hc4,hc5,hc9,hg15];done) | (simp_all;done)))),sk rfl,sk rfl,sk rfl,trivial⟩ hQ14
         · skip
           refine zf J (oP J (zd J zbr J) (oP J (ze J (i:=1) J Tryz.isAgg3 J) (oP J (zD J J (decide_eq_false hg15)) (oR 6 J (zq J ?_)))))
           exact PD.sub ((35,dB (decide (s.pk.k=(1:Int))&&hasN aggN s.pk.t))::[(0,dP g 0),(2,dP g1 0),(3,dP g3 0)]) ⟨sc J (Cv.eq (congrArg (fun b=>D.v (.bool b)) (by first | (simp[hc4,hc5,hc9,hg15];done) | (simp_all;done)))),sk rfl,sk rfl,sk rfl,trivial⟩ hQ14
       · skip
         refine zj ?_
         refine jC J (fun hc16=>?_) (fun hc16=>?_)
         · simp only[bA,bB,bC,bD,bE,bF,bG,bH,bI,bJ] at hc16
           refine jT J (oR 1 J (OpsD.subH (HSub.perm (zc (i:=5) J)) (on J (OpsD.subH (HSub.perm (zc (i:=5) J)) (on J (OpsD.subH (HSub.perm (zc (i:=5) J)) (on J (OpsD.subH (HSub.perm (zc (i:=3) J)) (on J (oE J (zm [.bx g 72 (.agg [.sh 3 (s.l.map TokD.d),dI s.n,dB s.b]),HPow,HErr ev,HSyn es] [.bx g3 135 (TokD.d s.pk),.bx g1 27 (.agg [.v (.string ByteArray.empty),.v (.string ByteArray.empty),dI 0,dI 0,dZ,dZ,dZ])] [] J J (.cons ArgC.id .nil) zg Tryz.call220 (agg_s g s ev es L ex hev hes hex hst (by omega) hbf (hc16).1 (by omega) (by omega) hT) (.inl rfl)) ?_))))))))))
           rintro _ _ ⟨_,⟨no17,nt17,nn17,nm17,nl17,ns17,nk17,s17,e17,rfl,rfl⟩,rfl⟩
           obtain ⟨ka17,kb17,kc17,hT17⟩:=(nd_e e17 (aggr_stp hst hbf (hc16).1)).out hT
           refine on J (oE J (zi (i:=5) (X':=.agg [.s no17,.s nt17,dI nn17,dI nm17,.sh 1 (nl17.map D.s),.sh 3 (ns17.map MatD.d),.sh 7 (Nd.ds nk17)]) J J J (CellD.agg) Tryz.sizeOf27 J J J) ?_)
           rintro _ _ ⟨rfl,rfl⟩
           refine on J (oZ J (zn J (zo (zk (pn J ?_)))))
           exact zh Tryz.results201 (.cons (zU (i:=5) J J Tryz.isAgg27 Tryz.sizeOf27 J J) .nil) J (HSub.fst 4 J) ⟨no17,nt17,nn17,nm17,nl17,ns17,nk17,⟨s17.l,s17.n,s17.b⟩,prim_agg rmD (by simpa using hc4) hc5 (by simpa using hc9) hc16 e17,rfl,rfl⟩
         · simp only[bA,bB,bC,bD,bE,bF,bG,bH,bI,bJ] at hc16
           refine jS J (jk [0,2,3] J ?_)
           refine zR 46 ((decide (s.pk.k=(1:Int))&&hasN fnN s.pk.t)) [.bx g 72 (.agg [.sh 3 (s.l.map TokD.d),dI s.n,dB s.b]),.bx g3 135 (TokD.d s.pk),.bx g1 27 (.agg [.v (.string ByteArray.empty),.v (.string ByteArray.empty),dI 0,dI 0,dZ,dZ,dZ]),HPow,HErr ev,HSyn es] (fun _ hQ18=>?_) ?_
           · skip
             by_cases hg19:s.pk.k=(1:Int)
             · skip
               refine zf J (oP J (zd J zbr J) (oP J (ze J (i:=1) J Tryz.isAgg3 J) (oP J (zD J J (decide_eq_true hg19)) (oR 1 J (oG J (zd J zcB J) (oG J (ze J (i:=1) J Tryz.isAgg9 J) (oV J J acs Tryz.call221 (Fn_c s.pk.t) (oR 2 J (zq J ?_)))))))))
               exact PD.sub ((46,dB (decide (s.pk.k=(1:Int))&&hasN fnN s.pk.t))::[(0,dP g 0),(2,dP g1 0),(3,dP g3 0)]) ⟨sc J (Cv.eq (congrArg (fun b=>D.v (.bool b)) (by first | (simp[hc4,hc5,hc9,hg19];done) | (simp_all;done)))),sk rfl,sk rfl,sk rfl,trivial⟩ hQ18
             · skip
               refine zf J (oP J (zd J zbr J) (oP J (ze J (i:=1) J Tryz.isAgg3 J) (oP J (zD J J (decide_eq_false hg19)) (oR 6 J (zq J ?_)))))
               exact PD.sub ((46,dB (decide (s.pk.k=(1:Int))&&hasN fnN s.pk.t))::[(0,dP g 0),(2,dP g1 0),(3,dP g3 0)]) ⟨sc J (Cv.eq (congrArg (fun b=>D.v (.bool b)) (by first | (simp[hc4,hc5,hc9,hg19];done) | (simp_all;done)))),sk rfl,sk rfl,sk rfl,trivial⟩ hQ18
           · skip
             refine zj ?_
             refine jC J (fun hc20=>?_) (fun hc20=>?_)
             · simp only[bA,bB,bC,bD,bE,bF,bG,bH,bI,bJ] at hc20
               refine jT J (oR 1 J (oE J (zm [.bx g 72 (.agg [.sh 3 (s.l.map TokD.d),dI s.n,dB s.b])] [.bx g3 135 (TokD.d s.pk),.bx g1 27 (.agg [.v (.string ByteArray.empty),.v (.string ByteArray.empty),dI 0,dI 0,dZ,dZ,dZ]),HPow,HErr ev,HSyn es] [] J J (.cons ArgC.id (.cons ArgC.id .nil)) zg Tryz.call41 (zeu g s 1 (by omega) (by omega) hT (by decide)) (.inl rfl)) ?_))
               rintro _ _ ⟨_,⟨t21,s21,e21,rfl,rfl⟩,rfl⟩
               obtain ⟨ka21,kb21,kc21,hT21⟩:=(zet e21).out hT
               have kz21:=zes e21 hT
               refine on J (oR 1 J (oZ J (jS J ?_)))
               have hfk:s.pk.k=1∧hasN fnN s.pk.t=true:=hc20
               obtain ⟨kq,kw⟩:=any_yw e21 (by decide) hbf hfk.1
               refine zf J (oR 1 J (oE J (zm [.bx g 72 (.agg [.sh 3 (s21.l.map TokD.d),dI s21.n,dB s21.b])] [.bx g3 135 (TokD.d s.pk),.bx g1 27 (.agg [.v (.string ByteArray.empty),.v (.string ByteArray.empty),dI 0,dI 0,dZ,dZ,dZ]),HPow,HErr ev,HSyn es] [] J J (.cons ArgC.id (.cons (ArgC.cv (Cv.str (by first | decide | (unfold maxLen;omega)))) .nil)) zg Tryz.call200 (zbL g s21 (⟨#[40]⟩:ByteArray) (by omega) (by omega) hT21) (.inl rfl)) ?_))
               rintro _ _ ⟨_,⟨s22,e22,rfl,rfl⟩,rfl⟩
               obtain ⟨ka22,kb22,kc22,hT22⟩:=(zbK e22).out hT21
               refine on J (oZ J (jT J (oR 3 J (OpsD.subH (HSub.perm (zc (i:=5) J)) (on J (OpsD.subH (HSub.perm (zc (i:=5) J)) (on J (OpsD.subH (HSub.perm (zc (i:=5) J)) (on J (OpsD.subH (HSub.perm (zc (i:=3) J)) (on J (oE J (zm [.bx g 72 (.agg [.sh 3 (s22.l.map TokD.d),dI s22.n,dB s22.b]),HPow,HErr ev,HSyn es] [.bx g3 135 (TokD.d s.pk),.bx g1 27 (.agg [.v (.string ByteArray.empty),.v (.string ByteArray.empty),dI 0,dI 0,dZ,dZ,dZ])] [] J J (.cons ArgC.id .nil) zg Tryz.call39 (hex g s22 (by omega) (by omega) (by omega) hT22) (.inl rfl)) ?_))))))))))))
               rintro _ _ ⟨_,⟨no23,nt23,nn23,nm23,nl23,ns23,nk23,s23,e23,rfl,rfl⟩,rfl⟩
               obtain ⟨ka23,kb23,kc23,hT23⟩:=(nd_e e23 (hst s22)).out hT22
               refine on J (oE J (Qu.ef (d:=.sh 7 ([(Nd.mk no23 nt23 nn23 nm23 nl23 ns23 nk23)].map Nd.d)) (zy [.tmp 62] J J (.cons CellD.agg .nil) J Tryz.runUnderlying25 Tryz.sizeOf27 Tryz.zeroValue27 J J J J)) ?_)
               rintro _ _ ⟨rfl,rfl⟩
               refine oP J (zJ [0,1,6] [.const (.string (⟨#[102,110]⟩:ByteArray)),.tmp 60,.tmp 63] (zv:=(.agg #[(.string ByteArray.empty),(.string ByteArray.empty),(.int .i64 0),(.int .i64 0),(.slice none 0 0),(.slice none 0 0),(.slice none 0 0)])) J J (.cons (CellD.v J) (.cons CellD.s (.cons CellD.sh .nil))) (Tryz.runUnderlying27) Tryz.zeroValue27 zed ⟨J,J,J,J,J,J,J,trivial⟩ J) (oE J (zm [.bx g 72 (.agg [.sh 3 (s23.l.map TokD.d),dI s23.n,dB s23.b])] [HPow,HErr ev,HSyn es,.bx g3 135 (TokD.d s.pk),.bx g1 27 (.agg [.v (.string ByteArray.empty),.v (.string ByteArray.empty),dI 0,dI 0,dZ,dZ,dZ])] [] J J (.cons ArgC.id (.cons ArgC.id .nil)) zg Tryz.call158 (zei g s23 (.v (.string (⟨#[102,110]⟩:ByteArray))) (.s t21) (dI 0) (dI 0) (dZ) (dZ) (.sh 7 ([(Nd.mk no23 nt23 nn23 nm23 nl23 ns23 nk23)].map Nd.d)) (by omega) (by omega) hT23) (.inl rfl)) ?_)
               rintro _ _ ⟨_,⟨s24,e24,rfl,rfl⟩,rfl⟩
               obtain ⟨ka24,kb24,kc24,hT24⟩:=(zeh e24).out hT23
               refine on J (oE J (zC (zv:=(.agg #[(.string ByteArray.empty),(.string ByteArray.empty),(.int .i64 0),(.int .i64 0),(.slice none 0 0),(.slice none 0 0),(.slice none 0 0)])) Tryz.zeroValue27 ⟨J,J,J,J,J,J,J,trivial⟩ (Cv.vagg (by decide))) ?_)
               rintro _ _ ⟨g25,rfl,rfl⟩
               refine oE J (zi (i:=0) (X':=.agg [.v (.string (⟨#[102,110]⟩:ByteArray)),.s t21,dI 0,dI 0,dZ,dZ,.sh 7 ([(Nd.mk no23 nt23 nn23 nm23 nl23 ns23 nk23)].map Nd.d)]) J J J (CellD.agg) Tryz.sizeOf27 J J J) ?_
               rintro _ _ ⟨rfl,rfl⟩
               refine on J (oZ J (jk [0,2,6] J (jT J (oR 1 J (OpsD.subH (HSub.perm (zc (i:=1) J)) (on J (oE J (zm [.bx g 72 (.agg [.sh 3 (s24.l.map TokD.d),dI s24.n,dB s24.b])] [.bx g25 27 (.agg [.v (.string (⟨#[102,110]⟩:ByteArray)),.s t21,dI 0,dI 0,dZ,dZ,.sh 7 ([(Nd.mk no23 nt23 nn23 nm23 nl23 ns23 nk23)].map Nd.d)]),HPow,HErr ev,HSyn es,.bx g3 135 (TokD.d s.pk),.bx g1 27 (.agg [.v (.string ByteArray.empty),.v (.string ByteArray.empty),dI 0,dI 0,dZ,dZ,dZ])] [] J J (.cons ArgC.id (.cons (ArgC.cv (Cv.str (by first | decide | (unfold maxLen;omega)))) .nil)) zg Tryz.call200 (zbL g s24 (⟨#[41]⟩:ByteArray) (by omega) (by omega) hT24) (.inl rfl)) ?_)))))))
               rintro _ _ ⟨_,⟨s26,e26,rfl,rfl⟩,rfl⟩
               obtain ⟨ka26,kb26,kc26,hT26⟩:=(zbK e26).out hT24
               refine on J (oZ J (jT J (oP J (zH (d:=.agg [.v (.string (⟨#[102,110]⟩:ByteArray)),.s t21,dI 0,dI 0,dZ,dZ,.sh 7 ([(Nd.mk no23 nt23 nn23 nm23 nl23 ns23 nk23)].map Nd.d)]) J (i:=1) J Tryz.isAgg27 Tryz.sizeOf27 J J) (oE J (zi (i:=6) (X':=.agg [.v (.string (⟨#[102,110]⟩:ByteArray)),.s t21,dI 0,dI 0,dZ,dZ,.sh 7 ([(Nd.mk no23 nt23 nn23 nm23 nl23 ns23 nk23)].map Nd.d)]) J J J (CellD.agg) Tryz.sizeOf27 J J J) ?_))))
               rintro _ _ ⟨rfl,rfl⟩
               refine on J (oZ J (zn J (zo (zk (PD.subH (HSub.perm (zc (i:=4) J)) (pn J (PD.subH (HSub.perm (zc (i:=4) J)) (pn J (PD.subH (HSub.perm (zc (i:=4) J)) (pn J (PD.subH (HSub.perm (zc (i:=3) J)) (pn J (pn J ?_)))))))))))))
               exact zh Tryz.results201 (.cons (zx (zU (X:=.agg [.v (.string (⟨#[102,110]⟩:ByteArray)),.s t21,dI 0,dI 0,dZ,dZ,.sh 7 ([(Nd.mk no23 nt23 nn23 nm23 nl23 ns23 nk23)].map Nd.d)]) (d:=.agg [.v (.string (⟨#[102,110]⟩:ByteArray)),.s t21,dI 0,dI 0,dZ,dZ,.sh 7 ([(Nd.mk no23 nt23 nn23 nm23 nl23 ns23 nk23)].map Nd.d)]) (i:=6) rfl rfl Tryz.isAgg27 Tryz.sizeOf27 rfl rfl) (Cv.agg (.cons ((Cv.str (by first | decide | (unfold maxLen;omega)))) (.cons Cv.rfl' (.cons Cv.rfl' (.cons Cv.rfl' (.cons (Cv.nil) (.cons (Cv.nil) (.cons Cv.rfl' .nil))))))))) .nil) rfl (HSub.fst 4 rfl) ⟨(⟨#[102,110]⟩:ByteArray),t21,0,0,[],[],[(Nd.mk no23 nt23 nn23 nm23 nl23 ns23 nk23)],⟨s26.l,s26.n,s26.b⟩,prim_fn rmD (by simpa using hc4) hc5 (by simpa using hc9) (by rintro ⟨a,b⟩;have h:=hc16;rcases h with h | h;exact h a;(rw[b] at h;cases h)) hfk e21 e22 e23 e24 e26,rfl,rfl⟩
             · simp only[bA,bB,bC,bD,bE,bF,bG,bH,bI,bJ] at hc20
               refine zt J (zB (zj (jT J (oR 1 J (OpsD.subH (HSub.perm (zc (i:=5) J)) (on J (OpsD.subH (HSub.perm (zc (i:=5) J)) (on J (OpsD.subH (HSub.perm (zc (i:=5) J)) (on J (OpsD.subH (HSub.perm (zc (i:=3) J)) (on J (oE J (zm [.bx g 72 (.agg [.sh 3 (s.l.map TokD.d),dI s.n,dB s.b]),HPow,HErr ev,HSyn es] [.bx g3 135 (TokD.d s.pk),.bx g1 27 (.agg [.v (.string ByteArray.empty),.v (.string ByteArray.empty),dI 0,dI 0,dZ,dZ,dZ])] [] J J (.cons ArgC.id .nil) zg Tryz.call222 (selector_c g s ev es hev hes (by omega) (by omega) hT) (.inl rfl)) ?_)))))))))))))
               rintro _ _ ⟨_,⟨no27,nt27,nn27,nm27,nl27,ns27,nk27,s27,e27,rfl,rfl⟩,rfl⟩
               obtain ⟨ka27,kb27,kc27,hT27⟩:=(nd_e e27 (selector_stp rmD s)).out hT
               refine on J (oE J (zi (i:=5) (X':=.agg [.s no27,.s nt27,dI nn27,dI nm27,.sh 1 (nl27.map D.s),.sh 3 (ns27.map MatD.d),.sh 7 (Nd.ds nk27)]) J J J (CellD.agg) Tryz.sizeOf27 J J J) ?_)
               rintro _ _ ⟨rfl,rfl⟩
               refine on J (oZ J (zn J (pn J ?_)))
               exact zh Tryz.results201 (.cons (zU (i:=5) rfl rfl Tryz.isAgg27 Tryz.sizeOf27 rfl rfl) .nil) rfl (HSub.fst 4 rfl) ⟨no27,nt27,nn27,nm27,nl27,ns27,nk27,⟨s27.l,s27.n,s27.b⟩,prim_sel rmD (by simpa using hc4) hc5 (by simpa using hc9) (by rintro ⟨a,b⟩;have h:=hc16;rcases h with h | h;exact h a;(rw[b] at h;cases h)) (by rintro ⟨a,b⟩;have h:=hc20;rcases h with h | h;exact h a;(rw[b] at h;cases h)) e27,rfl,rfl⟩
theorem unary_s (g:Nat) (s:Rd) (ev es:Value) (L:Nat) (ex:Rd→Nd×Rd) (f:Nat) (hev:EvOk ev) (hes:EvOk es) (hex:zbM ev es 39 L ex) (hst:∀ s,Stp 1 s (ex s).2) (hL:s.l.length<L+1) (ih:∀ (g:Nat) (s:Rd),s.l.length<f→s.l.length<L+1→s.n+2*(s.l.length:Int)≤2000000→0≤s.n→TOk s.l→CD Tryz.prog 181 [RB g s,HPow,HErr ev,HSyn es] [dP g 0] (NdR g ev es (za7 rmD ex f s))) (hf:s.l.length<f+1) (hw:s.n+2*(s.l.length:Int)≤2000000) (hn:0≤s.n) (hT:TOk s.l):
 CD Tryz.prog 181 [.bx g 72 (.agg [.sh 3 (s.l.map TokD.d),dI s.n,dB s.b]),HPow,HErr ev,HSyn es] [dP g 0] (NdR g ev es (za7 rmD ex (f+1) s)):=by
 refine zp Tryz.func181 J (N:=20) J J (fun C=>?_)
 refine jk [0] J (jT J (oE J (zC (zv:=(.agg #[(.string ByteArray.empty),(.string ByteArray.empty),(.int .i64 0),(.int .i64 0),(.slice none 0 0),(.slice none 0 0),(.slice none 0 0)])) Tryz.zeroValue27 ⟨J,J,J,J,J,J,J,trivial⟩ (Cv.vagg (by decide))) ?_))
 rintro _ _ ⟨g1,rfl,rfl⟩
 refine oZ J (jS J (jT J (oR 1 J (oE J (Qu.ef (d:=.sh 1 ([(⟨#[45]⟩:ByteArray)].map D.s)) ((zy [.const (.string (⟨#[45]⟩:ByteArray))] J J (.cons (CellD.v J) .nil) J Tryz.runUnderlying23 Tryz.sizeOf9 Tryz.zeroValue9 J J J J).cv (Cv.shs (.cons (Cv.str (by first | decide | (unfold maxLen;omega))) .nil)))) ?_))))
 rintro _ _ ⟨rfl,rfl⟩
 refine OpsD.subH (HSub.perm (zc (i:=1) J)) (on J (oE J (zm [.bx g 72 (.agg [.sh 3 (s.l.map TokD.d),dI s.n,dB s.b])] [.bx g1 27 (.agg [.v (.string ByteArray.empty),.v (.string ByteArray.empty),dI 0,dI 0,dZ,dZ,dZ]),HPow,HErr ev,HSyn es] [] J J (.cons ArgC.id (.cons ArgC.id (.cons ArgC.id .nil))) zg Tryz.call40 (zcV g s 5 [(⟨#[45]⟩:ByteArray)] (by omega) (by omega) hT (by decide)) (.inl rfl)) ?_))
 rintro _ _ ⟨_,⟨t2,q2,s2,e2,rfl,rfl⟩,rfl⟩
 obtain ⟨ka2,kb2,kc2,hT2⟩:=(zcU e2).out hT
 have kz2:=zcT e2 hT
 refine on J (oR 5 J (oZ J (jT J (oR 1 J (oZ J ?_)))))
 refine jC J (fun hc3=>?_) (fun hc3=>?_)
 · skip
   obtain ⟨kq,kw⟩:=take_yw e2 (by decide) hc3
   refine jT J (oR 2 J (OpsD.subH (HSub.perm (zc (i:=4) J)) (on J (OpsD.subH (HSub.perm (zc (i:=4) J)) (on J (OpsD.subH (HSub.perm (zc (i:=4) J)) (on J (OpsD.subH (HSub.perm (zc (i:=3) J)) (on J (oE J (zm [.bx g 72 (.agg [.sh 3 (s2.l.map TokD.d),dI s2.n,dB s2.b]),HPow,HErr ev,HSyn es] [.bx g1 27 (.agg [.v (.string ByteArray.empty),.v (.string ByteArray.empty),dI 0,dI 0,dZ,dZ,dZ])] [] J J (.cons ArgC.id .nil) zg Tryz.call181 (ih g s2 (by omega) (by omega) (by omega) (by omega) hT2) (.inl rfl)) ?_))))))))))
   rintro _ _ ⟨_,⟨no4,nt4,nn4,nm4,nl4,ns4,nk4,s4,e4,rfl,rfl⟩,rfl⟩
   obtain ⟨ka4,kb4,kc4,hT4⟩:=(nd_e e4 (zcS rmD hst f s2)).out hT2
   refine on J (oE J (Qu.ef (d:=.sh 7 ([(Nd.mk no4 nt4 nn4 nm4 nl4 ns4 nk4)].map Nd.d)) (zy [.tmp 14] J J (.cons CellD.agg .nil) J Tryz.runUnderlying25 Tryz.sizeOf27 Tryz.zeroValue27 J J J J)) ?_)
   rintro _ _ ⟨rfl,rfl⟩
   refine oP J (zJ [0,6] [.const (.string (⟨#[110,101,103]⟩:ByteArray)),.tmp 15] (zv:=(.agg #[(.string ByteArray.empty),(.string ByteArray.empty),(.int .i64 0),(.int .i64 0),(.slice none 0 0),(.slice none 0 0),(.slice none 0 0)])) J J (.cons (CellD.v J) (.cons CellD.sh .nil)) (Tryz.runUnderlying27) Tryz.zeroValue27 zed ⟨J,J,J,J,J,J,J,trivial⟩ J) (oE J (zm [.bx g 72 (.agg [.sh 3 (s4.l.map TokD.d),dI s4.n,dB s4.b])] [HPow,HErr ev,HSyn es,.bx g1 27 (.agg [.v (.string ByteArray.empty),.v (.string ByteArray.empty),dI 0,dI 0,dZ,dZ,dZ])] [] J J (.cons ArgC.id (.cons ArgC.id .nil)) zg Tryz.call158 (zei g s4 (.v (.string (⟨#[110,101,103]⟩:ByteArray))) (.v (.string ByteArray.empty)) (dI 0) (dI 0) (dZ) (dZ) (.sh 7 ([(Nd.mk no4 nt4 nn4 nm4 nl4 ns4 nk4)].map Nd.d)) (by omega) (by omega) hT4) (.inl rfl)) ?_)
   rintro _ _ ⟨_,⟨s5,e5,rfl,rfl⟩,rfl⟩
   obtain ⟨ka5,kb5,kc5,hT5⟩:=(zeh e5).out hT4
   refine on J (oE J (zi (i:=4) (X':=.agg [.v (.string (⟨#[110,101,103]⟩:ByteArray)),.v (.string ByteArray.empty),dI 0,dI 0,dZ,dZ,.sh 7 ([(Nd.mk no4 nt4 nn4 nm4 nl4 ns4 nk4)].map Nd.d)]) J J J (CellD.agg) Tryz.sizeOf27 J J J) ?_)
   rintro _ _ ⟨rfl,rfl⟩
   refine on J (oZ J (jk [0,2] J (zn J (zk (pn J ?_)))))
   exact zh Tryz.results181 (.cons (zx (zU (X:=.agg [.v (.string (⟨#[110,101,103]⟩:ByteArray)),.v (.string ByteArray.empty),dI 0,dI 0,dZ,dZ,.sh 7 ([(Nd.mk no4 nt4 nn4 nm4 nl4 ns4 nk4)].map Nd.d)]) (d:=.agg [.v (.string (⟨#[110,101,103]⟩:ByteArray)),.v (.string ByteArray.empty),dI 0,dI 0,dZ,dZ,.sh 7 ([(Nd.mk no4 nt4 nn4 nm4 nl4 ns4 nk4)].map Nd.d)]) (i:=4) J J Tryz.isAgg27 Tryz.sizeOf27 J J) (Cv.agg (.cons ((Cv.str (by first | decide | (unfold maxLen;omega)))) (.cons ((Cv.str (by first | decide | (unfold maxLen;omega)))) (.cons Cv.rfl' (.cons Cv.rfl' (.cons (Cv.nil) (.cons (Cv.nil) (.cons Cv.rfl' .nil))))))))) .nil) rfl (HSub.fst 4 rfl) ⟨(⟨#[110,101,103]⟩:ByteArray),ByteArray.empty,0,0,[],[],[(Nd.mk no4 nt4 nn4 nm4 nl4 ns4 nk4)],⟨s5.l,s5.n,s5.b⟩,unary_1 rmD e2 hc3 e4 e5,rfl,rfl⟩
 · skip
   refine zt J (zj (jk [0,2] J (jT J (oR 1 J (OpsD.subH (HSub.perm (zc (i:=4) J)) (on J (OpsD.subH (HSub.perm (zc (i:=4) J)) (on J (OpsD.subH (HSub.perm (zc (i:=4) J)) (on J (OpsD.subH (HSub.perm (zc (i:=3) J)) (on J (oE J (zm [.bx g 72 (.agg [.sh 3 (s2.l.map TokD.d),dI s2.n,dB s2.b]),HPow,HErr ev,HSyn es] [.bx g1 27 (.agg [.v (.string ByteArray.empty),.v (.string ByteArray.empty),dI 0,dI 0,dZ,dZ,dZ])] [] J J (.cons ArgC.id .nil) zg Tryz.call201 (prim_s g s2 ev es L ex hev hes hex hst (by omega) (by omega) (by omega) hT2) (.inl rfl)) ?_)))))))))))))
   rintro _ _ ⟨_,⟨no6,nt6,nn6,nm6,nl6,ns6,nk6,s6,e6,rfl,rfl⟩,rfl⟩
   obtain ⟨ka6,kb6,kc6,hT6⟩:=(nd_e e6 (prim_stp rmD hst s2)).out hT2
   refine on J (oE J (zi (i:=4) (X':=.agg [.s no6,.s nt6,dI nn6,dI nm6,.sh 1 (nl6.map D.s),.sh 3 (ns6.map MatD.d),.sh 7 (Nd.ds nk6)]) J J J (CellD.agg) Tryz.sizeOf27 J J J) ?_)
   rintro _ _ ⟨rfl,rfl⟩
   refine on J (oZ J (zn J (pn J ?_)))
   exact zh Tryz.results181 (.cons (zU (i:=4) J J Tryz.isAgg27 Tryz.sizeOf27 J J) .nil) J (HSub.fst 4 J) ⟨no6,nt6,nn6,nm6,nl6,ns6,nk6,⟨s6.l,s6.n,s6.b⟩,unary_0 rmD e2 (by simpa using hc3) e6,rfl,rfl⟩
end Lp
