import Derived.Test.YtheccaeefigajaaGreatDoorV99
set_option linter.unusedSimpArgs false
set_option linter.unusedVariables false
set_option maxHeartbeats 4000000
set_option maxRecDepth 100000
namespace Lp
open Go Go.RowKit Go.Proofs
namespace HdYtheccaeefigajaaGreatDoorV100
theorem zed:∀ w,((#[⟨"Op",9,0,false, "", "",0⟩,⟨"Text",9,1,false, "", "",16⟩,⟨"N",3,2,false, "", "",32⟩,⟨"Mode",3,3,false, "", "",40⟩,⟨"Names",23,4,false, "", "",48⟩,⟨"Matchers",24,5,false, "", "",72⟩,⟨"Kids",25,6,false, "", "",96⟩]:Array Field).mapM fun f=>do pure (f.offset,←Go.sizeOf f.type):Sem (Array (Nat×Nat))).run Tryz.prog w=.ok ([(0,1),(1,1),(2,1),(3,1),(4,1),(5,1),(6,1)]:List (Nat×Nat)).toArray w:=fun _=>by kernel_rfl
theorem zX (b o:Nat):∀ w,(Instr.fieldAt 72 (.pointer (some ⟨b,o,none⟩)) 2).run Tryz.prog w=.ok (.pointer (some ⟨b,o+2,none⟩)) w:=fun _=>by kernel_rfl
end HdYtheccaeefigajaaGreatDoorV100
open HdYtheccaeefigajaaGreatDoorV100
theorem level_c (g:Nat) (s:Rd) (F:FuncId) (part:Rd→Nd×Rd) (sg:List ByteArray) (L:Nat) (ev es:Value) (hp:zbM ev es F L part) (hst:∀ s,Stp 1 s (part s).2) (hcall:∀ args w,(callFunc F args).run Tryz.prog w=.ok (.enter F args) w) (hL:s.l.length<L) (hw:s.n+2*(s.l.length:Int)≤2000000) (hn:0≤s.n) (hT:TOk s.l):
 CD Tryz.prog 110 [.bx g 72 (.agg [.sh 3 (s.l.map TokD.d),dI s.n,dB s.b]),HPow,HErr ev,HSyn es] [dP g 0,.fn F [dP g 0] [],.sh 1 (sg.map D.s)] (NdR g ev es (s.level part sg)):=by
 refine zp Tryz.func110 rfl (N:=38) rfl rfl (fun C=>?_)
 refine jk [0,1,2] rfl ?_
 refine JD.bd 2 rfl (fun bd2=>?_)
 have nl2:=zbF bd2
 refine jT rfl (oE rfl (zC (zv:=(.agg #[(.string ByteArray.empty),(.string ByteArray.empty),(.int .i64 0),(.int .i64 0),(.slice none 0 0),(.slice none 0 0),(.slice none 0 0)])) Tryz.zeroValue27 ⟨rfl,rfl,rfl,rfl,rfl,rfl,rfl,trivial⟩ (Cv.vagg (by decide))) ?_)
 rintro _ _ ⟨g1,rfl,rfl⟩
 refine oZ rfl (jT rfl (oR 1 rfl (OpsD.subH (HSub.perm (zc (i:=4) rfl)) (on rfl (OpsD.subH (HSub.perm (zc (i:=4) rfl)) (on rfl (OpsD.subH (HSub.perm (zc (i:=4) rfl)) (on rfl (OpsD.subH (HSub.perm (zc (i:=4) rfl)) (on rfl (oE rfl (ef_callv [.bx g 72 (.agg [.sh 3 (s.l.map TokD.d),dI s.n,dB s.b]),HPow,HErr ev,HSyn es] [.bx g1 27 (.agg [.v (.string ByteArray.empty),.v (.string ByteArray.empty),dI 0,dI 0,dZ,dZ,dZ])] [] rfl rfl rfl (.cons ArgC.id .nil) zg hcall (hp g s (by omega) (by omega) (by omega) hT) (.inl rfl)) ?_)))))))))))
 rintro _ _ ⟨_,⟨no2,nt2,nn2,nm2,nl2,ns2,nk2,s2,e2,rfl,rfl⟩,rfl⟩
 obtain ⟨ka2,kb2,kc2,hT2⟩:=(nd_e e2 (hst s)).out hT
 refine on rfl (oE rfl (zC (zv:=(.agg #[(.string ByteArray.empty),(.string ByteArray.empty),(.int .i64 0),(.int .i64 0),(.slice none 0 0),(.slice none 0 0),(.slice none 0 0)])) Tryz.zeroValue27 ⟨rfl,rfl,rfl,rfl,rfl,rfl,rfl,trivial⟩ (Cv.vagg (by decide))) ?_)
 rintro _ _ ⟨g3,rfl,rfl⟩
 refine oE rfl (zi (i:=0) (X':=.agg [.s no2,.s nt2,dI nn2,dI nm2,.sh 1 (nl2.map D.s),.sh 3 (ns2.map MatD.d),.sh 7 (Nd.ds nk2)]) rfl rfl rfl (CellD.agg) Tryz.sizeOf27 rfl rfl rfl) ?_
 rintro _ _ ⟨rfl,rfl⟩
 refine on rfl (oZ rfl (jB rfl (JD.subH (HSub.perm (zc (i:=4) rfl)) (jn rfl (JD.subH (HSub.perm (zc (i:=4) rfl)) (jn rfl (JD.subH (HSub.perm (zc (i:=4) rfl)) (jn rfl (JD.subH (HSub.perm (zc (i:=4) rfl)) (jn rfl (JD.subH (HSub.perm (zc (i:=4) rfl)) (jn rfl (JD.subH (HSub.perm (zc (i:=5) rfl)) (jn rfl (jl3 (fun (a_:Nat) (b_:Rd) (c_:Nd)=>[(0,dP g 0),(1,.fn F [dP g 0] []),(2,.sh 1 (sg.map D.s)),(6,dP g1 0),(7,dP g3 0)]) (fun a_ b_ c_=>[.bx g1 27 (.agg [.v (.string ByteArray.empty),.v (.string ByteArray.empty),dI 0,dI 0,dZ,dZ,dZ]),.bx g3 27 (Nd.d c_),.bx g 72 (.agg [.sh 3 (b_.l.map TokD.d),dI b_.n,dB b_.b]),HPow,HErr ev,HSyn es]) (fun a_ b_ c_=>(b_.l.length<a_)∧(zbl part sg a_ c_ b_=zbl part sg (s2.l.length+1) (Nd.mk no2 nt2 nn2 nm2 nl2 ns2 nk2) s2)∧(b_.n+2*(b_.l.length:Int)≤2000001)∧(0≤b_.n)∧(TOk b_.l)∧(b_.l.length≤s.l.length)) (fun a_ b_ c_=>a_) (s2.l.length+1) s2 (Nd.mk no2 nt2 nn2 nm2 nl2 ns2 nk2) rfl (sa rfl) HSub.rfl' ⟨Nat.lt_succ_self _,rfl,(by omega),(by omega),hT2,(by omega)⟩ ?_)))))))))))))))
 rintro f z o ⟨hlf,hf,hzw,hzn,hz,hzl⟩
 refine ja rfl (jn rfl ?_)
 obtain ⟨f,rfl⟩:∃ k,f=k+1:=⟨f-1,by omega⟩
 obtain ⟨o1,o2,o3,o4,o5,o6,o7⟩:=o
 refine jn rfl (jB rfl (jT rfl (oR 2 rfl (OpsD.subH (HSub.perm (zc (i:=2) rfl)) (on rfl (oE rfl (zm [.bx g 72 (.agg [.sh 3 (z.l.map TokD.d),dI z.n,dB z.b])] [.bx g1 27 (.agg [.v (.string ByteArray.empty),.v (.string ByteArray.empty),dI 0,dI 0,dZ,dZ,dZ]),.bx g3 27 (.agg [.s o1,.s o2,dI o3,dI o4,.sh 1 (o5.map D.s),.sh 3 (o6.map MatD.d),.sh 7 (Nd.ds o7)]),HPow,HErr ev,HSyn es] [] rfl rfl (.cons ArgC.id (.cons ArgC.id (.cons ArgC.id .nil))) zg Tryz.call40 (zcV g z 5 sg (by omega) (by omega) hz (by decide)) (.inl rfl)) ?_))))))
 rintro _ _ ⟨_,⟨t4,q4,s4,e4,rfl,rfl⟩,rfl⟩
 obtain ⟨ka4,kb4,kc4,hT4⟩:=(zcU e4).out hz
 have kz4:=zcT e4 hz
 refine on rfl (oR 5 rfl (oZ rfl (jS rfl (jT rfl (oR 1 rfl (oP rfl (zaZ rfl) (oZ rfl ?_)))))))
 refine jC rfl (fun hc5=>?_) (fun hc5=>?_)
 · simp only[bA,bB,bC,bD,bE,bF,bG,bH,bI,bJ] at hc5
   have hff:=(hf.symm.trans (level_stop e4 (by simpa using hc5))).symm.trans (level_of e2)
   refine jT rfl (oP rfl (zH (d:=.agg [.s o1,.s o2,dI o3,dI o4,.sh 1 (o5.map D.s),.sh 3 (o6.map MatD.d),.sh 7 (Nd.ds o7)]) rfl (i:=2) rfl Tryz.isAgg27 Tryz.sizeOf27 rfl rfl) (oE rfl (zi (i:=1) (X':=.agg [.s o1,.s o2,dI o3,dI o4,.sh 1 (o5.map D.s),.sh 3 (o6.map MatD.d),.sh 7 (Nd.ds o7)]) rfl rfl rfl (CellD.agg) Tryz.sizeOf27 rfl rfl rfl) ?_))
   rintro _ _ ⟨rfl,rfl⟩
   refine on rfl (oZ rfl (zn rfl (zk (zo (zal (zo (PD.subH (HSub.perm (zc (i:=5) rfl)) (pn rfl (PD.subH (HSub.perm (zc (i:=5) rfl)) (pn rfl (PD.subH (HSub.perm (zc (i:=5) rfl)) (pn rfl (PD.subH (HSub.perm (zc (i:=3) rfl)) (pn rfl (pn rfl ?_)))))))))))))))
   exact zh Tryz.results110 (.cons (zU (i:=4) rfl rfl Tryz.isAgg27 Tryz.sizeOf27 rfl rfl) .nil) rfl (HSub.fst 4 rfl) ⟨o1,o2,o3,o4,o5,o6,o7,⟨s4.l,s4.n,s4.b⟩,hff,rfl,rfl⟩
 · simp only[bA,bB,bC,bD,bE,bF,bG,bH,bI,bJ] at hc5
   obtain ⟨kq,kw⟩:=take_yw e4 (by decide) (by simpa using hc5)
   refine zt rfl (zj (jT rfl (oR 1 rfl (oE rfl (zm [.bx g 72 (.agg [.sh 3 (s4.l.map TokD.d),dI s4.n,dB s4.b])] [.bx g1 27 (.agg [.v (.string ByteArray.empty),.v (.string ByteArray.empty),dI 0,dI 0,dZ,dZ,dZ]),.bx g3 27 (.agg [.s o1,.s o2,dI o3,dI o4,.sh 1 (o5.map D.s),.sh 3 (o6.map MatD.d),.sh 7 (Nd.ds o7)]),HPow,HErr ev,HSyn es] [] rfl rfl (.cons ArgC.id (.cons (ArgC.cv (Cv.str (by first | decide | (unfold maxLen;omega)))) (.cons (ArgC.cv (Cv.str (by first | decide | (unfold maxLen;omega)))) .nil))) zg Tryz.call157 (mode_c g s4 (⟨#[111,110]⟩:ByteArray) (⟨#[105,103,110,111,114,105,110,103]⟩:ByteArray) (by omega) (by omega) hT4) (.inl rfl)) ?_))))
   rintro _ _ ⟨_,⟨m6,l6,s6,e6,rfl,rfl⟩,rfl⟩
   obtain ⟨ka6,kb6,kc6,hT6⟩:=(mode_e e6).out hT4
   refine on rfl (oR 5 rfl (oZ rfl ?_))
   obtain ⟨⟨p1,p2,p3,p4,p5,p6,p7⟩,z2,en⟩:∃ (p:Nd) (s1:Rd),(p,s1)=part s6:=⟨_,_,rfl⟩
   obtain ⟨ka9,kb9,kc9,hT9⟩:=(nd_e en (hst s6)).out hT6
   refine JD.subH (HSub.perm (zc (i:=5) rfl)) (jn rfl (JD.subH (HSub.perm (zc (i:=5) rfl)) (jn rfl (JD.subH (HSub.perm (zc (i:=5) rfl)) (jn rfl (JD.subH (HSub.perm (zc (i:=3) rfl)) (jn rfl (jk [0,1,2,6,7,8,9,10,11,14,15,16,17,18,19,20,21,23,24,25,26,27] rfl (jn rfl ?_)))))))))
   refine zaX 9 [(28,dP g 0,none),(29,.s t4,none),(30,dI m6,none),(31,.sh 1 (l6.map D.s),none),(32,.agg [.s o1,.s o2,dI o3,dI o4,.sh 1 (o5.map D.s),.sh 3 (o6.map MatD.d),.sh 7 (Nd.ds o7)],none),(33,.fn F [dP g 0] [],none),(34,.agg [.s p1,.s p2,dI p3,dI p4,.sh 1 (p5.map D.s),.sh 3 (p6.map MatD.d),.sh 7 (Nd.ds p7)],some [.bx g 72 (.agg [.sh 3 (z2.l.map TokD.d),dI z2.n,dB z2.b]),HPow,HErr ev,HSyn es,.bx g1 27 (.agg [.v (.string ByteArray.empty),.v (.string ByteArray.empty),dI 0,dI 0,dZ,dZ,dZ]),.bx g3 27 (.agg [.s o1,.s o2,dI o3,dI o4,.sh 1 (o5.map D.s),.sh 3 (o6.map MatD.d),.sh 7 (Nd.ds o7)])]),(35,.sh 7 ([(Nd.mk o1 o2 o3 o4 o5 o6 o7),(Nd.mk p1 p2 p3 p4 p5 p6 p7)].map Nd.d),none),(36,.agg [.v (.string (⟨#[98,105,110]⟩:ByteArray)),.s t4,dI 0,dI m6,.sh 1 (l6.map D.s),dZ,.sh 7 ([(Nd.mk o1 o2 o3 o4 o5 o6 o7),(Nd.mk p1 p2 p3 p4 p5 p6 p7)].map Nd.d)],none)] [.bx g1 27 (.agg [.v (.string ByteArray.empty),.v (.string ByteArray.empty),dI 0,dI 0,dZ,dZ,dZ]),.bx g3 27 (.agg [.s o1,.s o2,dI o3,dI o4,.sh 1 (o5.map D.s),.sh 3 (o6.map MatD.d),.sh 7 (Nd.ds o7)])] (Hn:=[.bx g 72 (.agg [.sh 3 (z2.l.map TokD.d),dI z2.n,dB z2.b]),HPow,HErr ev,HSyn es,.bx g1 27 (.agg [.v (.string ByteArray.empty),.v (.string ByteArray.empty),dI 0,dI 0,dZ,dZ,dZ]),.bx g3 27 (.agg [.s o1,.s o2,dI o3,dI o4,.sh 1 (o5.map D.s),.sh 3 (o6.map MatD.d),.sh 7 (Nd.ds o7)])]) mixed rfl rfl rfl rfl (HSub.lst 4 rfl) rfl ⟨sa_p rfl rfl rfl (zG rfl),sa_p rfl rfl rfl (zG rfl),sa_p rfl rfl rfl (zG rfl),sa_p rfl rfl rfl (zG rfl),sa_p rfl rfl rfl (zH (d:=.agg [.s o1,.s o2,dI o3,dI o4,.sh 1 (o5.map D.s),.sh 3 (o6.map MatD.d),.sh 7 (Nd.ds o7)]) rfl (i:=1) rfl Tryz.isAgg27 Tryz.sizeOf27 rfl rfl),sa_p rfl rfl rfl (zG rfl),sa_e rfl rfl rfl rfl (((ef_callv [.bx g 72 (.agg [.sh 3 (s6.l.map TokD.d),dI s6.n,dB s6.b]),HPow,HErr ev,HSyn es] [.bx g1 27 (.agg [.v (.string ByteArray.empty),.v (.string ByteArray.empty),dI 0,dI 0,dZ,dZ,dZ]),.bx g3 27 (.agg [.s o1,.s o2,dI o3,dI o4,.sh 1 (o5.map D.s),.sh 3 (o6.map MatD.d),.sh 7 (Nd.ds o7)])] [] rfl rfl rfl (.cons ArgC.id .nil) zg hcall (nd_nm en (hp g s6 (by omega) (by omega) (by omega) hT6)) (.inl rfl))).mono (by rintro _ _ ⟨_,⟨rfl,rfl⟩,rfl⟩;exact⟨rfl,rfl⟩)) (HSub.lst 4 rfl),sa_q rfl rfl rfl (zy [.tmp 32,.tmp 34] rfl rfl (.cons CellD.agg (.cons CellD.agg .nil)) rfl Tryz.runUnderlying25 Tryz.sizeOf27 Tryz.zeroValue27 rfl rfl rfl rfl),sa_p rfl rfl rfl (zJ [0,1,3,4,6] [.const (.string (⟨#[98,105,110]⟩:ByteArray)),.tmp 29,.tmp 30,.tmp 31,.tmp 35] (zv:=(.agg #[(.string ByteArray.empty),(.string ByteArray.empty),(.int .i64 0),(.int .i64 0),(.slice none 0 0),(.slice none 0 0),(.slice none 0 0)])) rfl rfl (.cons (CellD.v rfl) (.cons CellD.s (.cons (CellD.v rfl) (.cons CellD.sh (.cons CellD.sh .nil))))) (Tryz.runUnderlying27) Tryz.zeroValue27 zed ⟨rfl,rfl,rfl,rfl,rfl,rfl,rfl,trivial⟩ rfl),trivial⟩ ?_
   refine ok [0,1,2,6,7,8,9,10,11,14,15,16,17,18,19,20,21,23,24,25,26,27,28,29,30,31,32,33,34,35,36] rfl (oE rfl (zm [.bx g 72 (.agg [.sh 3 (z2.l.map TokD.d),dI z2.n,dB z2.b])] [HPow,HErr ev,HSyn es,.bx g1 27 (.agg [.v (.string ByteArray.empty),.v (.string ByteArray.empty),dI 0,dI 0,dZ,dZ,dZ]),.bx g3 27 (.agg [.s o1,.s o2,dI o3,dI o4,.sh 1 (o5.map D.s),.sh 3 (o6.map MatD.d),.sh 7 (Nd.ds o7)])] [] rfl rfl (.cons ArgC.id (.cons ArgC.id .nil)) zg Tryz.call158 (zei g z2 (.v (.string (⟨#[98,105,110]⟩:ByteArray))) (.s t4) (dI 0) (dI m6) (.sh 1 (l6.map D.s)) (dZ) (.sh 7 ([(Nd.mk o1 o2 o3 o4 o5 o6 o7),(Nd.mk p1 p2 p3 p4 p5 p6 p7)].map Nd.d)) (by omega) (by omega) hT9) (.inl rfl)) ?_)
   rintro _ _ ⟨_,⟨s7,e7,rfl,rfl⟩,rfl⟩
   obtain ⟨ka7,kb7,kc7,hT7⟩:=(zeh e7).out hT9
   refine on rfl (oE rfl (zi (i:=5) (X':=.agg [.v (.string (⟨#[98,105,110]⟩:ByteArray)),.s t4,dI 0,dI m6,.sh 1 (l6.map D.s),dZ,.sh 7 ([(Nd.mk o1 o2 o3 o4 o5 o6 o7),(Nd.mk p1 p2 p3 p4 p5 p6 p7)].map Nd.d)]) rfl rfl rfl (CellD.agg) Tryz.sizeOf27 rfl rfl rfl) ?_)
   rintro _ _ ⟨rfl,rfl⟩
   refine on rfl (zq rfl (zB (PD.subH (HSub.perm (zc (i:=5) rfl)) (pn rfl (PD.subH (HSub.turn (h':=.bx g3 27 (.agg [.s tBin,.s t4,dI 0,dI m6,.sh 1 (l6.map D.s),.sh 3 (([]:List MatD).map MatD.d),.sh 7 (Nd.ds [(Nd.mk o1 o2 o3 o4 o5 o6 o7),(Nd.mk p1 p2 p3 p4 p5 p6 p7)])])) rfl (Hp.cv_bx (Cv.agg (.cons (Cv.str (by decide)) (.cons Cv.rfl' (.cons Cv.rfl' (.cons Cv.rfl' (.cons Cv.rfl' (.cons Cv.nil (.cons Cv.rfl' .nil)))))))))) (PD.subH (HSub.perm (zc (i:=4) rfl)) (pn rfl (PD.subH (HSub.perm (zc (i:=4) rfl)) (pn rfl (PD.subH (HSub.perm (zc (i:=4) rfl)) (pn rfl (PD.subH (HSub.perm (zc (i:=4) rfl)) (pn rfl (PD.subH (HSub.perm (zc (i:=4) rfl)) (pn rfl (PD.subH (HSub.perm (zc (i:=5) rfl)) (pn rfl (pn rfl ?_))))))))))))))))))
   exact pl3 f s7 (Nd.mk tBin t4 0 m6 l6 ([]:List MatD) [(Nd.mk o1 o2 o3 o4 o5 o6 o7),(Nd.mk p1 p2 p3 p4 p5 p6 p7)]) (sa rfl) HSub.rfl' ⟨by omega,(level_go e4 (by simpa using hc5) e6 en e7).symm.trans hf,by omega,by omega,hT7,by omega⟩ (by omega)
theorem unary_c (ev es:Value) (L:Nat) (ex:Rd→Nd×Rd) (hev:EvOk ev) (hes:EvOk es) (hex:zbM ev es 39 L ex) (hst:∀ s,Stp 1 s (ex s).2):zbM ev es 181 (L+1) (fun s=>za7 rmD ex (s.l.length+1) s):=by
 have key:∀ (f g:Nat) (s:Rd),s.l.length<f→s.l.length<L+1→s.n+2*(s.l.length:Int)≤2000000→0≤s.n→TOk s.l→CD Tryz.prog 181 [RB g s,HPow,HErr ev,HSyn es] [dP g 0] (NdR g ev es (za7 rmD ex f s)):=by
  intro f
  induction f with
  | zero=>intro g s h;exact absurd h (by omega)
  | succ f ih=>intro g s h hL hw hn hT;exact unary_s g s ev es L ex f hev hes hex hst hL ih h hw hn hT
 exact fun g s hL hw hn hT=>key (s.l.length+1) g s (by omega) hL hw hn hT
theorem product_s (g:Nat) (s:Rd) (ev es:Value) (L:Nat) (ex:Rd→Nd×Rd) (hev:EvOk ev) (hes:EvOk es) (hex:zbM ev es 39 L ex) (hst:∀ s,Stp 1 s (ex s).2) (hL:s.l.length<L+1) (hw:s.n+2*(s.l.length:Int)≤2000000) (hn:0≤s.n) (hT:TOk s.l):
 CD Tryz.prog 159 [.bx g 72 (.agg [.sh 3 (s.l.map TokD.d),dI s.n,dB s.b]),HPow,HErr ev,HSyn es] [dP g 0] (NdR g ev es (zeq rmD ex s)):=by
 refine zp Tryz.func159 rfl (N:=8) rfl rfl (fun C=>?_)
 refine jk [0] rfl (jT rfl (oE rfl (zC (zv:=(.agg #[(.string ByteArray.empty),(.string ByteArray.empty),(.int .i64 0),(.int .i64 0),(.slice none 0 0),(.slice none 0 0),(.slice none 0 0)])) Tryz.zeroValue27 ⟨rfl,rfl,rfl,rfl,rfl,rfl,rfl,trivial⟩ (Cv.vagg (by decide))) ?_))
 rintro _ _ ⟨g1,rfl,rfl⟩
 refine oZ rfl (jT rfl (oR 2 rfl (oP rfl (p_makeFunc rfl rfl) (oE rfl (Qu.ef (d:=.sh 1 ([(⟨#[42]⟩:ByteArray),(⟨#[47]⟩:ByteArray),(⟨#[37]⟩:ByteArray)].map D.s)) ((zy [.const (.string (⟨#[42]⟩:ByteArray)),.const (.string (⟨#[47]⟩:ByteArray)),.const (.string (⟨#[37]⟩:ByteArray))] rfl rfl (.cons (CellD.v rfl) (.cons (CellD.v rfl) (.cons (CellD.v rfl) .nil))) rfl Tryz.runUnderlying23 Tryz.sizeOf9 Tryz.zeroValue9 rfl rfl rfl rfl).cv (Cv.shs (.cons (Cv.str (by first | decide | (unfold maxLen;omega))) (.cons (Cv.str (by first | decide | (unfold maxLen;omega))) (.cons (Cv.str (by first | decide | (unfold maxLen;omega))) .nil)))))) ?_))))
 rintro _ _ ⟨rfl,rfl⟩
 refine OpsD.subH (HSub.perm (zc (i:=4) rfl)) (on rfl (OpsD.subH (HSub.perm (zc (i:=4) rfl)) (on rfl (OpsD.subH (HSub.perm (zc (i:=4) rfl)) (on rfl (OpsD.subH (HSub.perm (zc (i:=4) rfl)) (on rfl (oE rfl (zm [.bx g 72 (.agg [.sh 3 (s.l.map TokD.d),dI s.n,dB s.b]),HPow,HErr ev,HSyn es] [.bx g1 27 (.agg [.v (.string ByteArray.empty),.v (.string ByteArray.empty),dI 0,dI 0,dZ,dZ,dZ])] [] rfl rfl (.cons ArgC.id (.cons ArgC.id (.cons ArgC.id .nil))) zg Tryz.call110 (level_c g s 181 (fun s=>za7 rmD ex (s.l.length+1) s) [(⟨#[42]⟩:ByteArray),(⟨#[47]⟩:ByteArray),(⟨#[37]⟩:ByteArray)] (L+1) ev es (unary_c ev es L ex hev hes hex hst) (fun s=>zcS rmD hst _ s) Tryz.call181 hL (by omega) (by omega) hT) (.inl rfl)) ?_))))))))
 rintro _ _ ⟨_,⟨no2,nt2,nn2,nm2,nl2,ns2,nk2,s2,e2,rfl,rfl⟩,rfl⟩
 refine on rfl (oE rfl (zi (i:=4) (X':=.agg [.s no2,.s nt2,dI nn2,dI nm2,.sh 1 (nl2.map D.s),.sh 3 (ns2.map MatD.d),.sh 7 (Nd.ds nk2)]) rfl rfl rfl (CellD.agg) Tryz.sizeOf27 rfl rfl rfl) ?_)
 rintro _ _ ⟨rfl,rfl⟩
 refine on rfl (oZ rfl (zn rfl (pn rfl ?_)))
 exact zh Tryz.results159 (.cons (zU (i:=4) rfl rfl Tryz.isAgg27 Tryz.sizeOf27 rfl rfl) .nil) rfl (HSub.fst 4 rfl) ⟨no2,nt2,nn2,nm2,nl2,ns2,nk2,⟨s2.l,s2.n,s2.b⟩,e2,rfl,rfl⟩
theorem product_c (ev es:Value) (L:Nat) (ex:Rd→Nd×Rd) (hev:EvOk ev) (hes:EvOk es) (hex:zbM ev es 39 L ex) (hst:∀ s,Stp 1 s (ex s).2):zbM ev es 159 (L+1) (fun s=>zeq rmD ex s):=fun g s hL hw hn hT=>product_s g s ev es L ex hev hes hex hst hL hw hn hT
theorem sum_s (g:Nat) (s:Rd) (ev es:Value) (L:Nat) (ex:Rd→Nd×Rd) (hev:EvOk ev) (hes:EvOk es) (hex:zbM ev es 39 L ex) (hst:∀ s,Stp 1 s (ex s).2) (hL:s.l.length<L+1) (hw:s.n+2*(s.l.length:Int)≤2000000) (hn:0≤s.n) (hT:TOk s.l):
 CD Tryz.prog 111 [.bx g 72 (.agg [.sh 3 (s.l.map TokD.d),dI s.n,dB s.b]),HPow,HErr ev,HSyn es] [dP g 0] (NdR g ev es (sumP rmD ex s)):=by
 refine zp Tryz.func111 rfl (N:=8) rfl rfl (fun C=>?_)
 refine jk [0] rfl (jT rfl (oE rfl (zC (zv:=(.agg #[(.string ByteArray.empty),(.string ByteArray.empty),(.int .i64 0),(.int .i64 0),(.slice none 0 0),(.slice none 0 0),(.slice none 0 0)])) Tryz.zeroValue27 ⟨rfl,rfl,rfl,rfl,rfl,rfl,rfl,trivial⟩ (Cv.vagg (by decide))) ?_))
 rintro _ _ ⟨g1,rfl,rfl⟩
 refine oZ rfl (jT rfl (oR 2 rfl (oP rfl (p_makeFunc rfl rfl) (oE rfl (Qu.ef (d:=.sh 1 ([(⟨#[43]⟩:ByteArray),(⟨#[45]⟩:ByteArray)].map D.s)) ((zy [.const (.string (⟨#[43]⟩:ByteArray)),.const (.string (⟨#[45]⟩:ByteArray))] rfl rfl (.cons (CellD.v rfl) (.cons (CellD.v rfl) .nil)) rfl Tryz.runUnderlying23 Tryz.sizeOf9 Tryz.zeroValue9 rfl rfl rfl rfl).cv (Cv.shs (.cons (Cv.str (by first | decide | (unfold maxLen;omega))) (.cons (Cv.str (by first | decide | (unfold maxLen;omega))) .nil))))) ?_))))
 rintro _ _ ⟨rfl,rfl⟩
 refine OpsD.subH (HSub.perm (zc (i:=4) rfl)) (on rfl (OpsD.subH (HSub.perm (zc (i:=4) rfl)) (on rfl (OpsD.subH (HSub.perm (zc (i:=4) rfl)) (on rfl (OpsD.subH (HSub.perm (zc (i:=4) rfl)) (on rfl (oE rfl (zm [.bx g 72 (.agg [.sh 3 (s.l.map TokD.d),dI s.n,dB s.b]),HPow,HErr ev,HSyn es] [.bx g1 27 (.agg [.v (.string ByteArray.empty),.v (.string ByteArray.empty),dI 0,dI 0,dZ,dZ,dZ])] [] rfl rfl (.cons ArgC.id (.cons ArgC.id (.cons ArgC.id .nil))) zg Tryz.call110 (level_c g s 159 (fun s=>zeq rmD ex s) [(⟨#[43]⟩:ByteArray),(⟨#[45]⟩:ByteArray)] (L+1) ev es (product_c ev es L ex hev hes hex hst) (fun s=>prodP_stp rmD hst s) Tryz.call159 hL (by omega) (by omega) hT) (.inl rfl)) ?_))))))))
 rintro _ _ ⟨_,⟨no2,nt2,nn2,nm2,nl2,ns2,nk2,s2,e2,rfl,rfl⟩,rfl⟩
 refine on rfl (oE rfl (zi (i:=4) (X':=.agg [.s no2,.s nt2,dI nn2,dI nm2,.sh 1 (nl2.map D.s),.sh 3 (ns2.map MatD.d),.sh 7 (Nd.ds nk2)]) rfl rfl rfl (CellD.agg) Tryz.sizeOf27 rfl rfl rfl) ?_)
 rintro _ _ ⟨rfl,rfl⟩
 refine on rfl (oZ rfl (zn rfl (pn rfl ?_)))
 exact zh Tryz.results111 (.cons (zU (i:=4) rfl rfl Tryz.isAgg27 Tryz.sizeOf27 rfl rfl) .nil) rfl (HSub.fst 4 rfl) ⟨no2,nt2,nn2,nm2,nl2,ns2,nk2,⟨s2.l,s2.n,s2.b⟩,e2,rfl,rfl⟩
theorem sum_c (ev es:Value) (L:Nat) (ex:Rd→Nd×Rd) (hev:EvOk ev) (hes:EvOk es) (hex:zbM ev es 39 L ex) (hst:∀ s,Stp 1 s (ex s).2):zbM ev es 111 (L+1) (fun s=>sumP rmD ex s):=fun g s hL hw hn hT=>sum_s g s ev es L ex hev hes hex hst hL hw hn hT
theorem expr_s (g:Nat) (s:Rd) (ev es:Value) (L:Nat) (ex:Rd→Nd×Rd) (hev:EvOk ev) (hes:EvOk es) (hex:zbM ev es 39 L ex) (hst:∀ s,Stp 1 s (ex s).2) (hL:s.l.length<L+1) (hw:s.n+2*(s.l.length:Int)≤2000000) (hn:0≤s.n) (hT:TOk s.l):
 CD Tryz.prog 39 [.bx g 72 (.agg [.sh 3 (s.l.map TokD.d),dI s.n,dB s.b]),HPow,HErr ev,HSyn es] [dP g 0] (NdR g ev es (s.level (sumP rmD ex) [tEqq,tNe,tLt,tLe,tGt,tGe])):=by
 refine zp Tryz.func39 rfl (N:=8) rfl rfl (fun C=>?_)
 refine jk [0] rfl (jT rfl (oE rfl (zC (zv:=(.agg #[(.string ByteArray.empty),(.string ByteArray.empty),(.int .i64 0),(.int .i64 0),(.slice none 0 0),(.slice none 0 0),(.slice none 0 0)])) Tryz.zeroValue27 ⟨rfl,rfl,rfl,rfl,rfl,rfl,rfl,trivial⟩ (Cv.vagg (by decide))) ?_))
 rintro _ _ ⟨g1,rfl,rfl⟩
 refine oZ rfl (jT rfl (oR 2 rfl (oP rfl (p_makeFunc rfl rfl) (oE rfl (Qu.ef (d:=.sh 1 ([(⟨#[61,61]⟩:ByteArray),(⟨#[33,61]⟩:ByteArray),(⟨#[60]⟩:ByteArray),(⟨#[60,61]⟩:ByteArray),(⟨#[62]⟩:ByteArray),(⟨#[62,61]⟩:ByteArray)].map D.s)) ((zy [.const (.string (⟨#[61,61]⟩:ByteArray)),.const (.string (⟨#[33,61]⟩:ByteArray)),.const (.string (⟨#[60]⟩:ByteArray)),.const (.string (⟨#[60,61]⟩:ByteArray)),.const (.string (⟨#[62]⟩:ByteArray)),.const (.string (⟨#[62,61]⟩:ByteArray))] rfl rfl (.cons (CellD.v rfl) (.cons (CellD.v rfl) (.cons (CellD.v rfl) (.cons (CellD.v rfl) (.cons (CellD.v rfl) (.cons (CellD.v rfl) .nil)))))) rfl Tryz.runUnderlying23 Tryz.sizeOf9 Tryz.zeroValue9 rfl rfl rfl rfl).cv (Cv.shs (.cons (Cv.str (by first | decide | (unfold maxLen;omega))) (.cons (Cv.str (by first | decide | (unfold maxLen;omega))) (.cons (Cv.str (by first | decide | (unfold maxLen;omega))) (.cons (Cv.str (by first | decide | (unfold maxLen;omega))) (.cons (Cv.str (by first | decide | (unfold maxLen;omega))) (.cons (Cv.str (by first | decide | (unfold maxLen;omega))) .nil))))))))) ?_))))
 rintro _ _ ⟨rfl,rfl⟩
 refine OpsD.subH (HSub.perm (zc (i:=4) rfl)) (on rfl (OpsD.subH (HSub.perm (zc (i:=4) rfl)) (on rfl (OpsD.subH (HSub.perm (zc (i:=4) rfl)) (on rfl (OpsD.subH (HSub.perm (zc (i:=4) rfl)) (on rfl (oE rfl (zm [.bx g 72 (.agg [.sh 3 (s.l.map TokD.d),dI s.n,dB s.b]),HPow,HErr ev,HSyn es] [.bx g1 27 (.agg [.v (.string ByteArray.empty),.v (.string ByteArray.empty),dI 0,dI 0,dZ,dZ,dZ])] [] rfl rfl (.cons ArgC.id (.cons ArgC.id (.cons ArgC.id .nil))) zg Tryz.call110 (level_c g s 111 (fun s=>sumP rmD ex s) [(⟨#[61,61]⟩:ByteArray),(⟨#[33,61]⟩:ByteArray),(⟨#[60]⟩:ByteArray),(⟨#[60,61]⟩:ByteArray),(⟨#[62]⟩:ByteArray),(⟨#[62,61]⟩:ByteArray)] (L+1) ev es (sum_c ev es L ex hev hes hex hst) (fun s=>sumP_stp rmD hst s) Tryz.call111 hL (by omega) (by omega) hT) (.inl rfl)) ?_))))))))
 rintro _ _ ⟨_,⟨no2,nt2,nn2,nm2,nl2,ns2,nk2,s2,e2,rfl,rfl⟩,rfl⟩
 refine on rfl (oE rfl (zi (i:=4) (X':=.agg [.s no2,.s nt2,dI nn2,dI nm2,.sh 1 (nl2.map D.s),.sh 3 (ns2.map MatD.d),.sh 7 (Nd.ds nk2)]) rfl rfl rfl (CellD.agg) Tryz.sizeOf27 rfl rfl rfl) ?_)
 rintro _ _ ⟨rfl,rfl⟩
 refine on rfl (oZ rfl (zn rfl (pn rfl ?_)))
 exact zh Tryz.results39 (.cons (zU (i:=4) rfl rfl Tryz.isAgg27 Tryz.sizeOf27 rfl rfl) .nil) rfl (HSub.fst 4 rfl) ⟨no2,nt2,nn2,nm2,nl2,ns2,nk2,⟨s2.l,s2.n,s2.b⟩,e2,rfl,rfl⟩
theorem expr_c (ev es:Value) (L:Nat) (ex:Rd→Nd×Rd) (hev:EvOk ev) (hes:EvOk es) (hex:zbM ev es 39 L ex) (hst:∀ s,Stp 1 s (ex s).2):zbM ev es 39 (L+1) (fun s=>s.level (sumP rmD ex) [tEqq,tNe,tLt,tLe,tGt,tGe]):=fun g s hL hw hn hT=>expr_s g s ev es L ex hev hes hex hst hL hw hn hT
theorem exprOk (ev es:Value) (hev:EvOk ev) (hes:EvOk es):∀ f:Nat,zbM ev es 39 f (zbR rmD f)
 | 0=>fun g s h=>absurd h (by omega)
 | f+1=>expr_c ev es f (zbR rmD f) hev hes (exprOk ev es hev hes f) (fun s=>zcr rmD f s)
theorem bound_c (g:Nat) (s:Rd) (w:ByteArray) (ev es:Value) (hev:EvOk ev) (hes:EvOk es) (hw:s.n+2*(s.l.length:Int)≤3000000) (hn:0≤s.n) (hT:TOk s.l):
 CD Tryz.prog 42 [.bx g 72 (.agg [.sh 3 (s.l.map TokD.d),dI s.n,dB s.b]),HPow,HErr ev,HSyn es] [dP g 0,.s w] (fun r H'=>∃ v s',(v,s')=s.bound w∧r=dI v∧H'=[RB g s',HPow,HErr ev,HSyn es]):=by
 refine zp Tryz.func42 rfl (N:=31) rfl rfl (fun C=>?_)
 refine jk [0,1] rfl ?_
 refine JD.bd 1 rfl (fun bd1=>?_)
 have sz1:w.size≤9223372036854775807:=bd1
 refine jT rfl (oR 1 rfl (oZ rfl (jS rfl (jT rfl (oR 2 rfl (oE rfl (Qu.ef (d:=.sh 1 ([w].map D.s)) (zy [.tmp 10] rfl rfl (.cons CellD.s .nil) rfl Tryz.runUnderlying23 Tryz.sizeOf9 Tryz.zeroValue9 rfl rfl rfl rfl)) ?_))))))
 rintro _ _ ⟨rfl,rfl⟩
 refine oE rfl (zm [.bx g 72 (.agg [.sh 3 (s.l.map TokD.d),dI s.n,dB s.b])] [HPow,HErr ev,HSyn es] [] rfl rfl (.cons ArgC.id (.cons ArgC.id (.cons ArgC.id .nil))) zg Tryz.call40 (zcV g s 1 [w] (by omega) (by omega) hT (by decide)) (.inl rfl)) ?_
 rintro _ _ ⟨_,⟨t1,q1,s1,e1,rfl,rfl⟩,rfl⟩
 obtain ⟨ka1,kb1,kc1,hT1⟩:=(zcU e1).out hT
 have kz1:=zcT e1 hT
 refine on rfl (oR 5 rfl (oZ rfl (jk [0,4,6] rfl (jT rfl (oR 1 rfl (oP rfl (zaZ rfl) (oZ rfl ?_)))))))
 refine jC rfl (fun hc2=>?_) (fun hc2=>?_)
 · simp only[bA,bB,bC,bD,bE,bF,bG,bH,bI,bJ] at hc2
   refine jT rfl (oR 1 rfl (oZ rfl (zn rfl (zk (pn rfl ?_)))))
   exact zh Tryz.results42 (.cons (zl rfl) .nil) rfl (HSub.fst 4 rfl) ⟨_,⟨s1.l,s1.n,s1.b⟩,bound_0 e1 (by simpa using hc2),rfl,rfl⟩
 · simp only[bA,bB,bC,bD,bE,bF,bG,bH,bI,bJ] at hc2
   refine zt rfl (zj (jT rfl (oR 1 rfl (oE rfl (zm [.bx g 72 (.agg [.sh 3 (s1.l.map TokD.d),dI s1.n,dB s1.b]),HPow,HErr ev,HSyn es] [] [] rfl rfl (.cons ArgC.id (.cons ArgC.id .nil)) zg Tryz.call114 (rdnum_c g s1 2 ev es hev hes (by omega) (by omega) hT1 (by omega)) (.inl rfl)) ?_))))
   rintro _ _ ⟨_,⟨v3,s3,e3,rfl,rfl⟩,rfl⟩
   obtain ⟨ka3,kb3,kc3,hT3⟩:=(number_e e3).out hT1
   have kv3:=zdk e3 (by omega) hT1
   refine on rfl (oR 1 rfl (oZ rfl (jS rfl (jk [0,4,7] rfl ?_))))
   refine zd1 [(0,dP g 0),(4,dI 0),(7,dI v3)] [.bx g 72 (.agg [.sh 3 (s3.l.map TokD.d),dI s3.n,dB (s3.b||decide ((2000:Int)<v3))]),HPow,HErr ev,HSyn es] (fun _ hQ4=>?_) ?_
   · skip
     rcases Bool.eq_false_or_eq_true (s3.b) with hg5 | hg5
     · skip
       refine zf rfl (oR 3 rfl (oP rfl (zd rfl zX rfl) (oP rfl ((ze rfl (i:=0) rfl Tryz.isAgg4 rfl).cv (Cv.eq (congrArg (fun b=>D.v (.bool b)) (hg5)))) (oR 5 rfl (oP rfl (zd rfl zX rfl) (oE rfl (zi (i:=0) (X':=.agg [.sh 3 (s3.l.map TokD.d),dI s3.n,dB true]) rfl rfl rfl (CellD.v rfl) Tryz.sizeOf4 rfl rfl rfl) ?_))))))
       rintro _ _ ⟨rfl,rfl⟩
       refine on rfl (zq rfl (PD.norm [.bx g 72 (.agg [.sh 3 (s3.l.map TokD.d),dI s3.n,dB (s3.b||decide ((2000:Int)<v3))]),HPow,HErr ev,HSyn es] (by simp only[hc2,hg5,Bool.or_true,Bool.true_or,Bool.or_false,Bool.false_or,Bool.not_true,Bool.not_false]<;>rfl) ?_))
       exact PD.sub [(0,dP g 0),(4,dI 0),(7,dI v3)] (sa rfl) hQ4
     · skip
       refine zf rfl (oR 3 rfl (oP rfl (zd rfl zX rfl) (oP rfl ((ze rfl (i:=0) rfl Tryz.isAgg4 rfl).cv (Cv.eq (congrArg (fun b=>D.v (.bool b)) (hg5)))) (oR 2 rfl (oG rfl (zaF rfl rfl rfl) (oR 2 rfl (oP rfl (zd rfl zX rfl) (oE rfl (zi (i:=0) (X':=.agg [.sh 3 (s3.l.map TokD.d),dI s3.n,dB (decide ((2000:Int)<v3))]) rfl rfl rfl (CellD.v rfl) Tryz.sizeOf4 rfl rfl rfl) ?_))))))))
       rintro _ _ ⟨rfl,rfl⟩
       refine on rfl (zq rfl (PD.norm [.bx g 72 (.agg [.sh 3 (s3.l.map TokD.d),dI s3.n,dB (s3.b||decide ((2000:Int)<v3))]),HPow,HErr ev,HSyn es] (by simp only[hc2,hg5,Bool.or_true,Bool.true_or,Bool.or_false,Bool.false_or,Bool.not_true,Bool.not_false]<;>rfl) ?_))
       exact PD.sub [(0,dP g 0),(4,dI 0),(7,dI v3)] (sa rfl) hQ4
   · skip
     refine zj (jT rfl (oR 2 rfl (oZ rfl (zn rfl (pn rfl ?_)))))
     exact zh Tryz.results42 (.cons (zl rfl) .nil) rfl (HSub.fst 4 rfl) ⟨_,⟨s3.l,s3.n,(s3.b||decide ((2000:Int)<v3))⟩,bound_1 e1 (by simpa using hc2) e3,rfl,rfl⟩
end Lp
set_option linter.unusedSimpArgs false
set_option linter.unusedVariables false
set_option maxHeartbeats 4000000
set_option maxRecDepth 100000
namespace Lp
open Go Go.RowKit Go.Proofs
namespace HdYtheccaeefigajaaGreatDoorV101
theorem bd_29:∀ w,((#[⟨"Root",27,0,false, "", "",0⟩,⟨"Order",3,7,false, "", "",120⟩,⟨"Limit",3,8,false, "", "",128⟩,⟨"Offset",3,9,false, "", "",136⟩]:Array Field).mapM fun f=>do pure (f.offset,←Go.sizeOf f.type):Sem (Array (Nat×Nat))).run Tryz.prog w=.ok ([(0,7),(7,1),(8,1),(9,1)]:List (Nat×Nat)).toArray w:=fun _=>by kernel_rfl
theorem bd_72:∀ w,((#[⟨"l",67,0,false, "", "leporello/parse",0⟩,⟨"nodes",3,1,false, "", "leporello/parse",24⟩,⟨"bad",4,2,false, "", "leporello/parse",32⟩]:Array Field).mapM fun f=>do pure (f.offset,←Go.sizeOf f.type):Sem (Array (Nat×Nat))).run Tryz.prog w=.ok ([(0,1),(1,1),(2,1)]:List (Nat×Nat)).toArray w:=fun _=>by kernel_rfl
theorem fa_29_1 (b o:Nat):∀ w,(Instr.fieldAt 29 (.pointer (some ⟨b,o,none⟩)) 1).run Tryz.prog w=.ok (.pointer (some ⟨b,o+7,none⟩)) w:=fun _=>by kernel_rfl
theorem fa_29_2 (b o:Nat):∀ w,(Instr.fieldAt 29 (.pointer (some ⟨b,o,none⟩)) 2).run Tryz.prog w=.ok (.pointer (some ⟨b,o+8,none⟩)) w:=fun _=>by kernel_rfl
theorem fa_29_3 (b o:Nat):∀ w,(Instr.fieldAt 29 (.pointer (some ⟨b,o,none⟩)) 3).run Tryz.prog w=.ok (.pointer (some ⟨b,o+9,none⟩)) w:=fun _=>by kernel_rfl
theorem zcL (b o:Nat):∀ w,(Instr.fieldAt 72 (.pointer (some ⟨b,o,none⟩)) 0).run Tryz.prog w=.ok (.pointer (some ⟨b,o+0,none⟩)) w:=fun _=>by kernel_rfl
theorem zX (b o:Nat):∀ w,(Instr.fieldAt 72 (.pointer (some ⟨b,o,none⟩)) 2).run Tryz.prog w=.ok (.pointer (some ⟨b,o+2,none⟩)) w:=fun _=>by kernel_rfl
end HdYtheccaeefigajaaGreatDoorV101
open HdYtheccaeefigajaaGreatDoorV101
def QdR (q:QryD) (e:Int) (tabs:List Hp):D→List Hp→Prop:=fun r H'=>∃ op text n mode names ms kids o a b,(⟨Nd.mk op text n mode names ms kids,o,a,b⟩:QryD)=q∧r=.tup [.agg [.s op,.s text,dI n,dI mode,.sh 1 (names.map D.s),.sh 3 (ms.map MatD.d),.sh 7 (Nd.ds kids),dI o,dI a,dI b],dI e]∧H'=tabs
theorem order_e {s s':Rd} {o:Int} (e:(o,s')=s.order):Stp 0 s s':=by
 have h:s'=s.order.2:=congrArg Prod.snd e
 rw[h];unfold Rd.order;simp only;split
 · exact z8 s 1 _
 · split
   · exact((z8 s 1 [zcW]).trans (z8 _ 1 _)).le (by omega)
   · exact((((z8 s 1 [zcW]).trans (z8 _ 1 [zeL])).trans (zbW _ 1)).le (by omega)).bad _
theorem order_1t {s s1 s2 s3:Rd} {t t' c:ByteArray} {q q':Bool} (e:(t,q,s1)=s.take 1 [zcW]) (hq:q=true) (e2:(t',q',s2)=s1.take 1 [zeL]) (hq':¬q'=true) (e3:(c,s3)=s2.any 1) (hc:c≠tAsc):(1,(⟨s3.l,s3.n,true⟩:Rd))=s.order:=by
 rw[←order_1 e hq e2 hq' e3,decide_eq_true hc,Bool.or_true]
theorem order_1f {s s1 s2 s3:Rd} {t t' c:ByteArray} {q q':Bool} (e:(t,q,s1)=s.take 1 [zcW]) (hq:q=true) (e2:(t',q',s2)=s1.take 1 [zeL]) (hq':¬q'=true) (e3:(c,s3)=s2.any 1) (hc:¬c≠tAsc):(1,(⟨s3.l,s3.n,s3.b⟩:Rd))=s.order:=by
 rw[←order_1 e hq e2 hq' e3,decide_eq_false hc,Bool.or_false]
section
variable {s:ByteArray} {z s1 s2 s3 s4:Rd} {n:Nd} {o a b:Int}
theorem read_of (hE:lexE s=0) (e0:z=⟨lexL s,0,false⟩) (e1:(n,s1)=zbR rmD ((lexL s).length+1) z) (e2:(o,s2)=s1.order) (e3:(a,s3)=s2.bound zds) (e4:(b,s4)=s3.bound zcK):zbJ rmD (lexL s)=if s4.b=true∨0<s4.l.length then none else some ⟨n,o,a,b⟩:=by
 unfold zbJ;simp only
 rw[←e0,←e1];simp only
 rw[←e2];simp only
 rw[←e3];simp only
 rw[←e4]
theorem read_no (hE:lexE s=0) (h:zbJ rmD (lexL s)=none):2=zci s∧noQ=zcx s:=by
 unfold zci zcx;rw[if_pos hE,if_pos hE,h];exact⟨rfl,rfl⟩
theorem read_yes (hE:lexE s=0) {q:QryD} (h:zbJ rmD (lexL s)=some q):0=zci s∧q=zcx s:=by
 unfold zci zcx;rw[if_pos hE,if_pos hE,h];exact⟨rfl,rfl⟩
theorem read_lex (hE:¬lexE s=0):lexE s=zci s∧noQ=zcx s:=by
 unfold zci zcx;rw[if_neg hE,if_neg hE];exact⟨rfl,rfl⟩
end
theorem Read_c (s:ByteArray) (ev es:Value) (hev:EvOk ev) (hes:EvOk es):
 CD Tryz.prog 14 [HPow,HErr ev,HSyn es] [.s s] (QdR (zcx s) (zci s) [HPow,HErr ev,HSyn es]):=by
 refine zp Tryz.func14 rfl (N:=71) rfl rfl (fun C=>?_)
 refine jk [0] rfl ?_
 refine JD.bd 0 rfl (fun bd0=>?_)
 have sz0:s.size≤9223372036854775807:=bd0
 refine jT rfl (oE rfl (zC (zv:=(.agg #[(.string ByteArray.empty),(.string ByteArray.empty),(.int .i64 0),(.int .i64 0),(.slice none 0 0),(.slice none 0 0),(.slice none 0 0),(.int .i64 0),(.int .i64 0),(.int .i64 0)])) Tryz.zeroValue29 ⟨rfl,rfl,rfl,rfl,rfl,rfl,rfl,rfl,rfl,rfl,trivial⟩ (Cv.vagg (by decide))) ?_)
 rintro _ _ ⟨g1,rfl,rfl⟩
 refine oR 1 rfl (oZ rfl (jT rfl (oR 1 rfl (OpsD.subH (HSub.perm (zc (i:=2) rfl)) (on rfl (OpsD.subH (HSub.perm (zc (i:=2) rfl)) (on rfl (oE rfl (zm [HPow,HErr ev] [.bx g1 29 (.agg [.v (.string ByteArray.empty),.v (.string ByteArray.empty),dI 0,dI 0,dZ,dZ,dZ,dI 0,dI 0,dI 0]),HSyn es] [] rfl rfl (.cons ArgC.id .nil) zg Tryz.call38 (Words_c s ev hev) (.inl rfl)) ?_))))))))
 rintro _ _ ⟨_,⟨wv2,rfl,rfl⟩,rfl⟩
 refine on rfl (oR 5 rfl (oZ rfl (jS rfl (jT rfl (oR 1 rfl (oP rfl (za2 rfl rfl rfl) (oZ rfl ?_)))))))
 refine jD rfl (fun hc3=>?_) (fun hc3=>?_)
 · skip
   obtain ⟨hre,hrq⟩:=read_lex (s:=s) hc3
   refine jT rfl (oP rfl (zJ [] [] (zv:=(.agg #[(.string ByteArray.empty),(.string ByteArray.empty),(.int .i64 0),(.int .i64 0),(.slice none 0 0),(.slice none 0 0),(.slice none 0 0),(.int .i64 0),(.int .i64 0),(.int .i64 0)])) rfl rfl (.nil) (Tryz.runUnderlying29) Tryz.zeroValue29 bd_29 ⟨rfl,rfl,rfl,rfl,rfl,rfl,rfl,rfl,rfl,rfl,trivial⟩ rfl) (oR 1 rfl (oE rfl (zi (i:=3) (X':=.agg [.v (.string ByteArray.empty),.v (.string ByteArray.empty),dI 0,dI 0,dZ,dZ,dZ,dI 0,dI 0,dI 0]) rfl rfl rfl (CellD.agg) Tryz.sizeOf29 rfl rfl rfl) ?_)))
   rintro _ _ ⟨rfl,rfl⟩
   refine on rfl (oR 1 rfl (oZ rfl (jk [2,3,4] rfl (zn rfl (zk (PD.subH (HSub.perm (zc (i:=4) rfl)) (pn rfl (PD.subH (HSub.perm (zc (i:=3) rfl)) (pn rfl (PD.subH (HSub.perm (zc (i:=3) rfl)) (pn rfl (pn rfl ?_))))))))))))
   exact zh Tryz.results14 (.cons (zx (zU (X:=.agg [.v (.string ByteArray.empty),.v (.string ByteArray.empty),dI 0,dI 0,dZ,dZ,dZ,dI 0,dI 0,dI 0]) (d:=.agg [.v (.string ByteArray.empty),.v (.string ByteArray.empty),dI 0,dI 0,dZ,dZ,dZ,dI 0,dI 0,dI 0]) (i:=4) rfl rfl Tryz.isAgg29 Tryz.sizeOf29 rfl rfl) (Cv.agg (.cons (Cv.str (by first | decide | (unfold maxLen;omega))) (.cons (Cv.str (by first | decide | (unfold maxLen;omega))) (.cons Cv.rfl' (.cons Cv.rfl' (.cons Cv.nil (.cons Cv.nil (.cons Cv.nil (.cons Cv.rfl' (.cons Cv.rfl' (.cons Cv.rfl' .nil)))))))))))) (.cons (zx (zl rfl) (Cv.eq (congrArg dI hre))) .nil)) rfl (HSub.fst 3 rfl) ⟨ByteArray.empty,ByteArray.empty,0,0,[],[],[],0,0,0,hrq,rfl,rfl⟩
 · skip
   have hE:lexE s=0:=by simpa using hc3
   have hsz:=(zeD hE).1
   have hll:=lexL_len s
   refine zt rfl (zj (jk [2,3,4] rfl (jS rfl (JD.mv (Mv.freeze (K':=[(2,dP g1 0),(3,dI 0),(4,.sh 3 ((lexL s).map TokD.d))]) [.sl wv2 3 135 ((lexL s).map TokD.d)] (H1:=[HPow,HErr ev,.bx g1 29 (.agg [.v (.string ByteArray.empty),.v (.string ByteArray.empty),dI 0,dI 0,dZ,dZ,dZ,dI 0,dI 0,dI 0]),HSyn es]) (H1':=[HPow,HErr ev,.bx g1 29 (.agg [.v (.string ByteArray.empty),.v (.string ByteArray.empty),dI 0,dI 0,dZ,dZ,dZ,dI 0,dI 0,dI 0]),HSyn es]) ⟨⟨_,rfl,ArgC.id⟩,⟨_,rfl,ArgC.id⟩,⟨_,rfl,ArgC.own (j:=0) rfl rfl⟩,trivial⟩ (.same (.same (.same (.same .nil))))) (zf rfl (oR 1 rfl (oP rfl (zJ [0] [.tmp 22] (zv:=(.agg #[(.slice none 0 0),(.int .i64 0),(.bool false)])) rfl rfl (.cons CellD.sh .nil) (Tryz.runUnderlying72) Tryz.zeroValue72 bd_72 ⟨rfl,rfl,rfl,trivial⟩ rfl) (oE rfl (zaY rfl (CellD.agg)) ?_))))))))
   rintro _ _ ⟨g4,rfl,rfl⟩
   refine oR 1 rfl (oZ rfl (jS rfl ?_))
   obtain ⟨s5,e5⟩:∃ x:Rd,x=⟨(lexL s),0,false⟩:=⟨_,rfl⟩
   have hl5:s5.l=(lexL s):=by rw[e5]
   have hn5:s5.n=0:=by rw[e5]
   have hT5:TOk s5.l:=by rw[hl5];exact lexL_tok s
   have hk5:s5.l.length=(lexL s).length:=by rw[hl5]
   refine JD.norm [.bx g4 72 (.agg [.sh 3 (s5.l.map TokD.d),dI s5.n,dB s5.b]),HPow,HErr ev,.bx g1 29 (.agg [.v (.string ByteArray.empty),.v (.string ByteArray.empty),dI 0,dI 0,dZ,dZ,dZ,dI 0,dI 0,dI 0]),HSyn es] (by rw[e5]<;>rfl) (zf rfl (oR 1 rfl (OpsD.subH (HSub.perm (zc (i:=4) rfl)) (on rfl (OpsD.subH (HSub.perm (zc (i:=3) rfl)) (on rfl (OpsD.subH (HSub.perm (zc (i:=3) rfl)) (on rfl (OpsD.subH (HSub.perm (zc (i:=3) rfl)) (on rfl (oE rfl (zm [.bx g4 72 (.agg [.sh 3 (s5.l.map TokD.d),dI s5.n,dB s5.b]),HPow,HErr ev,HSyn es] [.bx g1 29 (.agg [.v (.string ByteArray.empty),.v (.string ByteArray.empty),dI 0,dI 0,dZ,dZ,dZ,dI 0,dI 0,dI 0])] [] rfl rfl (.cons ArgC.id .nil) zg Tryz.call39 (exprOk ev es hev hes ((lexL s).length+1) g4 s5 (by omega) (by omega) (by omega) hT5) (.inl rfl)) ?_)))))))))))
   rintro _ _ ⟨_,⟨no6,nt6,nn6,nm6,nl6,ns6,nk6,s6,e6,rfl,rfl⟩,rfl⟩
   obtain ⟨ka6,kb6,kc6,hT6⟩:=(nd_e e6 (zcr rmD _ s5)).out hT5
   refine on rfl (oP rfl (zJ [0] [.tmp 26] (zv:=(.agg #[(.string ByteArray.empty),(.string ByteArray.empty),(.int .i64 0),(.int .i64 0),(.slice none 0 0),(.slice none 0 0),(.slice none 0 0),(.int .i64 0),(.int .i64 0),(.int .i64 0)])) rfl rfl (.cons CellD.agg .nil) (Tryz.runUnderlying29) Tryz.zeroValue29 bd_29 ⟨rfl,rfl,rfl,rfl,rfl,rfl,rfl,rfl,rfl,rfl,trivial⟩ rfl) (oE rfl (zC (zv:=(.agg #[(.string ByteArray.empty),(.string ByteArray.empty),(.int .i64 0),(.int .i64 0),(.slice none 0 0),(.slice none 0 0),(.slice none 0 0),(.int .i64 0),(.int .i64 0),(.int .i64 0)])) Tryz.zeroValue29 ⟨rfl,rfl,rfl,rfl,rfl,rfl,rfl,rfl,rfl,rfl,trivial⟩ (Cv.vagg (by decide))) ?_))
   rintro _ _ ⟨g7,rfl,rfl⟩
   refine oE rfl (zi (i:=0) (X':=.agg [.s no6,.s nt6,dI nn6,dI nm6,.sh 1 (nl6.map D.s),.sh 3 (ns6.map MatD.d),.sh 7 (Nd.ds nk6),dI 0,dI 0,dI 0]) rfl rfl rfl (CellD.agg) Tryz.sizeOf29 rfl rfl rfl) ?_
   rintro _ _ ⟨rfl,rfl⟩
   refine on rfl (oZ rfl (jS rfl (jT rfl (oR 1 rfl (oE rfl (Qu.ef (d:=.sh 1 ([(⟨#[111,114,100,101,114]⟩:ByteArray)].map D.s)) ((zy [.const (.string (⟨#[111,114,100,101,114]⟩:ByteArray))] rfl rfl (.cons (CellD.v rfl) .nil) rfl Tryz.runUnderlying23 Tryz.sizeOf9 Tryz.zeroValue9 rfl rfl rfl rfl).cv (Cv.shs (.cons (Cv.str (by first | decide | (unfold maxLen;omega))) .nil)))) ?_)))))
   rintro _ _ ⟨rfl,rfl⟩
   refine OpsD.subH (HSub.perm (zc (i:=1) rfl)) (on rfl (oE rfl (zm [.bx g4 72 (.agg [.sh 3 (s6.l.map TokD.d),dI s6.n,dB s6.b])] [.bx g7 29 (.agg [.s no6,.s nt6,dI nn6,dI nm6,.sh 1 (nl6.map D.s),.sh 3 (ns6.map MatD.d),.sh 7 (Nd.ds nk6),dI 0,dI 0,dI 0]),HPow,HErr ev,HSyn es,.bx g1 29 (.agg [.v (.string ByteArray.empty),.v (.string ByteArray.empty),dI 0,dI 0,dZ,dZ,dZ,dI 0,dI 0,dI 0])] [] rfl rfl (.cons ArgC.id (.cons ArgC.id (.cons ArgC.id .nil))) zg Tryz.call40 (zcV g4 s6 1 [(⟨#[111,114,100,101,114]⟩:ByteArray)] (by omega) (by omega) hT6 (by decide)) (.inl rfl)) ?_))
   rintro _ _ ⟨_,⟨t8,q8,s8,e8,rfl,rfl⟩,rfl⟩
   obtain ⟨ka8,kb8,kc8,hT8⟩:=(zcU e8).out hT6
   have kz8:=zcT e8 hT6
   refine on rfl (oR 5 rfl (oZ rfl (jk [2,3,6,7,9] rfl (jT rfl (oR 1 rfl (oZ rfl ?_))))))
   refine zct (fun (jg:Int×Rd)=>[(2,dP g1 0),(3,dI 0),(6,dP g4 0),(7,dP g7 0)]) (fun (jg:Int×Rd)=>[.bx g1 29 (.agg [.v (.string ByteArray.empty),.v (.string ByteArray.empty),dI 0,dI 0,dZ,dZ,dZ,dI 0,dI 0,dI 0]),.bx g7 29 (.agg [.s no6,.s nt6,dI nn6,dI nm6,.sh 1 (nl6.map D.s),.sh 3 (ns6.map MatD.d),.sh 7 (Nd.ds nk6),dI jg.1,dI 0,dI 0]),.bx g4 72 (.agg [.sh 3 (jg.2.l.map TokD.d),dI jg.2.n,dB jg.2.b]),HPow,HErr ev,HSyn es]) (fun (jg:Int×Rd)=>((jg.1,jg.2)=s6.order)) (fun _ hQ9=>?_) ?_
   · skip
     refine jC rfl (fun hc10=>?_) (fun hc10=>?_)
     · skip
       refine jT rfl (oP rfl (zd rfl fa_29_1 rfl) (oE rfl (zi (i:=1) (X':=.agg [.s no6,.s nt6,dI nn6,dI nm6,.sh 1 (nl6.map D.s),.sh 3 (ns6.map MatD.d),.sh 7 (Nd.ds nk6),dI 1,dI 0,dI 0]) rfl rfl rfl (CellD.v rfl) Tryz.sizeOf3 rfl rfl rfl) ?_))
       rintro _ _ ⟨rfl,rfl⟩
       refine on rfl (oZ rfl (jT rfl (oR 1 rfl (oE rfl (Qu.ef (d:=.sh 1 ([(⟨#[100,101,115,99]⟩:ByteArray)].map D.s)) ((zy [.const (.string (⟨#[100,101,115,99]⟩:ByteArray))] rfl rfl (.cons (CellD.v rfl) .nil) rfl Tryz.runUnderlying23 Tryz.sizeOf9 Tryz.zeroValue9 rfl rfl rfl rfl).cv (Cv.shs (.cons (Cv.str (by first | decide | (unfold maxLen;omega))) .nil)))) ?_))))
       rintro _ _ ⟨rfl,rfl⟩
       refine oE rfl (zm [.bx g4 72 (.agg [.sh 3 (s8.l.map TokD.d),dI s8.n,dB s8.b])] [.bx g7 29 (.agg [.s no6,.s nt6,dI nn6,dI nm6,.sh 1 (nl6.map D.s),.sh 3 (ns6.map MatD.d),.sh 7 (Nd.ds nk6),dI 1,dI 0,dI 0]),HPow,HErr ev,HSyn es,.bx g1 29 (.agg [.v (.string ByteArray.empty),.v (.string ByteArray.empty),dI 0,dI 0,dZ,dZ,dZ,dI 0,dI 0,dI 0])] [] rfl rfl (.cons ArgC.id (.cons ArgC.id (.cons ArgC.id .nil))) zg Tryz.call40 (zcV g4 s8 1 [(⟨#[100,101,115,99]⟩:ByteArray)] (by omega) (by omega) hT8 (by decide)) (.inl rfl)) ?_
       rintro _ _ ⟨_,⟨t11,q11,s11,e11,rfl,rfl⟩,rfl⟩
       obtain ⟨ka11,kb11,kc11,hT11⟩:=(zcU e11).out hT8
       have kz11:=zcT e11 hT8
       refine on rfl (oR 5 rfl (oZ rfl (jk [2,3,6,7,11] rfl (jT rfl (oR 1 rfl (oZ rfl ?_))))))
       refine jC rfl (fun hc12=>?_) (fun hc12=>?_)
       · skip
         refine zf rfl (oP rfl (zd rfl fa_29_1 rfl) (oE rfl (zi (i:=1) (X':=.agg [.s no6,.s nt6,dI nn6,dI nm6,.sh 1 (nl6.map D.s),.sh 3 (ns6.map MatD.d),.sh 7 (Nd.ds nk6),dI 2,dI 0,dI 0]) rfl rfl rfl (CellD.v rfl) Tryz.sizeOf3 rfl rfl rfl) ?_))
         rintro _ _ ⟨rfl,rfl⟩
         refine on rfl (zq rfl (PD.subH (HSub.perm (zc (i:=4) rfl)) (pn rfl (PD.subH (HSub.perm (zc (i:=4) rfl)) (pn rfl (PD.subH (HSub.perm (zc (i:=4) rfl)) (pn rfl (PD.subH (HSub.perm (zc (i:=3) rfl)) (pn rfl (PD.subH (HSub.perm (zc (i:=4) rfl)) (pn rfl (PD.subH (HSub.perm (zc (i:=5) rfl)) (pn rfl (pn rfl ?_))))))))))))))
         exact PD.sub [(2,dP g1 0),(3,dI 0),(6,dP g4 0),(7,dP g7 0)] (sa rfl) (hQ9 (2,s11) (order_2 e8 hc10 e11 hc12))
       · skip
         refine jT rfl (oR 1 rfl (oE rfl (zm [.bx g4 72 (.agg [.sh 3 (s11.l.map TokD.d),dI s11.n,dB s11.b])] [.bx g7 29 (.agg [.s no6,.s nt6,dI nn6,dI nm6,.sh 1 (nl6.map D.s),.sh 3 (ns6.map MatD.d),.sh 7 (Nd.ds nk6),dI 1,dI 0,dI 0]),HPow,HErr ev,HSyn es,.bx g1 29 (.agg [.v (.string ByteArray.empty),.v (.string ByteArray.empty),dI 0,dI 0,dZ,dZ,dZ,dI 0,dI 0,dI 0])] [] rfl rfl (.cons ArgC.id (.cons ArgC.id .nil)) zg Tryz.call41 (zeu g4 s11 1 (by omega) (by omega) hT11 (by decide)) (.inl rfl)) ?_))
         rintro _ _ ⟨_,⟨t13,s13,e13,rfl,rfl⟩,rfl⟩
         obtain ⟨ka13,kb13,kc13,hT13⟩:=(zet e13).out hT11
         have kz13:=zes e13 hT11
         refine on rfl (oR 1 rfl (oZ rfl (jT rfl (oR 1 rfl (oP rfl (zeQ rfl rfl rfl) (oZ rfl ?_))))))
         refine jD rfl (fun hc14=>?_) (fun hc14=>?_)
         · skip
           refine zf rfl (oR 2 rfl (oP rfl (zd rfl zX rfl) (oE rfl (zi (i:=0) (X':=.agg [.sh 3 (s13.l.map TokD.d),dI s13.n,dB true]) rfl rfl rfl (CellD.v rfl) Tryz.sizeOf4 rfl rfl rfl) ?_)))
           rintro _ _ ⟨rfl,rfl⟩
           refine on rfl (zq rfl (PD.subH (HSub.perm (zc (i:=4) rfl)) (pn rfl (PD.subH (HSub.perm (zc (i:=4) rfl)) (pn rfl (PD.subH (HSub.perm (zc (i:=4) rfl)) (pn rfl (PD.subH (HSub.perm (zc (i:=3) rfl)) (pn rfl (PD.subH (HSub.perm (zc (i:=4) rfl)) (pn rfl (PD.subH (HSub.perm (zc (i:=5) rfl)) (pn rfl (pn rfl ?_))))))))))))))
           exact PD.sub [(2,dP g1 0),(3,dI 0),(6,dP g4 0),(7,dP g7 0)] (sa rfl) (hQ9 (1,(⟨s13.l,s13.n,true⟩:Rd)) (order_1t e8 hc10 e11 (by simpa using hc12) e13 hc14))
         · skip
           refine zt rfl (PD.subH (HSub.perm (zc (i:=4) rfl)) (pn rfl (PD.subH (HSub.perm (zc (i:=4) rfl)) (pn rfl (PD.subH (HSub.perm (zc (i:=4) rfl)) (pn rfl (PD.subH (HSub.perm (zc (i:=3) rfl)) (pn rfl (PD.subH (HSub.perm (zc (i:=4) rfl)) (pn rfl (PD.subH (HSub.perm (zc (i:=5) rfl)) (pn rfl (pn rfl ?_)))))))))))))
           exact PD.sub [(2,dP g1 0),(3,dI 0),(6,dP g4 0),(7,dP g7 0)] (sa rfl) (hQ9 (1,(⟨s13.l,s13.n,s13.b⟩:Rd)) (order_1f e8 hc10 e11 (by simpa using hc12) e13 hc14))
     · skip
       refine zt rfl (PD.subH (HSub.perm (zc (i:=4) rfl)) (pn rfl (PD.subH (HSub.perm (zc (i:=4) rfl)) (pn rfl (PD.subH (HSub.perm (zc (i:=4) rfl)) (pn rfl (PD.subH (HSub.perm (zc (i:=3) rfl)) (pn rfl (PD.subH (HSub.perm (zc (i:=4) rfl)) (pn rfl (PD.subH (HSub.perm (zc (i:=5) rfl)) (pn rfl (pn rfl ?_)))))))))))))
       exact PD.sub [(2,dP g1 0),(3,dI 0),(6,dP g4 0),(7,dP g7 0)] (sa rfl) (hQ9 (0,s8) (order_0 e8 (by simpa using hc10)))
   · skip
     rintro ⟨o,z⟩ hor
     replace hor:(o,z)=s6.order:=hor
     refine pk [2,3,6,7] rfl (pn rfl (zj (jS rfl ?_)))
     obtain ⟨kx1,ky1,kz1,hTj⟩:=(order_e hor).out hT6
     refine zf rfl (oR 1 rfl (OpsD.subH (HSub.perm (zc (i:=5) rfl)) (on rfl (OpsD.subH (HSub.perm (zc (i:=5) rfl)) (on rfl (OpsD.subH (HSub.perm (zc (i:=5) rfl)) (on rfl (OpsD.subH (HSub.perm (zc (i:=5) rfl)) (on rfl (oE rfl (zm [.bx g4 72 (.agg [.sh 3 (z.l.map TokD.d),dI z.n,dB z.b]),HPow,HErr ev,HSyn es] [.bx g1 29 (.agg [.v (.string ByteArray.empty),.v (.string ByteArray.empty),dI 0,dI 0,dZ,dZ,dZ,dI 0,dI 0,dI 0]),.bx g7 29 (.agg [.s no6,.s nt6,dI nn6,dI nm6,.sh 1 (nl6.map D.s),.sh 3 (ns6.map MatD.d),.sh 7 (Nd.ds nk6),dI o,dI 0,dI 0])] [] rfl rfl (.cons ArgC.id (.cons (ArgC.cv (Cv.str (by first | decide | (unfold maxLen;omega)))) .nil)) zg Tryz.call42 (bound_c g4 z (⟨#[108,105,109,105,116]⟩:ByteArray) ev es hev hes (by omega) (by omega) hTj) (.inl rfl)) ?_))))))))))
     rintro _ _ ⟨_,⟨v15,s15,e15,rfl,rfl⟩,rfl⟩
     obtain ⟨ka15,kb15,kc15,hT15⟩:=(bound_e e15).out hTj
     refine on rfl (oP rfl (zd rfl fa_29_2 rfl) (oE rfl (zi (i:=5) (X':=.agg [.s no6,.s nt6,dI nn6,dI nm6,.sh 1 (nl6.map D.s),.sh 3 (ns6.map MatD.d),.sh 7 (Nd.ds nk6),dI o,dI v15,dI 0]) rfl rfl rfl (CellD.v rfl) Tryz.sizeOf3 rfl rfl rfl) ?_))
     rintro _ _ ⟨rfl,rfl⟩
     refine on rfl (oZ rfl (jT rfl (oR 1 rfl (oE rfl (zm [.bx g4 72 (.agg [.sh 3 (s15.l.map TokD.d),dI s15.n,dB s15.b]),HPow,HErr ev,HSyn es] [.bx g1 29 (.agg [.v (.string ByteArray.empty),.v (.string ByteArray.empty),dI 0,dI 0,dZ,dZ,dZ,dI 0,dI 0,dI 0]),.bx g7 29 (.agg [.s no6,.s nt6,dI nn6,dI nm6,.sh 1 (nl6.map D.s),.sh 3 (ns6.map MatD.d),.sh 7 (Nd.ds nk6),dI o,dI v15,dI 0])] [] rfl rfl (.cons ArgC.id (.cons (ArgC.cv (Cv.str (by first | decide | (unfold maxLen;omega)))) .nil)) zg Tryz.call42 (bound_c g4 s15 (⟨#[111,102,102,115,101,116]⟩:ByteArray) ev es hev hes (by omega) (by omega) hT15) (.inl rfl)) ?_))))
     rintro _ _ ⟨_,⟨v16,s16,e16,rfl,rfl⟩,rfl⟩
     obtain ⟨ka16,kb16,kc16,hT16⟩:=(bound_e e16).out hT15
     refine on rfl (oP rfl (zd rfl fa_29_3 rfl) (oE rfl (zi (i:=5) (X':=.agg [.s no6,.s nt6,dI nn6,dI nm6,.sh 1 (nl6.map D.s),.sh 3 (ns6.map MatD.d),.sh 7 (Nd.ds nk6),dI o,dI v15,dI v16]) rfl rfl rfl (CellD.v rfl) Tryz.sizeOf3 rfl rfl rfl) ?_))
     rintro _ _ ⟨rfl,rfl⟩
     refine on rfl (oZ rfl (jS rfl (jS rfl ?_)))
     have hrd:=read_of hE e5 e6 hor e15 e16
     refine jk [2,3,6,7] rfl ?_
     refine zR 68 ((s16.b||decide ((0:Int)<((s16.l.length:Nat):Int)))) [.bx g4 72 (.agg [.sh 3 (s16.l.map TokD.d),dI s16.n,dB s16.b]),HPow,HErr ev,HSyn es,.bx g1 29 (.agg [.v (.string ByteArray.empty),.v (.string ByteArray.empty),dI 0,dI 0,dZ,dZ,dZ,dI 0,dI 0,dI 0]),.bx g7 29 (.agg [.s no6,.s nt6,dI nn6,dI nm6,.sh 1 (nl6.map D.s),.sh 3 (ns6.map MatD.d),.sh 7 (Nd.ds nk6),dI o,dI v15,dI v16])] (fun _ hQ17=>?_) ?_
     · skip
       rcases Bool.eq_false_or_eq_true (s16.b) with hg18 | hg18
       · skip
         refine zf rfl (oR 2 rfl (oP rfl (zd rfl zX rfl) (oP rfl ((ze rfl (i:=0) rfl Tryz.isAgg4 rfl).cv (Cv.eq (congrArg (fun b=>D.v (.bool b)) (hg18)))) (oR 8 rfl (zq rfl ?_)))))
         exact PD.sub ((68,dB (s16.b||decide ((0:Int)<((s16.l.length:Nat):Int))))::[(2,dP g1 0),(3,dI 0),(6,dP g4 0),(7,dP g7 0)]) ⟨sc rfl (Cv.eq (congrArg (fun b=>D.v (.bool b)) (by first | (simp[hc3,hg18];done) | (simp_all;done)))),sk rfl,sk rfl,sk rfl,sk rfl,trivial⟩ hQ17
       · skip
         refine zf rfl (oR 2 rfl (oP rfl (zd rfl zX rfl) (oP rfl ((ze rfl (i:=0) rfl Tryz.isAgg4 rfl).cv (Cv.eq (congrArg (fun b=>D.v (.bool b)) (hg18)))) (oR 3 rfl (oG rfl (zd rfl zcL rfl) (oG rfl (ze rfl (i:=0) rfl Tryz.isAgg67 rfl) (oG rfl (zbf (n:=s16.l.length) rfl Tryz.runUnderlying67 (by simp only[lm,lc,ln])) (oG rfl (zaF rfl rfl rfl) (oR 1 rfl (zq rfl ?_))))))))))
         exact PD.sub ((68,dB (s16.b||decide ((0:Int)<((s16.l.length:Nat):Int))))::[(2,dP g1 0),(3,dI 0),(6,dP g4 0),(7,dP g7 0)]) ⟨sc rfl (Cv.eq (congrArg (fun b=>D.v (.bool b)) (by first | (simp[hc3,hg18];done) | (simp_all;done)))),sk rfl,sk rfl,sk rfl,sk rfl,trivial⟩ hQ17
     · skip
       refine zj ?_
       refine jC rfl (fun hc19=>?_) (fun hc19=>?_)
       · simp only[bA,bB,bC,bD,bE,bF,bG,bH,bI,bJ] at hc19
         rw[if_pos (by have h:=hc19;rcases h with h | h;exact .inl h;exact .inr (by omega))] at hrd
         obtain ⟨hre,hrq⟩:=read_no hE hrd
         refine jT rfl (oP rfl (zJ [] [] (zv:=(.agg #[(.string ByteArray.empty),(.string ByteArray.empty),(.int .i64 0),(.int .i64 0),(.slice none 0 0),(.slice none 0 0),(.slice none 0 0),(.int .i64 0),(.int .i64 0),(.int .i64 0)])) rfl rfl (.nil) (Tryz.runUnderlying29) Tryz.zeroValue29 bd_29 ⟨rfl,rfl,rfl,rfl,rfl,rfl,rfl,rfl,rfl,rfl,trivial⟩ rfl) (oE rfl (zi (i:=4) (X':=.agg [.v (.string ByteArray.empty),.v (.string ByteArray.empty),dI 0,dI 0,dZ,dZ,dZ,dI 0,dI 0,dI 0]) rfl rfl rfl (CellD.agg) Tryz.sizeOf29 rfl rfl rfl) ?_))
         rintro _ _ ⟨rfl,rfl⟩
         refine on rfl (oR 1 rfl (oZ rfl (zn rfl (zk (PD.subH (HSub.perm (zc (i:=3) rfl)) (pn rfl (PD.subH (HSub.perm (zc (i:=3) rfl)) (pn rfl (PD.subH (HSub.perm (zc (i:=3) rfl)) (pn rfl (pn rfl ?_)))))))))))
         exact zh Tryz.results14 (.cons (zx (zU (X:=.agg [.v (.string ByteArray.empty),.v (.string ByteArray.empty),dI 0,dI 0,dZ,dZ,dZ,dI 0,dI 0,dI 0]) (d:=.agg [.v (.string ByteArray.empty),.v (.string ByteArray.empty),dI 0,dI 0,dZ,dZ,dZ,dI 0,dI 0,dI 0]) (i:=4) rfl rfl Tryz.isAgg29 Tryz.sizeOf29 rfl rfl) (Cv.agg (.cons (Cv.str (by first | decide | (unfold maxLen;omega))) (.cons (Cv.str (by first | decide | (unfold maxLen;omega))) (.cons Cv.rfl' (.cons Cv.rfl' (.cons Cv.nil (.cons Cv.nil (.cons Cv.nil (.cons Cv.rfl' (.cons Cv.rfl' (.cons Cv.rfl' .nil)))))))))))) (.cons (zx (zl rfl) (Cv.eq (congrArg dI hre))) .nil)) rfl (HSub.fst 3 rfl) ⟨ByteArray.empty,ByteArray.empty,0,0,[],[],[],0,0,0,hrq,rfl,rfl⟩
       · simp only[bA,bB,bC,bD,bE,bF,bG,bH,bI,bJ] at hc19
         rw[if_neg (by have h:=hc19;rintro (k | k);(rw[h.1] at k;cases k);omega)] at hrd
         obtain ⟨hre,hrq⟩:=read_yes hE hrd
         refine zt rfl (zj (jT rfl (oP rfl (zH (d:=.agg [.s no6,.s nt6,dI nn6,dI nm6,.sh 1 (nl6.map D.s),.sh 3 (ns6.map MatD.d),.sh 7 (Nd.ds nk6),dI o,dI v15,dI v16]) rfl (i:=5) rfl Tryz.isAgg29 Tryz.sizeOf29 rfl rfl) (oE rfl (zi (i:=4) (X':=.agg [.s no6,.s nt6,dI nn6,dI nm6,.sh 1 (nl6.map D.s),.sh 3 (ns6.map MatD.d),.sh 7 (Nd.ds nk6),dI o,dI v15,dI v16]) rfl rfl rfl (CellD.agg) Tryz.sizeOf29 rfl rfl rfl) ?_))))
         rintro _ _ ⟨rfl,rfl⟩
         refine on rfl (oR 1 rfl (oZ rfl (zn rfl (PD.subH (HSub.perm (zc (i:=3) rfl)) (pn rfl (PD.subH (HSub.perm (zc (i:=3) rfl)) (pn rfl (PD.subH (HSub.perm (zc (i:=3) rfl)) (pn rfl (pn rfl ?_))))))))))
         exact zh Tryz.results14 (.cons (zU (i:=4) rfl rfl Tryz.isAgg29 Tryz.sizeOf29 rfl rfl) (.cons (zx (zl rfl) (Cv.eq (congrArg dI hre))) .nil)) rfl (HSub.fst 3 rfl) ⟨no6,nt6,nn6,nm6,nl6,ns6,nk6,o,v15,v16,hrq,rfl,rfl⟩
end Lp
set_option linter.unusedVariables false
namespace Lp
open Go
def zbC (text:ByteArray) (n:Int):Bool:=if text=nQ then decide (0≤n∧n≤100) else if text=nTop then decide (1≤n∧n≤2000) else true
def zdU (mode a b:Int):Int:=if a=3∨b=3 then 0 else if a=2∧b=2 then 2 else if mode≠0 then 0 else max a b
def zcb (op text:ByteArray) (n mode:Int) (ks:List Int):Int:=
 if op=tNum then 1
 else if op=nSel∧0<n then 3
 else if op=nSel then 2
 else if op=tFn∧ks.length=1 then(if ks.headD 0=3 then 2 else 0)
 else if op=tAgg∧ks.length=1∧zbC text n=true then(if ks.headD 0=2 then 2 else 0)
 else if op=tNeg∧ks.length=1 then(if ks.headD 0=3 then 0 else ks.headD 0)
 else if op=tBin∧ks.length=2 then zdU mode (ks.headD 0) (ks.tail.headD 0)
 else 0
mutual
def Nd.kind:Nd→Int
 | .mk op text n mode _ _ kids=>match Nd.kinds kids with
  | none=>0
  | some ks=>zcb op text n mode ks
def Nd.kinds:List Nd→Option (List Int)
 | []=>some []
 | x::r=>if Nd.kind x=0 then none else(Nd.kinds r).map (Nd.kind x::·)
end
theorem kinds_app:∀ (a b:List Nd),Nd.kinds (a++b)=(Nd.kinds a).bind (fun x=>(Nd.kinds b).map (x++·))
 | [],b=>by simp[Nd.kinds]
 | x::a,b=>by
  simp only[List.cons_append,Nd.kinds]
  split
  · rfl
  · rw[kinds_app a b];cases Nd.kinds a<;>simp[Option.map_map,Function.comp_def]
abbrev zbA:ByteArray:=⟨#[114,97,116,101]⟩
abbrev wCpu:ByteArray:=⟨#[99,112,117]⟩
abbrev d300:ByteArray:=⟨#[51,48,48]⟩
abbrev d1:ByteArray:=⟨#[49]⟩
def alT1:List TokD:=[⟨1,0,zbA⟩,⟨5,4,zag⟩,⟨1,5,wCpu⟩,⟨5,8,tSq⟩,⟨4,9,d300⟩,⟨5,11,tSqE⟩,⟨5,12,zaJ⟩,⟨5,14,zaa⟩,⟨2,16,d1⟩]
def alT2:List TokD:=[⟨1,0,zbA⟩,⟨5,4,zag⟩,⟨1,5,wCpu⟩,⟨5,8,zaJ⟩]
def alN1:Nd:=.mk tBin zaa 0 0 [] [] [.mk tFn zbA 0 0 [] [] [.mk nSel wCpu 300 0 [] [] []],.mk tNum ByteArray.empty 1 0 [] [] []]
def alN2:Nd:=.mk tFn zbA 0 0 [] [] [.mk nSel wCpu 0 0 [] [] []]
theorem alP1 (rm:List MatD→Bool):zbJ rm alT1=some ⟨alN1,0,-1,-1⟩:=by kernel_rfl
theorem alP2 (rm:List MatD→Bool):zbJ rm alT2=some ⟨alN2,0,-1,-1⟩:=by kernel_rfl
end Lp
