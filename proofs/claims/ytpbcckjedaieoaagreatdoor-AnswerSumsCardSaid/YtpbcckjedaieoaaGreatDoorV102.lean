import Derived.Test.YtpbcckjedaieoaaGreatDoorV99
set_option linter.unusedSimpArgs false
set_option linter.unusedVariables false
set_option maxHeartbeats 4000000
set_option maxRecDepth 100000
namespace Lp
open Go Go.RowKit Go.Proofs Tryz
theorem level_c (g:Nat) (s:Rd) (F:FuncId) (part:Rd->Nd×Rd) (sg:List ByteArray) (L:Nat) (ev es:Value) (hp:zbN ev es F L part) (hst:∀ s,Stp 1 s (part s).2) (hcall:∀ args w,(callFunc F args).run prog w=.ok (.enter F args) w) (hL:s.l.length<L) (hw:s.n+2*(s.l.length:Int)<=2000000) (hn:0<=s.n) (hT:TOk s.l):
 CD prog 42 [RB g s,HPow,HErr ev,HSyn es] [dP g 0,.fn F [dP g 0] [],.sh 1 (sg.map D.s)] (NdR g ev es (s.level part sg)):=by
 refine tZ func42 O O (λC=>?_);refine T.bd 2 O (λbd2=>?_);have nl2:=zA bd2;refine g' 2 O ?_;refine tA O (λg1=>?_);refine g' 5 O ?_;refine tX [1,1,1,1] O O acs (hp g s (by omega) (by omega) (by omega) hT) ?_ (hc:=hcall);rintro _ _ ⟨no2,nt2,nn2,nm2,nl2,ns2,nk2,s2,e2,rfl,rfl⟩;obtain ⟨ka2,kb2,kc2,hT2⟩:=(nd_e e2 (hst s)).out hT;refine tA O (λg3=>?_);refine gQ 4 [0] O O (kE 4 O (kE 4 O (kE 4 O (kE 4 O (kE 4 O (kE 5 O (tl3 (λ(a_:Nat) (b_:Rd) (c_:Nd)=>[(0,dP g 0),(1,.fn F [dP g 0] []),(2,.sh 1 (sg.map D.s)),(6,dP g1 0),(7,dP g3 0)]) (λa_ b_ c_=>[.bx g1 58 n4,.bx g3 58 (Nd.d c_),RB g b_,HPow,HErr ev,HSyn es]) (λa_ b_ c_=>(b_.l.length<a_)/\(zc4 part sg a_ c_ b_=zc4 part sg (s2.l.length+1) (Nd.mk no2 nt2 nn2 nm2 nl2 ns2 nk2) s2)/\(b_.n+2*(b_.l.length:Int)<=2000001)/\(0<=b_.n)/\(TOk b_.l)/\(b_.l.length<=s.l.length)) (λa_ b_ c_=>a_) (s2.l.length+1) s2 (Nd.mk no2 nt2 nn2 nm2 nl2 ns2 nk2) O (sa O) mD ⟨Nat.lt_succ_self _,O,(by omega),(by omega),hT2,(by omega)⟩ ?_)))))));rintro f z o ⟨hlf,hf,hzw,hzn,hz,hzl⟩;obtain ⟨f,rfl⟩:∃ k,f=k+1:=⟨f-1,by omega⟩;obtain ⟨o1,o2,o3,o4,o5,o6,o7⟩:=o;refine g' 5 O (tX [2] O O acs (zdm g z 5 sg (by omega) (by omega) hz (by decide)) ?_);rintro _ _ ⟨t4,q4,s4,e4,rfl,rfl⟩;obtain ⟨ka4,kb4,kc4,hT4⟩:=(zdl e4).out hz;have kz4:=zdk e4 hz;refine g' 14 O ?_;refine tC O (λhc5=>?_) (λhc5=>?_)
 · simp only[bX,bJ] at hc5;have hff:=(hf.symm.trans (level_stop e4 (by simpa using hc5))).symm.trans (level_of e2);refine gQ 11 [2,1] O O (kE 5 O (kE 5 O (kE 5 O (kE 3 O ?_))));exact tRs O results42 (.cons (zO (i:=4) O O isAgg58 sizeOf58 O O) .nil) O (mT 4 O) ⟨o1,o2,o3,o4,o5,o6,o7,⟨s4.l,s4.n,s4.b⟩,hff,O,O⟩
 simp only[bX,bJ] at hc5;obtain ⟨kq,kw⟩:=take_yw e4 (by decide) (by simpa using hc5);refine g' 5 O (tX [0] O O (ga (.cons (ArgC.cv cS) (.cons (ArgC.cv cS) .nil))) (mode_c g s4 (⟨#[111,110]⟩:ByteArray) (⟨#[105,103,110,111,114,105,110,103]⟩:ByteArray) (by omega) (by omega) hT4) ?_);rintro _ _ ⟨m6,l6,s6,e6,rfl,rfl⟩;obtain ⟨ka6,kb6,kc6,hT6⟩:=(mode_e e6).out hT4;refine g' 7 O ?_;obtain ⟨⟨p1,p2,p3,p4,p5,p6,p7⟩,z2,en⟩:∃ (p:Nd) (s1:Rd),(p,s1)=part s6:=⟨_,_,rfl⟩;obtain ⟨ka9,kb9,kc9,hT9⟩:=(nd_e en (hst s6)).out hT6;refine kE 5 O (kE 5 O (kE 5 O (kE 3 O (T.keep [0,1,2,6,7,8,9,10,11,14,15,16,17,18,19,20,21,23,24,25,26,27] O ?_))));refine tDr 9 [(28,dP g 0,none),(29,.s t4,none),(30,dI m6,none),(31,.sh 1 (l6.map D.s),none),(32,n3 o1 o2 o3 o4 o5 o6 o7,none),(33,.fn F [dP g 0] [],none),(34,n3 p1 p2 p3 p4 p5 p6 p7,some [RB g z2,HPow,HErr ev,HSyn es,.bx g1 58 n4,.bx g3 58 (n3 o1 o2 o3 o4 o5 o6 o7)]),(35,.sh 7 ([(Nd.mk o1 o2 o3 o4 o5 o6 o7),(Nd.mk p1 p2 p3 p4 p5 p6 p7)].map Nd.d),none),(36,.agg [.v (.string ⟨#[98,105,110]⟩),.s t4,dI 0,dI m6,.sh 1 (l6.map D.s),dZ,.sh 7 ([(Nd.mk o1 o2 o3 o4 o5 o6 o7),(Nd.mk p1 p2 p3 p4 p5 p6 p7)].map Nd.d)],none)] [.bx g1 58 n4,.bx g3 58 (n3 o1 o2 o3 o4 o5 o6 o7)] (Hn:=[RB g z2,HPow,HErr ev,HSyn es,.bx g1 58 n4,.bx g3 58 (n3 o1 o2 o3 o4 o5 o6 o7)]) mixed O O O O (mU 4 O) O ⟨sa_p O O O (zc O),sa_p O O O (zc O),sa_p O O O (zc O),sa_p O O O (zc O),sa_p O O O (zaP (d:=n3 o1 o2 o3 o4 o5 o6 o7) O (i:=1) O isAgg58 sizeOf58 O O),sa_p O O O (zc O),sa_e O O O O (((ef_callv [RB g s6,HPow,HErr ev,HSyn es] [.bx g1 58 n4,.bx g3 58 (n3 o1 o2 o3 o4 o5 o6 o7)] [] O O O (ga .nil) zcW hcall (nd_nm en (hp g s6 (by omega) (by omega) (by omega) hT6)) (.inl rfl))).mono (by rintro _ _ ⟨_,⟨rfl,rfl⟩,rfl⟩;exact⟨rfl,rfl⟩)) (mU 4 rfl),sa_q rfl rfl rfl (zm [.tmp 32,.tmp 34] rfl rfl (.cons CellD.agg (.cons CellD.agg .nil)) rfl runUnderlying56 sizeOf58 zeroValue58 rfl rfl rfl rfl),sa_p rfl rfl rfl (zr [0,1,3,4,6] [.const (.string ⟨#[98,105,110]⟩),.tmp 29,.tmp 30,.tmp 31,.tmp 35] (zv:=n5) rfl rfl (.cons (CellD.v rfl) (.cons CellD.s (.cons (CellD.v rfl) (.cons CellD.sh (.cons CellD.sh .nil))))) (runUnderlying58) zeroValue58 zfQ ⟨rfl,rfl,rfl,rfl,rfl,rfl,rfl,trivial⟩ rfl),trivial⟩ ?_;refine tK O (tX [0] O O acs (zfr g z2 (.v (.string ⟨#[98,105,110]⟩)) (.s t4) (dI 0) (dI m6) (.sh 1 (l6.map D.s)) (dZ) (.sh 7 ([(Nd.mk o1 o2 o3 o4 o5 o6 o7),(Nd.mk p1 p2 p3 p4 p5 p6 p7)].map Nd.d)) (by omega) (by omega) hT9) ?_);rintro _ _ ⟨s7,e7,rfl,rfl⟩;obtain ⟨ka7,kb7,kc7,hT7⟩:=(zfq e7).out hT9;refine gQ 3 [5] O O (kE 5 O (kC (mG (h':=.bx g3 58 (.agg [.s tBin,.s t4,dI 0,dI m6,.sh 1 (l6.map D.s),.sh 3 (([]:List MatD).map MatD.d),.sh 7 (Nd.ds [(Nd.mk o1 o2 o3 o4 o5 o6 o7),(Nd.mk p1 p2 p3 p4 p5 p6 p7)])])) O (mH (Cv.agg (.cons cS (gc (gc (gc (gc (.cons Cv.nil (gc .nil)))))))))) (kE 4 O (kE 4 O (kE 4 O (kE 4 O (kE 4 O (kE 5 O ?_))))))));exact tp3 f s7 (Nd.mk tBin t4 0 m6 l6 ([]:List MatD) [(Nd.mk o1 o2 o3 o4 o5 o6 o7),(Nd.mk p1 p2 p3 p4 p5 p6 p7)]) (sa O) mD ⟨by omega,(level_go e4 (by simpa using hc5) e6 en e7).symm.trans hf,by omega,by omega,hT7,by omega⟩ (by omega)
theorem unary_c (ev es:Value) (L:Nat) (ex:Rd->Nd×Rd) (hev:EvOk ev) (hes:EvOk es) (hex:zbN ev es 26 L ex) (hst:∀ s,Stp 1 s (ex s).2):zbN ev es 97 (L+1) (λs=>zcj rmD ex (s.l.length+1) s):=by
 have key:∀ (f g:Nat) (s:Rd),s.l.length<f->s.l.length<L+1->s.n+2*(s.l.length:Int)<=2000000->0<=s.n->TOk s.l->CD prog 97 [RB g s,HPow,HErr ev,HSyn es] [dP g 0] (NdR g ev es (zcj rmD ex f s)):=by
  intro f
  induction f with
  | zero=>intro g s h;exact absurd h (by omega)
  | succ f ih=>intro g s h hL hw hn hT;exact unary_s g s ev es L ex f hev hes hex hst hL ih h hw hn hT
 exact λg s hL hw hn hT=>key (s.l.length+1) g s (by omega) hL hw hn hT
theorem product_s (g:Nat) (s:Rd) (ev es:Value) (L:Nat) (ex:Rd->Nd×Rd) (hev:EvOk ev) (hes:EvOk es) (hex:zbN ev es 26 L ex) (hst:∀ s,Stp 1 s (ex s).2) (hL:s.l.length<L+1) (hw:s.n+2*(s.l.length:Int)<=2000000) (hn:0<=s.n) (hT:TOk s.l):
 CD prog 69 [RB g s,HPow,HErr ev,HSyn es] [dP g 0] (NdR g ev es (zf8 rmD ex s)):=by
 refine tZ func69 O O (λC=>?_);refine g' 2 O ?_;refine tA O (λg1=>?_);refine g' 7 O (tE O (Qu.ef (d:=.sh 1 ([(⟨#[42]⟩:ByteArray),(⟨#[47]⟩:ByteArray),(⟨#[37]⟩:ByteArray)].map D.s)) ((zm [.const (.string ⟨#[42]⟩),.const (.string ⟨#[47]⟩),.const (.string ⟨#[37]⟩)] O O (.cons (CellD.v O) (.cons (CellD.v O) (.cons (CellD.v O) .nil))) O runUnderlying49 sizeOf9 zeroValue9 O O O O).cv (mS (.cons cS (.cons cS (.cons cS .nil)))))) ?_);rintro _ _ ⟨rfl,rfl⟩;refine tX [1,1,1,1] O O acs (level_c g s 97 (λs=>zcj rmD ex (s.l.length+1) s) [(⟨#[42]⟩:ByteArray),(⟨#[47]⟩:ByteArray),(⟨#[37]⟩:ByteArray)] (L+1) ev es (unary_c ev es L ex hev hes hex hst) (λs=>unaryF_stp rmD hst _ s) Tryz.call97 hL (by omega) (by omega) hT) ?_;rintro _ _ ⟨no2,nt2,nn2,nm2,nl2,ns2,nk2,s2,e2,rfl,rfl⟩;refine gQ 4 [4] O O ?_;exact tRs O results69 (.cons (zO (i:=4) O O isAgg58 sizeOf58 O O) .nil) O (mT 4 O) ⟨no2,nt2,nn2,nm2,nl2,ns2,nk2,⟨s2.l,s2.n,s2.b⟩,e2,O,O⟩
theorem product_c (ev es:Value) (L:Nat) (ex:Rd->Nd×Rd) (hev:EvOk ev) (hes:EvOk es) (hex:zbN ev es 26 L ex) (hst:∀ s,Stp 1 s (ex s).2):zbN ev es 69 (L+1) (λs=>zf8 rmD ex s):=λg s hL hw hn hT=>product_s g s ev es L ex hev hes hex hst hL hw hn hT
theorem sum_s (g:Nat) (s:Rd) (ev es:Value) (L:Nat) (ex:Rd->Nd×Rd) (hev:EvOk ev) (hes:EvOk es) (hex:zbN ev es 26 L ex) (hst:∀ s,Stp 1 s (ex s).2) (hL:s.l.length<L+1) (hw:s.n+2*(s.l.length:Int)<=2000000) (hn:0<=s.n) (hT:TOk s.l):
 CD prog 43 [RB g s,HPow,HErr ev,HSyn es] [dP g 0] (NdR g ev es (sumP rmD ex s)):=by
 refine tZ func43 O O (λC=>?_);refine g' 2 O ?_;refine tA O (λg1=>?_);refine g' 7 O (tE O (Qu.ef (d:=.sh 1 ([(⟨#[43]⟩:ByteArray),(⟨#[45]⟩:ByteArray)].map D.s)) ((zm [.const (.string ⟨#[43]⟩),.const (.string ⟨#[45]⟩)] O O (.cons (CellD.v O) (.cons (CellD.v O) .nil)) O runUnderlying49 sizeOf9 zeroValue9 O O O O).cv (mS (.cons cS (.cons cS .nil))))) ?_);rintro _ _ ⟨rfl,rfl⟩;refine tX [1,1,1,1] O O acs (level_c g s 69 (λs=>zf8 rmD ex s) [(⟨#[43]⟩:ByteArray),(⟨#[45]⟩:ByteArray)] (L+1) ev es (product_c ev es L ex hev hes hex hst) (λs=>prodP_stp rmD hst s) Tryz.call69 hL (by omega) (by omega) hT) ?_;rintro _ _ ⟨no2,nt2,nn2,nm2,nl2,ns2,nk2,s2,e2,rfl,rfl⟩;refine gQ 4 [4] O O ?_;exact tRs O results43 (.cons (zO (i:=4) O O isAgg58 sizeOf58 O O) .nil) O (mT 4 O) ⟨no2,nt2,nn2,nm2,nl2,ns2,nk2,⟨s2.l,s2.n,s2.b⟩,e2,O,O⟩
theorem sum_c (ev es:Value) (L:Nat) (ex:Rd->Nd×Rd) (hev:EvOk ev) (hes:EvOk es) (hex:zbN ev es 26 L ex) (hst:∀ s,Stp 1 s (ex s).2):zbN ev es 43 (L+1) (λs=>sumP rmD ex s):=λg s hL hw hn hT=>sum_s g s ev es L ex hev hes hex hst hL hw hn hT
theorem expr_s (g:Nat) (s:Rd) (ev es:Value) (L:Nat) (ex:Rd->Nd×Rd) (hev:EvOk ev) (hes:EvOk es) (hex:zbN ev es 26 L ex) (hst:∀ s,Stp 1 s (ex s).2) (hL:s.l.length<L+1) (hw:s.n+2*(s.l.length:Int)<=2000000) (hn:0<=s.n) (hT:TOk s.l):
 CD prog 26 [RB g s,HPow,HErr ev,HSyn es] [dP g 0] (NdR g ev es (s.level (sumP rmD ex) [tEqq,tNe,tLt,tLe,tGt,tGe])):=by
 refine tZ func26 O O (λC=>?_);refine g' 2 O ?_;refine tA O (λg1=>?_);refine g' 7 O (tE O (Qu.ef (d:=.sh 1 ([(⟨#[61,61]⟩:ByteArray),(⟨#[33,61]⟩:ByteArray),(⟨#[60]⟩:ByteArray),(⟨#[60,61]⟩:ByteArray),(⟨#[62]⟩:ByteArray),(⟨#[62,61]⟩:ByteArray)].map D.s)) ((zm [.const (.string ⟨#[61,61]⟩),.const (.string ⟨#[33,61]⟩),.const (.string ⟨#[60]⟩),.const (.string ⟨#[60,61]⟩),.const (.string ⟨#[62]⟩),.const (.string ⟨#[62,61]⟩)] O O (.cons (CellD.v O) (.cons (CellD.v O) (.cons (CellD.v O) (.cons (CellD.v O) (.cons (CellD.v O) (.cons (CellD.v O) .nil)))))) O runUnderlying49 sizeOf9 zeroValue9 O O O O).cv (mS (.cons cS (.cons cS (.cons cS (.cons cS (.cons cS (.cons cS .nil))))))))) ?_);rintro _ _ ⟨rfl,rfl⟩;refine tX [1,1,1,1] O O acs (level_c g s 43 (λs=>sumP rmD ex s) [(⟨#[61,61]⟩:ByteArray),(⟨#[33,61]⟩:ByteArray),(⟨#[60]⟩:ByteArray),(⟨#[60,61]⟩:ByteArray),(⟨#[62]⟩:ByteArray),(⟨#[62,61]⟩:ByteArray)] (L+1) ev es (sum_c ev es L ex hev hes hex hst) (λs=>sumP_stp rmD hst s) Tryz.call43 hL (by omega) (by omega) hT) ?_;rintro _ _ ⟨no2,nt2,nn2,nm2,nl2,ns2,nk2,s2,e2,rfl,rfl⟩;refine gQ 4 [4] O O ?_;exact tRs O results26 (.cons (zO (i:=4) O O isAgg58 sizeOf58 O O) .nil) O (mT 4 O) ⟨no2,nt2,nn2,nm2,nl2,ns2,nk2,⟨s2.l,s2.n,s2.b⟩,e2,O,O⟩
theorem expr_c (ev es:Value) (L:Nat) (ex:Rd->Nd×Rd) (hev:EvOk ev) (hes:EvOk es) (hex:zbN ev es 26 L ex) (hst:∀ s,Stp 1 s (ex s).2):zbN ev es 26 (L+1) (λs=>s.level (sumP rmD ex) [tEqq,tNe,tLt,tLe,tGt,tGe]):=λg s hL hw hn hT=>expr_s g s ev es L ex hev hes hex hst hL hw hn hT
theorem exprOk (ev es:Value) (hev:EvOk ev) (hes:EvOk es):∀ f:Nat,zbN ev es 26 f (zfN rmD f)
 | 0=>λg s h=>absurd h (by omega)
 | f+1=>expr_c ev es f (zfN rmD f) hev hes (exprOk ev es hev hes f) (λs=>exprF_stp rmD f s)
theorem bound_c (g:Nat) (s:Rd) (w:ByteArray) (ev es:Value) (hev:EvOk ev) (hes:EvOk es) (hw:s.n+2*(s.l.length:Int)<=3000000) (hn:0<=s.n) (hT:TOk s.l):
 CD prog 29 [RB g s,HPow,HErr ev,HSyn es] [dP g 0,.s w] (λr H'=>∃ v s',(v,s')=s.bound w/\r=dI v/\H'=[RB g s',HPow,HErr ev,HSyn es]):=by
 refine tZ func29 O O (λC=>?_);refine T.bd 1 O (λbd1=>?_);have sz1:w.size<=9223372036854775807:=bd1;refine g' 10 O (tE O (Qu.ef (d:=.sh 1 ([w].map D.s)) (zm [.tmp 10] O O (.cons CellD.s .nil) O runUnderlying49 sizeOf9 zeroValue9 O O O O)) ?_);rintro _ _ ⟨rfl,rfl⟩;refine tX [0] O O acs (zdm g s 1 [w] (by omega) (by omega) hT (by decide)) ?_;rintro _ _ ⟨t1,q1,s1,e1,rfl,rfl⟩;obtain ⟨ka1,kb1,kc1,hT1⟩:=(zdl e1).out hT;have kz1:=zdk e1 hT;refine g' 13 O ?_;refine tC O (λhc2=>?_) (λhc2=>?_)
 · simp only[bX,bJ] at hc2;refine g' 7 O ?_;exact tR O (mT 4 O) ⟨_,⟨s1.l,s1.n,s1.b⟩,bound_0 e1 (by simpa using hc2),O,O⟩
 simp only[bX,bJ] at hc2;refine g' 5 O (tX [0,0,0,0] O O acs (rdnum_c g s1 2 ev es hev hes (by omega) (by omega) hT1 (by omega)) ?_);rintro _ _ ⟨v3,s3,e3,rfl,rfl⟩;obtain ⟨ka3,kb3,kc3,hT3⟩:=(number_e e3).out hT1;have kv3:=number_bd e3 (by omega) hT1;refine gQ 11 [0] O O ?_;refine tOr 5 2 (c:=decide ((2000:Int)<v3)) O O O O O O (λhb4 nx5=>?_) ?_
 · refine g' 2 O ?_;exact nx5 _ O O (kx 2 O O)
 refine gQ 12 [0] O O ?_;exact tR O (mT 4 O) ⟨_,⟨s3.l,s3.n,(s3.b||decide ((2000:Int)<v3))⟩,bound_1 e1 (by simpa using hc2) e3,O,O⟩
theorem bd_60:BdP prog #[⟨"Root",58,0,false, "", "",0⟩,⟨"Order",3,7,false, "", "",120⟩,⟨"Limit",3,8,false, "", "",128⟩,⟨"Offset",3,9,false, "", "",136⟩] [(0,7),(7,1),(8,1),(9,1)]:=λ_=>by kernel_rfl
theorem bd_78:BdP prog #[⟨"l",73,0,false, "", "leporello/parse",0⟩,⟨"nodes",3,1,false, "", "leporello/parse",24⟩,⟨"bad",4,2,false, "", "leporello/parse",32⟩] [(0,1),(1,1),(2,1)]:=λ_=>by kernel_rfl
def QdR (q:QryD) (e:Int) (tabs:List Hp):D->List Hp->Prop:=λr H'=>∃ op text n mode names ms kids o a b,(⟨Nd.mk op text n mode names ms kids,o,a,b⟩:QryD)=q/\r=.tup [.agg [.s op,.s text,dI n,dI mode,.sh 1 (names.map D.s),.sh 3 (ms.map MatD.d),.sh 7 (Nd.ds kids),dI o,dI a,dI b],dI e]/\H'=tabs
theorem order_e {s s':Rd} {o:Int} (e:(o,s')=s.order):Stp 0 s s':=by
 have h:s'=s.order.2:=congrArg Prod.snd e;rw[h];unfold Rd.order;simp only;split
 · exact zao s 1 _
 split
 · exact((zao s 1 [zej]).trans (zao _ 1 _)).le (by omega)
 exact((((zao s 1 [zej]).trans (zao _ 1 [zf0])).trans (zdH _ 1)).le (by omega)).bad _
theorem order_1t {s s1 s2 s3:Rd} {t t' c:ByteArray} {q q':Bool} (e:(t,q,s1)=s.take 1 [zej]) (hq:q=true) (e2:(t',q',s2)=s1.take 1 [zf0]) (hq':¬q'=true) (e3:(c,s3)=s2.any 1) (hc:c≠tAsc):(1,(⟨s3.l,s3.n,true⟩:Rd))=s.order:=by
 rw[<-order_1 e hq e2 hq' e3,decide_eq_true hc,Bool.or_true]
theorem order_1f {s s1 s2 s3:Rd} {t t' c:ByteArray} {q q':Bool} (e:(t,q,s1)=s.take 1 [zej]) (hq:q=true) (e2:(t',q',s2)=s1.take 1 [zf0]) (hq':¬q'=true) (e3:(c,s3)=s2.any 1) (hc:¬c≠tAsc):(1,(⟨s3.l,s3.n,s3.b⟩:Rd))=s.order:=by
 rw[<-order_1 e hq e2 hq' e3,decide_eq_false hc,vB]
section
variable {s:ByteArray} {z s1 s2 s3 s4:Rd} {n:Nd} {o a b:Int}
theorem read_of (hE:lexE s=0) (e0:z=⟨lexL s,0,false⟩) (e1:(n,s1)=zfN rmD ((lexL s).length+1) z) (e2:(o,s2)=s1.order) (e3:(a,s3)=s2.bound tLimit) (e4:(b,s4)=s3.bound tOffset):ze0 rmD (lexL s)=if s4.b=true\/0<s4.l.length then none else some ⟨n,o,a,b⟩:=by
 unfold ze0;simp only;rw[<-e0,<-e1];simp only;rw[<-e2];simp only;rw[<-e3];simp only;rw[<-e4]
theorem read_no (hE:lexE s=0) (h:ze0 rmD (lexL s)=none):2=zc7 s/\noQ=zc6 s:=by
 unfold zc7 zc6;rw[if_pos hE,if_pos hE,h];exact⟨rfl,rfl⟩
theorem read_yes (hE:lexE s=0) {q:QryD} (h:ze0 rmD (lexL s)=some q):0=zc7 s/\q=zc6 s:=by
 unfold zc7 zc6;rw[if_pos hE,if_pos hE,h];exact⟨rfl,rfl⟩
theorem read_lex (hE:¬lexE s=0):lexE s=zc7 s/\noQ=zc6 s:=by
 unfold zc7 zc6;rw[if_neg hE,if_neg hE];exact⟨rfl,rfl⟩
end
theorem ze7 (s:ByteArray) (ev es:Value) (hev:EvOk ev) (hes:EvOk es):
 CD prog 12 [HPow,HErr ev,HSyn es] [.s s] (QdR (zc6 s) (zc7 s) [HPow,HErr ev,HSyn es]):=by
 refine tZ func12 O O (λC=>?_);refine T.bd 0 O (λbd0=>?_);have sz0:s.size<=9223372036854775807:=bd0;refine g' 2 O ?_;refine tA O (λg1=>?_);refine g' 6 O (tX [1,1] O O acs (Words_c s ev hev) ?_);rintro _ _ ⟨wv2,rfl,rfl⟩;refine g' 14 O ?_;refine tD O (λhc3=>?_) (λhc3=>?_)
 · obtain ⟨hre,hrq⟩:=read_lex (s:=s) hc3;refine g' 2 O (tP O (zr [] [] (zv:=cE) O O (.nil) (runUnderlying60) zeroValue60 bd_60 ⟨O,O,O,O,O,O,O,O,O,O,trivial⟩ O) (gQ 7 [3] O O (kE 4 O (kE 3 O (kE 3 O ?_)))));exact tRs O results12 (.cons (zf (zO (X:=cR) (d:=cR) (i:=4) O O isAgg60 sizeOf60 O O) (Cv.agg (.cons cS (.cons cS (gc (gc (.cons Cv.nil (.cons Cv.nil (.cons Cv.nil (gc (gc (gc .nil)))))))))))) (.cons (zf (zd O) (mB (congrArg dI hre))) .nil)) O (mT 3 O) ⟨ByteArray.empty,ByteArray.empty,0,0,[],[],[],0,0,0,hrq,O,O⟩
 have hE:lexE s=0:=by simpa using hc3
 have hsz:=(lexE_0 hE).1;have hll:=lexL_len s;refine g' 3 O ?_;refine m9 (Mv.freeze (K':=[(0,.s s),(2,dP g1 0),(3,dI 0),(4,.sh 3 ((lexL s).map TokD.d)),(5,dI (lexE s)),(13,.tup [.sh 3 ((lexL s).map TokD.d),dI (lexE s)]),(14,.s s),(15,.tup [.sh 3 ((lexL s).map TokD.d),dI (lexE s)]),(16,.sh 3 ((lexL s).map TokD.d)),(17,dI (lexE s)),(18,dI (lexE s)),(19,dB (decide ((lexE s)≠(0:Int))))]) [.sl wv2 3 95 ((lexL s).map TokD.d)] (H1:=[HPow,HErr ev,.bx g1 60 cR,HSyn es]) (H1':=[HPow,HErr ev,.bx g1 60 cR,HSyn es]) ⟨⟨_,O,mO⟩,⟨_,O,mO⟩,⟨_,O,mO⟩,⟨_,O,mP (j:=0) O O⟩,⟨_,O,mO⟩,⟨_,O,ArgC.tup (.cons (mP (j:=0) O O) (ga .nil))⟩,⟨_,O,mO⟩,⟨_,O,ArgC.tup (.cons (mP (j:=0) O O) (ga .nil))⟩,⟨_,O,mP (j:=0) O O⟩,⟨_,O,mO⟩,⟨_,O,mO⟩,⟨_,O,mO⟩,trivial⟩ (.same (.same (.same (.same .nil))))) ?_;refine g' 2 O (tP O (zr [0] [.tmp 22] (zv:=(.agg #[(.slice none 0 0),(.int .i64 0),(.bool false)])) O O (.cons CellD.sh .nil) (runUnderlying78) zeroValue78 bd_78 ⟨O,O,O,trivial⟩ O) ?_);refine tA O (λg4=>?_);refine g' 4 O ?_;obtain ⟨s5,e5⟩:∃ x:Rd,x=⟨(lexL s),0,false⟩:=⟨_,rfl⟩;have hl5:s5.l=(lexL s):=by rw[e5]
 have hn5:s5.n=0:=by rw[e5]
 have hT5:TOk s5.l:=by rw[hl5];exact lexL_tok s
 have hk5:s5.l.length=(lexL s).length:=by rw[hl5]
 refine kD [RB g4 s5,HPow,HErr ev,.bx g1 60 cR,HSyn es] (by rw[e5]<;>rfl) (g' 2 O (tX [0,0,0,1] O O acs (exprOk ev es hev hes ((lexL s).length+1) g4 s5 (by omega) (by omega) (by omega) hT5) ?_));rintro _ _ ⟨no6,nt6,nn6,nm6,nl6,ns6,nk6,s6,e6,rfl,rfl⟩;obtain ⟨ka6,kb6,kc6,hT6⟩:=(nd_e e6 (exprF_stp rmD _ s5)).out hT5;refine tP O (zr [0] [.tmp 26] (zv:=cE) O O (.cons CellD.agg .nil) (runUnderlying60) zeroValue60 bd_60 ⟨O,O,O,O,O,O,O,O,O,O,trivial⟩ O) ?_;refine tA O (λg7=>?_);refine gQ 7 [0] O O (tE O (Qu.ef (d:=.sh 1 ([(⟨#[111,114,100,101,114]⟩:ByteArray)].map D.s)) ((zm [.const (.string ⟨#[111,114,100,101,114]⟩)] O O (.cons (CellD.v O) .nil) O runUnderlying49 sizeOf9 zeroValue9 O O O O).cv (mS (.cons cS .nil)))) ?_);rintro _ _ ⟨rfl,rfl⟩;refine tX [1] O O acs (zdm g4 s6 1 [(⟨#[111,114,100,101,114]⟩:ByteArray)] (by omega) (by omega) hT6 (by decide)) ?_;rintro _ _ ⟨t8,q8,s8,e8,rfl,rfl⟩;obtain ⟨ka8,kb8,kc8,hT8⟩:=(zdl e8).out hT6;have kz8:=zdk e8 hT6;refine g' 12 O ?_;refine tJ (λ(jg:Int×Rd)=>[(2,dP g1 0),(3,dI 0),(6,dP g4 0),(7,dP g7 0)]) (λ(jg:Int×Rd)=>[.bx g1 60 cR,.bx g7 60 (.agg [.s no6,.s nt6,dI nn6,dI nm6,.sh 1 (nl6.map D.s),.sh 3 (ns6.map MatD.d),.sh 7 (Nd.ds nk6),dI jg.1,dI 0,dI 0]),.bx g4 78 (.agg [.sh 3 (jg.2.l.map TokD.d),dI jg.2.n,dB jg.2.b]),HPow,HErr ev,HSyn es]) (λ(jg:Int×Rd)=>((jg.1,jg.2)=s6.order)) (λ_ hQ9=>?_) ?_
 · refine tC O (λhc10=>?_) (λhc10=>?_)
   · refine gQ 9 [1] O O (tE O (Qu.ef (d:=.sh 1 ([(⟨#[100,101,115,99]⟩:ByteArray)].map D.s)) ((zm [.const (.string ⟨#[100,101,115,99]⟩)] O O (.cons (CellD.v O) .nil) O runUnderlying49 sizeOf9 zeroValue9 O O O O).cv (mS (.cons cS .nil)))) ?_);rintro _ _ ⟨rfl,rfl⟩;refine tX [0] O O acs (zdm g4 s8 1 [(⟨#[100,101,115,99]⟩:ByteArray)] (by omega) (by omega) hT8 (by decide)) ?_;rintro _ _ ⟨t11,q11,s11,e11,rfl,rfl⟩;obtain ⟨ka11,kb11,kc11,hT11⟩:=(zdl e11).out hT8;have kz11:=zdk e11 hT8;refine g' 12 O ?_;refine tC O (λhc12=>?_) (λhc12=>?_)
     · refine gQ 4 [1] O O (kE 4 O (kE 4 O (kE 4 O (kE 3 O (kE 4 O (kE 5 O ?_))))));exact tqe (hQ9 (2,s11) (order_2 e8 hc10 e11 hc12)) O
     refine g' 3 O (tX [0] O O acs (zfC g4 s11 1 (by omega) (by omega) hT11 (by decide)) ?_);rintro _ _ ⟨t13,s13,e13,rfl,rfl⟩;obtain ⟨ka13,kb13,kc13,hT13⟩:=(zfB e13).out hT11;have kz13:=zfA e13 hT11;refine g' 9 O ?_;refine tD O (λhc14=>?_) (λhc14=>?_)
     · refine gQ 6 [0] O O (kE 4 O (kE 4 O (kE 4 O (kE 3 O (kE 4 O (kE 5 O ?_))))));exact tqe (hQ9 (1,(⟨s13.l,s13.n,true⟩:Rd)) (order_1t e8 hc10 e11 (by simpa using hc12) e13 hc14)) O
     refine g' 1 O (kE 4 O (kE 4 O (kE 4 O (kE 3 O (kE 4 O (kE 5 O ?_))))));exact tqe (hQ9 (1,(⟨s13.l,s13.n,s13.b⟩:Rd)) (order_1f e8 hc10 e11 (by simpa using hc12) e13 hc14)) O
   refine g' 1 O (kE 4 O (kE 4 O (kE 4 O (kE 3 O (kE 4 O (kE 5 O ?_))))));exact tqe (hQ9 (0,s8) (order_0 e8 (by simpa using hc10))) O
 rintro ⟨o,z⟩ hor
 replace hor:(o,z)=s6.order:=hor
 refine T.kk [(2,dP g1 0),(3,dI 0),(6,dP g4 0),(7,dP g7 0)] O (kD [.bx g1 60 cR,.bx g7 60 (.agg [.s no6,.s nt6,dI nn6,dI nm6,.sh 1 (nl6.map D.s),.sh 3 (ns6.map MatD.d),.sh 7 (Nd.ds nk6),dI o,dI 0,dI 0]),RB g4 z,HPow,HErr ev,HSyn es] (by rfl) (g' 2 O ?_));obtain ⟨kx1,ky1,kz1,hTj⟩:=(order_e hor).out hT6;refine g' 2 O (tX [2,2,2,2] O O (ga (.cons (ArgC.cv cS) .nil)) (bound_c g4 z (⟨#[108,105,109,105,116]⟩:ByteArray) ev es hev hes (by omega) (by omega) hTj) ?_);rintro _ _ ⟨v15,s15,e15,rfl,rfl⟩;obtain ⟨ka15,kb15,kc15,hT15⟩:=(bound_e e15).out hTj;refine gQ 7 [5] O O (tX [0,0,0,0] O O (ga (.cons (ArgC.cv cS) .nil)) (bound_c g4 s15 (⟨#[111,102,102,115,101,116]⟩:ByteArray) ev es hev hes (by omega) (by omega) hT15) ?_);rintro _ _ ⟨v16,s16,e16,rfl,rfl⟩;obtain ⟨ka16,kb16,kc16,hT16⟩:=(bound_e e16).out hT15;refine gQ 6 [5] O O ?_;have hrd:=read_of hE e5 e6 hor e15 e16;refine gQ 6 [0] O O ?_;refine tOr 4 6 (c:=decide ((0:Int)<((s16.l.length:Nat):Int))) O O O O O O (λhb17 nx18=>?_) ?_
 · refine gQ 4 [0] O O (tG O (zH (n:=s16.l.length) O runUnderlying73 (by simp only[lm,lc,ln])) (g' 1 O ?_));exact nx18 _ O O (kx 6 O O)
 refine g' 2 O ?_;refine tC O (λhc19=>?_) (λhc19=>?_)
 · simp only[bX,bJ] at hc19;rw[if_pos (by have h:=hc19;rcases h with h | h;exact .inl h;exact .inr (by omega))] at hrd;obtain ⟨hre,hrq⟩:=read_no hE hrd;refine g' 2 O (tP O (zr [] [] (zv:=cE) O O (.nil) (runUnderlying60) zeroValue60 bd_60 ⟨O,O,O,O,O,O,O,O,O,O,trivial⟩ O) (gQ 6 [4] O O (kE 3 O (kE 3 O (kE 3 O ?_)))));exact tRs O results12 (.cons (zf (zO (X:=cR) (d:=cR) (i:=4) O O isAgg60 sizeOf60 O O) (Cv.agg (.cons cS (.cons cS (gc (gc (.cons Cv.nil (.cons Cv.nil (.cons Cv.nil (gc (gc (gc .nil)))))))))))) (.cons (zf (zd O) (mB (congrArg dI hre))) .nil)) O (mT 3 O) ⟨ByteArray.empty,ByteArray.empty,0,0,[],[],[],0,0,0,hrq,O,O⟩
 simp only[bX,bJ] at hc19;rw[if_neg (by have h:=hc19;rintro (k | k);(rw[h.1] at k;cases k);omega)] at hrd;obtain ⟨hre,hrq⟩:=read_yes hE hrd;refine gQ 10 [5,4] O O (kE 3 O (kE 3 O (kE 3 O ?_)));exact tRs O results12 (.cons (zO (i:=4) O O isAgg60 sizeOf60 O O) (.cons (zf (zd O) (mB (congrArg dI hre))) .nil)) O (mT 3 O) ⟨no6,nt6,nn6,nm6,nl6,ns6,nk6,o,v15,v16,hrq,O,O⟩
end Lp
namespace Lp
open Go
def zeY (text:ByteArray) (n:Int):Bool:=if text=nQ then decide (0<=n/\n<=100) else if text=nTop then decide (1<=n/\n<=2000) else true
def zfx (mode a b:Int):Int:=if a=3\/b=3 then 0 else if a=2/\b=2 then 2 else if mode≠0 then 0 else max a b
def kindOf (op text:ByteArray) (n mode:Int) (ks:List Int):Int:=
 if op=tNum then 1
 else if op=nSel/\0<n then 3
 else if op=nSel then 2
 else if op=tFn/\ks.length=1 then(if ks.headD 0=3 then 2 else 0)
 else if op=tAgg/\ks.length=1/\zeY text n=true then(if ks.headD 0=2 then 2 else 0)
 else if op=tNeg/\ks.length=1 then(if ks.headD 0=3 then 0 else ks.headD 0)
 else if op=tBin/\ks.length=2 then zfx mode (ks.headD 0) (ks.tail.headD 0)
 else 0
mutual
def Nd.kind:Nd->Int
 | .mk op text n mode _ _ kids=>match Nd.kinds kids with
  | none=>0
  | some ks=>kindOf op text n mode ks
def Nd.kinds:List Nd->Option (List Int)
 | []=>some []
 | x::r=>if Nd.kind x=0 then none else(Nd.kinds r).map (Nd.kind x::·)
end
theorem kinds_app:∀ (a b:List Nd),Nd.kinds (a++b)=(Nd.kinds a).bind (λx=>(Nd.kinds b).map (x++·))
 | [],b=>by simp[Nd.kinds]
 | x::a,b=>by
  simp only[jJ,Nd.kinds];split
  · rfl
  rw[kinds_app a b];cases Nd.kinds a<;>simp[Option.map_map,Function.comp_def]
abbrev d1:ByteArray:=⟨#[49]⟩
theorem cnt_mem {l:List Nd} {x:Nd} (h:x∈l):x.cnt<=Nd.cntL l:=by
 induction l with
 | nil=>cases h
 | cons y l ih=>
  simp only[Nd.cntL];rcases dO.1 h with e | e
  · rw[e];omega
  have:=ih e;omega
theorem Nd.ind {p:Nd->Prop} (h:∀ op text n mode names ms kids,(∀ x∈kids,p x)->p (.mk op text n mode names ms kids)):∀ q,p q:=by
 have key:∀ (n:Nat) (q:Nd),q.cnt=n->p q:=by
  intro n
  induction n using Nat.strongRecOn with
  | _ n ih=>
   intro q hq;obtain ⟨op,text,n',mode,names,ms,kids⟩:=q;refine h op text n' mode names ms kids (λx hx=>ih x.cnt ?_ x O);have:=cnt_mem hx;simp only[Nd.cnt] at hq;omega
 exact λq=>key q.cnt q O
theorem cntL_len:∀ l:List Nd,l.length<=Nd.cntL l
 | []=>dD _
 | x::r=>by
  have:=cntL_len r;have h:1<=x.cnt:=by cases x;simp[Nd.cnt]
  simp only[Nd.cntL,dM];omega
inductive Ask where
 | leaf (k:Int)
 | whole (a b:Int)
 | plain
 | pair (m:Int)
 | none
def zbE (op text:ByteArray) (n mode:Int) (len:Nat):Ask:=
 if op=tNum then .leaf 1
 else if op=nSel/\0<n then .leaf 3
 else if op=nSel then .leaf 2
 else if op=tFn/\len=1 then .whole 3 2
 else if op=tAgg/\len=1/\zeY text n=true then .whole 2 2
 else if op=tNeg/\len=1 then .plain
 else if op=tBin/\len=2 then .pair mode
 else .none
def Ask.fits:Ask->Nat->Prop
 | .whole _ _,n=>n=1
 | .plain,n=>n=1
 | .pair _,n=>n=2
 | _,_=>True
def Ask.kind:Ask->List Int->Int
 | .leaf k,_=>k
 | .whole a b,ks=>if ks.headD 0=a then b else 0
 | .plain,ks=>if ks.headD 0=3 then 0 else ks.headD 0
 | .pair m,ks=>zfx m (ks.headD 0) (ks.tail.headD 0)
 | .none,_=>0
theorem ask_kind (op text:ByteArray) (n mode:Int) (ks:List Int):kindOf op text n mode ks=(zbE op text n mode ks.length).kind ks:=by
 unfold kindOf zbE;repeat' split
 all_goals first | rfl | (simp only[Ask.kind];rw[if_pos (by assumption)]) | (simp only[Ask.kind];rw[if_neg (by assumption)])
theorem ask_fits (op text:ByteArray) (n mode:Int) (len:Nat):(zbE op text n mode len).fits len:=by
 unfold zbE;repeat' split
 all_goals first | trivial | (rename_i h;exact h.2) | (rename_i h;exact h.2.1)
theorem kinds_len:∀ {l:List Nd} {ks:List Int},Nd.kinds l=some ks->ks.length=l.length
 | [],ks,h=>by simp[Nd.kinds] at h;subst h;rfl
 | x::r,ks,h=>by
  simp only[Nd.kinds] at h;split at h
  · cases h
  cases e:Nd.kinds r with
  | none=>rw[e] at h;cases h
  | some k2=>rw[e] at h;simp at h;subst h;simp[kinds_len e]
theorem kinds_one (x:Nd):Nd.kinds [x]=if x.kind=0 then none else some [x.kind]:=by simp[Nd.kinds]
theorem kinds_go {l:List Nd} {k:Nat} {x:Nd} {o:List Int} (hx:l[k]?=some x) (h:Nd.kinds (l.take k)=some o) (hk:¬x.kind=0):Nd.kinds (l.take (k+1))=some (o++[x.kind]):=by
 rw[zU hx,kinds_app,h,kinds_one,if_neg hk];rfl
theorem kinds_bad {l:List Nd} {k:Nat} {x:Nd} {o:List Int} (hx:l[k]?=some x) (h:Nd.kinds (l.take k)=some o) (hk:x.kind=0):Nd.kinds l=none:=by
 have e:l=l.take (k+1)++l.drop (k+1):=(dQ _ _).symm;rw[e,kinds_app,zU hx,kinds_app,h,kinds_one,if_pos hk];rfl
def Nd.kindE (q:Nd):Int:=if q.kind=0 then 3 else 0
def zcJ (l:List Nd):List Int:=(Nd.kinds l).getD []
def zdN (l:List Nd):Int:=if (Nd.kinds l).isSome=true then 0 else 3
theorem kinds_no {l:List Nd} (h:Nd.kinds l=none):[]=zcJ l/\3=zdN l:=by unfold zcJ zdN;rw[h];exact⟨rfl,rfl⟩
theorem kinds_yes {l:List Nd} {o:List Int} (h:Nd.kinds l=some o):o=zcJ l/\0=zdN l:=by unfold zcJ zdN;rw[h];exact⟨rfl,rfl⟩
theorem kindE_c (l:List Nd):(zdN l=0/\Nd.kinds l=some (zcJ l))\/(zdN l=3/\Nd.kinds l=none):=by
 unfold zcJ zdN;cases Nd.kinds l with
 | none=>exact .inr ⟨rfl,rfl⟩
 | some ks=>exact .inl ⟨rfl,rfl⟩
theorem kind_no {op text:ByteArray} {n mode:Int} {names:List ByteArray} {ms:List MatD} {kids:List Nd} (h:Nd.kinds kids=none):(Nd.mk op text n mode names ms kids).kind=0:=by simp only[Nd.kind,h]
theorem kind_yes {op text:ByteArray} {n mode:Int} {names:List ByteArray} {ms:List MatD} {kids:List Nd} {ks:List Int} (h:Nd.kinds kids=some ks):(Nd.mk op text n mode names ms kids).kind=(zbE op text n mode kids.length).kind ks:=by
 simp only[Nd.kind,h];rw[ask_kind,kinds_len h]
def Nd.checkE (q:Nd):Int:=if q.kind=0\/q.kind=3 then 3 else 0
end Lp
namespace Lp
open Go Go.RowKit Go.Proofs Tryz
variable {l:List Int}
def Ask.d:Ask->D
 | .leaf k=>.ifc 152 (.agg [dI k])
 | .whole a b=>.ifc 155 (.agg [dI a,dI b])
 | .plain=>.ifc 161 (.agg [])
 | .pair m=>.ifc 158 (.agg [dI m])
 | .none=>.v .nilIface
theorem hd_0 {x:Int} (h:l[0]?=some x):l.headD 0=x:=by
 cases l with
 | nil=>cases h
 | cons y r=>injection h
theorem hd_1 {x:Int} (h:l[1]?=some x):l.tail.headD 0=x:=by
 cases l with
 | nil=>cases h
 | cons y r=>cases r with
  | nil=>cases h
  | cons z r=>injection h
end Lp
