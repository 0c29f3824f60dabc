import Derived.Test.YtpbcckjedaieoaaGreatDoorPParse4
set_option linter.unusedSimpArgs false
set_option linter.unusedVariables false
set_option maxHeartbeats 4000000
set_option maxRecDepth 100000
namespace Lp
open Go Go.RowKit Go.Proofs Tryz
variable {u:Int} {ty:TypeId} {x:Operand}
theorem infz_9:IzP prog 9 (.string ByteArray.empty) 1 16:=zbg (by kernel_rfl)
theorem und_49:Tryz.prog.underlying 49=some (.slice 9):=by kernel_rfl
abbrev RB (g:Nat) (s:Rd):Hp:=.bx g 78 (.agg [.sh 3 (s.l.map TokD.d),dI s.n,dB s.b])
def NdR (g:Nat) (ev es:Value) (p:Nd×Rd):D->List Hp->Prop:=λr H'=>∃ op text n mode names ms kids s',(Nd.mk op text n mode names ms kids,s')=p/\r=n3 op text n mode names ms kids/\H'=[RB g s',HPow,HErr ev,HSyn es]
theorem peek_c (g:Nat) (s:Rd) (hw:s.n+2*(s.l.length:Int)<=3000000) (hn:0<=s.n) (hT:TOk s.l):
 CD prog 45 [RB g s] [dP g 0] (λr H'=>r=TokD.d s.pk/\H'=[RB g s]):=by
 refine tZ func45 O O (λC=>?_);refine g' 2 O ?_;refine tA O (λg1=>?_);refine gQ 9 [1] O O (tP O (zH (n:=s.l.length) O runUnderlying73 (by simp only[lm,lc,ln])) (g' 3 O ?_));refine tD O (λhc2=>?_) (λhc2=>?_)
 · refine g' 2 O (tP O (zr [] [] (zv:=cH) O O (.nil) (runUnderlying95) zeroValue95 zd7 ⟨O,O,O,trivial⟩ O) (gQ 5 [0] O O (kE 1 O ?_)));exact tRs O results45 (.cons (zf (zO (X:=.agg [dI 0,dI 0,cA]) (d:=.agg [dI 0,dI 0,cA]) (i:=1) O O isAgg95 sizeOf95 O O) ((Cv.agg (gc (gc (.cons (cS) .nil)))).trans (mB (congrArg TokD.d (show (TokD.mk 0 0 ByteArray.empty)=s.pk from(pk_0 (by omega)).symm))))) .nil) O (mT 1 O) ⟨O,O⟩
 refine gQ 8 [1] O O ?_;obtain ⟨x1,hx1⟩:=zj s.l 0 (by omega);refine tP O (zh (k:=0) O O runUnderlying73 sizeOf95 (by first | rfl | omega) (ze hx1)) (gQ 5 [0] O O (kE 1 O ?_));exact tRs O results45 (.cons (zf (zO (X:=TokD.d x1) (d:=TokD.d x1) (i:=1) O O isAgg95 sizeOf95 O O) ((mA).trans (mB (congrArg TokD.d (show x1=s.pk from(pk_x hx1).symm))))) .nil) O (mT 1 O) ⟨O,O⟩
theorem is_c (g:Nat) (s:Rd) (k:Int) (ts:List ByteArray) (hw:s.n+2*(s.l.length:Int)<=3000000) (hn:0<=s.n) (hT:TOk s.l):
 CD prog 44 [RB g s] [dP g 0,dI k,.sh 1 (ts.map D.s)] (λr H'=>r=dB (s.is k ts)/\H'=[RB g s]):=by
 refine tZ func44 O O (λC=>?_);refine T.bd 2 O (λbd2=>?_);have nl2:=zA bd2;refine g' 8 O (tX [0] O O acs (peek_c g s (by omega) (by omega) hT) ?_);rintro _ _ ⟨rfl,rfl⟩;refine tA O (λg2=>?_);refine gQ 10 [0,0] O O ?_;refine tAnd 4 4 (c:=hasN ts s.pk.t) O O O O O O (λhb3 nx4=>?_) ?_
 · have hf5:=of_decide_eq_true hb3;refine gQ 3 [0] O O (tW O acs (zc0 ts s.pk.t) ?_);exact nx4 _ O O (kx 4 O O)
 refine g' 4 O (kE 1 O ?_);exact tRs O results44 (.cons (zf (zd O) (mB (congrArg dB (show (decide (s.pk.k=k)&&hasN ts s.pk.t)=s.is k ts from O)))) .nil) O (mT 1 O) ⟨O,O⟩
theorem zdm (g:Nat) (s:Rd) (k:Int) (ts:List ByteArray) (hw:s.n+2*(s.l.length:Int)<=3000000) (hn:0<=s.n) (hT:TOk s.l) (hk:k≠0):
 CD prog 27 [RB g s] [dP g 0,dI k,.sh 1 (ts.map D.s)] (λr H'=>∃ t q s',(t,q,s')=s.take k ts/\r=.tup [.s t,dB q]/\H'=[RB g s']):=by
 refine tZ func27 O O (λC=>?_);refine T.bd 2 O (λbd2=>?_);have nl2:=zA bd2;refine gQ 14 [0] O O ?_;refine tOr 4 5 (c:=!((s.is k ts))) O O O O O O (λhb1 nx2=>?_) ?_
 · refine g' 3 O (tX [0] O O acs (is_c g s k ts (by omega) (by omega) hT) ?_);rintro _ _ ⟨rfl,rfl⟩;refine g' 1 O ?_;exact nx2 _ O O (kx 5 O O)
 refine g' 2 O ?_;refine tC O (λhc4=>?_) (λhc4=>?_)
 · simp only[bX,bJ] at hc4;have hor:s.b=true\/s.is k ts=false:=(by simpa using hc4);refine g' 8 O ?_;exact tRs O results27 (.cons (zf (zd O) (cS)) (.cons (zd O) .nil)) O (mT 1 O) ⟨_,_,⟨s.l,s.n,s.b⟩,(take_no hor).symm,O,O⟩
 simp only[bX,bJ] at hc4;have hand:s.b=false/\s.is k ts=true:=by simpa using hc4
 have hne:=is_ne hk hand.2;refine gQ 8 [0] O O ?_;obtain ⟨x1,hx1⟩:=zj s.l 0 (by omega);refine tP O (zh (k:=0) O O runUnderlying73 sizeOf95 (by first | rfl | omega) (ze hx1)) (g' 1 O ?_);refine tA O (λg5=>?_);refine gQ 10 [0,1] O O (tP O ((zcM (a:=1) (b:=s.l.length) O O O (by first | rfl | (show _=_;(try simp only[lm]);omega) | exact cW _) (by first | rfl | (show _=_;(try simp only[lm]);omega) | exact cW _) runUnderlying73 sizeOf95 (by omega) (by simp only[lm];omega)).cv (mB (by rw[<-jQ,<-jR]))) (gQ 14 [1,0] O O (kE 1 O ?_)));exact tR O (mT 1 O) ⟨_,_,⟨((s.l.take s.l.length).drop 1),s.n,s.b⟩,(take_ok hand.1 hand.2 hx1).symm,O,O⟩
theorem zfC (g:Nat) (s:Rd) (k:Int) (hw:s.n+2*(s.l.length:Int)<=3000000) (hn:0<=s.n) (hT:TOk s.l) (hk:k≠0):
 CD prog 28 [RB g s] [dP g 0,dI k] (λr H'=>∃ t s',(t,s')=s.any k/\r=.s t/\H'=[RB g s']):=by
 refine tZ func28 O O (λC=>?_);refine g' 8 O (tX [0] O O acs (peek_c g s (by omega) (by omega) hT) ?_);rintro _ _ ⟨rfl,rfl⟩;refine tA O (λg2=>?_);refine gQ 11 [0,1] O O ?_;refine tOr 4 4 (c:=decide (s.pk.k≠k)) O O O O O O (λhb3 nx4=>?_) ?_
 · refine gQ 4 [0] O O ?_;exact nx4 _ O O (kx 4 O O)
 refine g' 2 O ?_;refine tC O (λhc5=>?_) (λhc5=>?_)
 · simp only[bX,bJ] at hc5;have hor:s.b=true\/s.pk.k≠k:=(by simpa using hc5);refine gQ 15 [1] O O (kE 1 O ?_);exact tRs O results28 (.cons (zf (zd O) (cS)) .nil) O (mT 1 O) ⟨_,⟨s.l,s.n,true⟩,(any_no hor).symm,O,O⟩
 simp only[bX,bJ] at hc5;have hand:s.b=false/\s.pk.k=k:=by simpa using hc5
 have hne:=pk_len hk hand.2;refine gQ 9 [1] O O (tP O ((zcM (a:=1) (b:=s.l.length) O O O (by first | rfl | (show _=_;(try simp only[lm]);omega) | exact cW _) (by first | rfl | (show _=_;(try simp only[lm]);omega) | exact cW _) runUnderlying73 sizeOf95 (by omega) (by simp only[lm];omega)).cv (mB (by rw[<-jQ,<-jR]))) (gQ 13 [1,0] O O (kE 1 O ?_)));exact tR O (mT 1 O) ⟨_,⟨((s.l.take s.l.length).drop 1),s.n,s.b⟩,(any_ok hand.1 hand.2).symm,O,O⟩
theorem zbM (g:Nat) (s:Rd) (t:ByteArray) (hw:s.n+2*(s.l.length:Int)<=3000000) (hn:0<=s.n) (hT:TOk s.l):
 CD prog 129 [RB g s] [dP g 0,.s t] (λr H'=>∃ s',s'=s.must t/\r=.tup []/\H'=[RB g s']):=by
 refine tZ func129 O O (λC=>?_);refine T.bd 1 O (λbd1=>?_);have sz1:t.size<=9223372036854775807:=bd1;refine g' 4 O (tE O (Qu.ef (d:=.sh 1 ([t].map D.s)) (zm [.tmp 8] O O (.cons CellD.s .nil) O runUnderlying49 sizeOf9 zeroValue9 O O O O)) ?_);rintro _ _ ⟨rfl,rfl⟩;refine tX [0] O O acs (zdm g s 5 [t] (by omega) (by omega) hT (by decide)) ?_;rintro _ _ ⟨t1,q1,s1,e1,rfl,rfl⟩;obtain ⟨ka1,kb1,kc1,hT1⟩:=(zdl e1).out hT;have kz1:=zdk e1 hT;refine gQ 14 [0] O O ?_;refine tOr 5 2 (c:=!q1) O O O O O O (λhb2 nx3=>?_) ?_
 · refine g' 2 O ?_;exact nx3 _ O O (kx 2 O O)
 refine gQ 4 [0] O O ?_;exact tR O (mT 1 O) ⟨⟨s1.l,s1.n,(s1.b||!q1)⟩,must_of e1,O,O⟩
theorem zfr (g:Nat) (s:Rd) (x0 x1 x2 x3 x4 x5 x6:D) (hw:s.n+2*(s.l.length:Int)<=3000000) (hn:0<=s.n) (hT:TOk s.l):
 CD prog 68 [RB g s] [dP g 0,.agg [x0,x1,x2,x3,x4,x5,x6]] (λr H'=>∃ s',s'=s.node/\r=.agg [x0,x1,x2,x3,x4,x5,x6]/\H'=[RB g s']):=by
 refine tZ func68 O O (λC=>?_);refine T.bd 1 O (λbd1=>?_);refine g' 2 O ?_;refine tA O (λg1=>?_);refine tA O (λg2=>?_);refine gQ 8 [2] O O (tP O (zu (c:=(s.n+1)) O O (zk (by omega) (by omega))) (gQ 13 [2,2] O O ?_));refine tOr 5 5 (c:=decide ((200:Int)<(s.n+1))) O O O O O O (λhb3 nx4=>?_) ?_
 · refine gQ 5 [2] O O ?_;exact nx4 _ O O (kx 5 O O)
 refine gQ 12 [2,1,0] O O (kE 2 O ?_);exact tRs O results68 (.cons (zO (i:=1) O O isAgg58 sizeOf58 O O) .nil) O (mT 1 O) ⟨⟨s.l,(s.n+1),(s.b||decide ((200:Int)<(s.n+1)))⟩,O,O,O⟩
theorem rdnum_c (g:Nat) (s:Rd) (k:Int) (ev es:Value) (hev:EvOk ev) (hes:EvOk es) (hw:s.n+2*(s.l.length:Int)<=3000000) (hn:0<=s.n) (hT:TOk s.l) (hk:k=2\/k=4):
 CD prog 46 [RB g s,HPow,HErr ev,HSyn es] [dP g 0,dI k] (λr H'=>∃ v s',(v,s')=s.number k/\r=dI v/\H'=[RB g s',HPow,HErr ev,HSyn es]):=by
 refine tZ func46 O O (λC=>?_);have hk0:k≠0:=by omega
 refine g' 9 O (tX [0] O O acs (zfC g s k (by omega) (by omega) hT hk0) ?_);rintro _ _ ⟨t1,s1,e1,rfl,rfl⟩;obtain ⟨ka1,kb1,kc1,hT1⟩:=(zfB e1).out hT;have kz1:=zfA e1 hT;refine tX [2,2] O O acs (atoi_e t1 ev es hev hes (any_num e1 hk hT)) ?_;rintro _ _ ⟨ax,rfl,rfl⟩;refine g' 14 O (kE 1 O (kE 1 O (kE 3 O (kE 3 O ?_))));exact tR O (mT 4 O) ⟨_,⟨s1.l,s1.n,s1.b⟩,number_of e1,O,O⟩
theorem names_c (g:Nat) (s:Rd) (hw:s.n+2*(s.l.length:Int)<=3000000) (hn:0<=s.n) (hT:TOk s.l):
 CD prog 96 [RB g s] [dP g 0] (λr H'=>∃ l s',(l,s')=s.names/\r=.sh 1 (l.map D.s)/\H'=[RB g s']):=by
 refine tZ func96 O O (λC=>?_);refine g' 13 O (tX [0] O O (ga (.cons (ArgC.cv cS) .nil)) (zbM g s (⟨#[40]⟩:ByteArray) (by omega) (by omega) hT) ?_);rintro _ _ ⟨s1,e1,rfl,rfl⟩;obtain ⟨ka1,kb1,kc1,hT1⟩:=(zbL e1).out hT;refine g' 6 O (tE O (Qu.ef (d:=.sh 1 ([(⟨#[41]⟩:ByteArray)].map D.s)) ((zm [.const (.string ⟨#[41]⟩)] O O (.cons (CellD.v O) .nil) O runUnderlying49 sizeOf9 zeroValue9 O O O O).cv (mS (.cons cS .nil)))) ?_);rintro _ _ ⟨rfl,rfl⟩;refine tX [0] O O acs (is_c g s1 5 [(⟨#[41]⟩:ByteArray)] (by omega) (by omega) hT1) ?_;rintro _ _ ⟨rfl,rfl⟩;refine g' 2 O ?_;refine tC O (λhc3=>?_) (λhc3=>?_)
 · refine g' 3 O (tX [0] O O (ga (.cons (ArgC.cv cS) .nil)) (zbM g s1 (⟨#[41]⟩:ByteArray) (by omega) (by omega) hT1) ?_);rintro _ _ ⟨s4,e4,rfl,rfl⟩;obtain ⟨ka4,kb4,kc4,hT4⟩:=(zbL e4).out hT1;refine g' 9 O ?_;exact tRs O results96 (.cons (zf (zd O) (Cv.nil)) .nil) O (mT 1 O) ⟨[],⟨s4.l,s4.n,s4.b⟩,names_0 e1 hc3 e4,O,O⟩
 refine g' 4 O (tl4 (λ(a_:Nat) (b_:Rd) (c_:Value) (d_:List ByteArray)=>[(0,dP g 0),(2,dZ),(3,.ov c_)]) (λa_ b_ c_ d_=>[.sl c_ 1 9 (d_.map D.s),RB g b_]) (λa_ b_ c_ d_=>(b_.l.length<a_)/\(zb2 a_ d_ b_=zb2 (s1.l.length+1) [] s1)/\(b_.n+2*(b_.l.length:Int)<=3000000)/\(0<=b_.n)/\(TOk b_.l)/\(d_.length+b_.l.length<=1500000)) (λa_ b_ c_ d_=>a_) (s1.l.length+1) s1 (.slice none 0 0) [] O ⟨sk O,sk O,sc O (Cv.ov O),trivial⟩ (HSub.nil 1 9) ⟨Nat.lt_succ_self _,O,(by omega),(by omega),hT1,(by show 0+s1.l.length<=_;omega)⟩ ?_);rintro f z ov o ⟨hlf,hf,hzw,hzn,hz,hol⟩;obtain ⟨f,rfl⟩:∃ k,f=k+1:=⟨f-1,by omega⟩;refine gQ 10 [1] O O ?_;refine tC O (λhc5=>?_) (λhc5=>?_)
 · simp only[bX,bJ] at hc5;have hbf:z.b=false:=(by simpa using hc5);refine g' 7 O (tX [1] O O acs (zfC g z 1 (by omega) (by omega) hz (by decide)) ?_);rintro _ _ ⟨t6,s6,e6,rfl,rfl⟩;obtain ⟨ka6,kb6,kc6,hT6⟩:=(zfB e6).out hz;have kz6:=zfA e6 hz;refine tE O (Qu.ef (d:=.sh 1 ([t6].map D.s)) (zm [.tmp 20] O O (.cons CellD.s .nil) O runUnderlying49 sizeOf9 zeroValue9 O O O O)) ?_;rintro _ _ ⟨rfl,rfl⟩;refine tE O (zy (f:=D.s) (l:=o) (l':=[t6]) (i:=1) O O O (SrcD.sh) und_49 infz_9 O O (by unfold maxLen;(try simp only[la,lc,ln,lm,lt',ld,ls,lr]);omega) (by (try simp only[la,lc,ln,lm,lt',ld,ls,lr]);omega)) ?_;rintro _ _ ⟨v7,rfl,rfl⟩;refine g' 6 O (tE O (Qu.ef (d:=.sh 1 ([(⟨#[44]⟩:ByteArray)].map D.s)) ((zm [.const (.string ⟨#[44]⟩)] O O (.cons (CellD.v O) .nil) O runUnderlying49 sizeOf9 zeroValue9 O O O O).cv (mS (.cons cS .nil)))) ?_);rintro _ _ ⟨rfl,rfl⟩;refine tX [0] O O acs (zdm g s6 5 [(⟨#[44]⟩:ByteArray)] (by omega) (by omega) hT6 (by decide)) ?_;rintro _ _ ⟨t8,q8,s8,e8,rfl,rfl⟩;obtain ⟨ka8,kb8,kc8,hT8⟩:=(zdl e8).out hT6;have kz8:=zdk e8 hT6;refine g' 13 O ?_;refine tC O (λhc9=>?_) (λhc9=>?_)
   · simp only[bX,bJ] at hc9;have hff:=hf.symm.trans (names_end hbf e6 e8 (by simpa using hc9));refine g' 8 O (tX [0] O O (ga (.cons (ArgC.cv cS) .nil)) (zbM g s8 (⟨#[41]⟩:ByteArray) (by omega) (by omega) hT8) ?_);rintro _ _ ⟨s10,e10,rfl,rfl⟩;obtain ⟨ka10,kb10,kc10,hT10⟩:=(zbL e10).out hT8;refine g' 9 O (kE 1 O ?_);refine m9 (Mv.freeze (K':=[(0,dP g 0),(2,.sh 1 ((o++[t6]).map D.s)),(3,.sh 1 ((o++[t6]).map D.s)),(4,.s t8),(5,dB q8),(13,dP g 0),(14,dP g 0),(15,dP g 2),(16,dB z.b),(17,dB (!z.b)),(18,.ov ov),(19,dP g 0),(20,.s t6),(21,.sh 1 ([t6].map D.s)),(22,.sh 1 ((o++[t6]).map D.s)),(23,.tup [.s t8,dB q8]),(24,dP g 0),(25,.sh 1 ([(⟨#[44]⟩:ByteArray)].map D.s)),(26,.tup [.s t8,dB q8]),(27,.s t8),(28,dB q8),(29,dB q8),(30,dB (!q8)),(31,dP g 0),(32,.tup []),(33,.sh 1 ((o++[t6]).map D.s))]) [.sl v7 1 9 ((o++[t6]).map D.s)] (H1:=[RB g s10]) (H1':=[RB g s10]) ⟨⟨_,O,mO⟩,⟨_,O,mP (j:=0) O O⟩,⟨_,O,mP (j:=0) O O⟩,⟨_,O,mO⟩,⟨_,O,mO⟩,⟨_,O,mO⟩,⟨_,O,mO⟩,⟨_,O,mO⟩,⟨_,O,mO⟩,⟨_,O,mO⟩,⟨_,O,mO⟩,⟨_,O,mO⟩,⟨_,O,mO⟩,⟨_,O,mO⟩,⟨_,O,mP (j:=0) O O⟩,⟨_,O,mO⟩,⟨_,O,mO⟩,⟨_,O,mO⟩,⟨_,O,mO⟩,⟨_,O,mO⟩,⟨_,O,mO⟩,⟨_,O,mO⟩,⟨_,O,mO⟩,⟨_,O,mO⟩,⟨_,O,mO⟩,⟨_,O,mP (j:=0) O O⟩,trivial⟩ (.same .nil)) ?_;exact tR O (mT 1 O) ⟨(o++[t6]),⟨s10.l,s10.n,s10.b⟩,names_1 e1 (by simpa using hc3) hff e10,O,O⟩
   simp only[bX,bJ] at hc9;obtain ⟨ky,_⟩:=take_y e8 (by decide) (by simpa using hc9);refine g' 2 O (kE 1 O ?_);exact tp4 f s8 v7 (o++[t6]) (sa O) mD ⟨by omega,(names_go hbf e6 e8 (by simpa using hc9)).symm.trans hf,by omega,by omega,hT8,by simp only[la,dA];omega⟩ (by omega)
 simp only[bX,bJ] at hc5;have hff:=hf.symm.trans (names_bad (by simpa using hc5));refine g' 8 O (tX [1] O O (ga (.cons (ArgC.cv cS) .nil)) (zbM g z (⟨#[41]⟩:ByteArray) (by omega) (by omega) hz) ?_);rintro _ _ ⟨s11,e11,rfl,rfl⟩;obtain ⟨ka11,kb11,kc11,hT11⟩:=(zbL e11).out hz;refine g' 9 O (kE 1 O (m9 (Mv.freeze (K':=[(0,dP g 0),(2,.sh 1 (o.map D.s)),(3,.sh 1 (o.map D.s)),(13,dP g 0),(14,dP g 0),(15,dP g 2),(16,dB z.b),(17,dB (!z.b)),(31,dP g 0),(32,.tup []),(33,.sh 1 (o.map D.s))]) [.sl ov 1 9 (o.map D.s)] (H1:=[RB g s11]) (H1':=[RB g s11]) ⟨⟨_,O,mO⟩,⟨_,O,mP (j:=0) O O⟩,⟨_,O,mP (j:=0) O O⟩,⟨_,O,mO⟩,⟨_,O,mO⟩,⟨_,O,mO⟩,⟨_,O,mO⟩,⟨_,O,mO⟩,⟨_,O,mO⟩,⟨_,O,mO⟩,⟨_,O,mP (j:=0) O O⟩,trivial⟩ (.same .nil)) ?_));exact tR O (mT 1 O) ⟨o,⟨s11.l,s11.n,s11.b⟩,names_1 e1 (by simpa using hc3) hff e11,O,O⟩
theorem mode_c (g:Nat) (s:Rd) (a b:ByteArray) (hw:s.n+2*(s.l.length:Int)<=3000000) (hn:0<=s.n) (hT:TOk s.l):
 CD prog 67 [RB g s] [dP g 0,.s a,.s b] (λr H'=>∃ m l s',(m,l,s')=s.mode a b/\r=.tup [dI m,.sh 1 (l.map D.s)]/\H'=[RB g s']):=by
 refine tZ func67 O O (λC=>?_);refine T.bd 1 O (λbd1=>?_);have sz1:a.size<=9223372036854775807:=bd1;refine T.bd 2 O (λbd2=>?_);have sz2:b.size<=9223372036854775807:=bd2;refine g' 11 O (tE O (Qu.ef (d:=.sh 1 ([a,b].map D.s)) (zm [.tmp 12,.tmp 13] O O (.cons CellD.s (.cons CellD.s .nil)) O runUnderlying49 sizeOf9 zeroValue9 O O O O)) ?_);rintro _ _ ⟨rfl,rfl⟩;refine tX [0] O O acs (zdm g s 1 [a,b] (by omega) (by omega) hT (by decide)) ?_;rintro _ _ ⟨t1,q1,s1,e1,rfl,rfl⟩;obtain ⟨ka1,kb1,kc1,hT1⟩:=(zdl e1).out hT;have kz1:=zdk e1 hT;refine g' 16 O ?_;refine tC O (λhc2=>?_) (λhc2=>?_)
 · simp only[bX,bJ] at hc2;refine g' 9 O ?_;exact tRs O results67 (.cons (zd O) (.cons (zf (zd O) (Cv.nil)) .nil)) O (mT 1 O) ⟨0,[],⟨s1.l,s1.n,s1.b⟩,mode_0 e1 (by simpa using hc2),O,O⟩
 simp only[bX,bJ] at hc2;refine g' 8 O ?_;refine tD O (λhc3=>?_) (λhc3=>?_)
 · refine g' 3 O (tX [0] O O acs (names_c g s1 (by omega) (by omega) hT1) ?_);rintro _ _ ⟨l4,s4,e4,rfl,rfl⟩;obtain ⟨ka4,kb4,kc4,hT4⟩:=(names_e e4).out hT1;refine g' 7 O ?_;exact tR O (mT 1 O) ⟨1,l4,⟨s4.l,s4.n,s4.b⟩,mode_1 e1 (by simpa using hc2) hc3 e4,O,O⟩
 refine g' 6 O (tX [0] O O acs (names_c g s1 (by omega) (by omega) hT1) ?_);rintro _ _ ⟨l5,s5,e5,rfl,rfl⟩;obtain ⟨ka5,kb5,kc5,hT5⟩:=(names_e e5).out hT1;refine g' 5 O ?_;exact tR O (mT 1 O) ⟨2,l5,⟨s5.l,s5.n,s5.b⟩,mode_2 e1 (by simpa using hc2) hc3 e5,O,O⟩
theorem cv_21_5 {a:Int} (h:0<=a/\a<=255):∀ w,(convert 21 5 (.int .i32 a)).run prog w=.ok (.int .u8 a) w:=λw=>by
 have e:IntKind.u8.wrap a=a:=by simp[IntKind.wrap,IntKind.bits,IntKind.signed];omega
 simp[convert,run_underlying (show Tryz.prog.underlying 21=some _ by kernel_rfl),run_underlying (show Tryz.prog.underlying 5=some _ by kernel_rfl),Conv.intToInt,e]
abbrev tSig:ByteArray:=⟨#[42,43,63,124,41,93]⟩
theorem ext_idxB (s:ByteArray) (u:Int) (w:World):(callFunc 253 #[.string s,.int .u8 u]).run prog w=.ok (.value (.int .i64 (firstIdx s u.toNat.toUInt8))) w:=by
 rw[run_callFunc_extern func253 (by kernel_rfl) (by kernel_rfl) (by kernel_rfl) (e:=Extern.BytealgIndexByte.indexByte) (by kernel_rfl),run_indexByte_string];rfl
theorem p_idxB {ty:TypeId} {K:Kd} {H:List Hp} {x y:Operand} {ats:Array TypeId} {s:ByteArray} (hx:opS K x=some s) (hy:opD K y=some (.v (.int .u8 u))):Pu prog (.call { callee:=.value (.func 253),args:=#[x,y],argTypes:=ats }) ty K H (dI (firstIdx s u.toNat.toUInt8)):=
 ⟨λρ w F hk _ _=>e_ext (vs:=[.string s,.int .u8 u]) (zp ρ [x,y]) (by rw[show (#[x,y]:Array Operand).toList=[x,y] from rfl,zcq ρ [x,y] [x,y] (λ_ h=>h)];have e:ev ρ y=_:=hk.op hy;simp[hk.opS hx,e]) (ext_idxB s u) ⟨rfl,rfl⟩⟩
theorem p_runeStr {K:Kd} {H:List Hp} (hx:opD K x=some (.v (.int .i32 u))):Pu prog (.convert 21 9 x) ty K H (.v (.string (Utf8.encode u))):=
 ⟨λρ w F hk _ _=>by
  have e:ev ρ x=_:=hk.op hx;refine wW (v:=.string (Utf8.encode u)) (w':=w) ?_ ⟨O,O⟩;have:=zbk (run_convert_int_string (P:=prog) w 21 9 .i32 u (by kernel_rfl) (by kernel_rfl));simpa [execOp,z1,e] using this⟩
theorem sig_any (h0:0<=u) (h1:u<128):decide (0<=firstIdx tSig u.toNat.toUInt8)=sgnN.any (λx=>decide (x=u)):=by
 obtain ⟨n,rfl⟩:∃ n:Nat,u=n:=⟨u.toNat,by omega⟩;have key:∀ n:Nat,n<128->decide (0<=firstIdx tSig (n:Int).toNat.toUInt8)=sgnN.any (λx=>decide (x=(n:Int))):=by decide+kernel
 exact key n (by omega)
theorem sig_no (h:¬(0<=u/\u<128)):sgnN.any (λx=>decide (x=u))=false:=by
 show (decide (42=u)||(decide (43=u)||(decide (63=u)||(decide (124=u)||(decide (41=u)||(decide (93=u)||false))))))=false;simp only[vB,uT,decide_eq_false_iff_not];refine⟨?_,?_,?_,?_,?_,?_⟩<;>omega
theorem sig_dec:∀ p,p<6->¬(((decR tSig p:Nat):Int)=65533):=by decide+kernel
theorem sig_lt:∀ b∈tSig.data.toList,b.toNat<128:=by decide
theorem sig_at {i:Nat} {u:UInt8} (h:tSig[i]?=some u):u.toNat<128:=sig_lt u (by
 obtain ⟨hi,e⟩:=getElem?_eq_some_iff.1 h;rw[<-e];exact Array.getElem_mem_toList (xs:=tSig.data) hi)
theorem enc_last (hv:Utf8.valid u=true) (h:128<=u) {k:Nat} {b:UInt8} (hk:k+1=(Utf8.encode u).size) (hb:(Utf8.encode u)[k]?=some b):128<=b.toNat:=by
 obtain ⟨hi,e⟩:=getElem?_eq_some_iff.1 hb;have h3:=(encode_facts u hv h).2.2;rw[<-e];have hk':k=(Utf8.encode u).size-1:=by omega
 subst hk';exact h3 hi
theorem p_slice_strC {P:Program} {K:Kd} {H:List Hp} {t:TypeId} {a c:Nat} {lo hi:Option Operand} {b:ByteArray} {rl rh:Option Int} (hx:opS K x=some b) (hm:b.size<=maxLen) (hlo:bndD K lo=some rl) (hhi:bndD K hi=some rh) (ha:Bnd rl 0 a) (hb:Bnd rh b.size c)
 (ht:∀ w,(underlying t).run P w=.ok .string w) (hab:a<=c) (hbn:c<=b.size):Pu P (.slice t x lo hi none) ty K H (.s (b.extract a c)):=
 ⟨λρ w F hk hF _=>e_slice_str (zp ρ [x]) (opv1 ρ (hk.opS hx)) rfl rfl (ha.out (zbo hk hlo)) (hb.out (zbo hk hhi)) ht hab hbn ⟨rfl,rfl,jA (by rw[dT];omega) hm⟩⟩
theorem idxB0_c (s:ByteArray) (c:Int) :
 CD prog 221 [] [.s s,.v (.int .u8 c)] (isR (dI (firstIdx s c.toNat.toUInt8))):=by
 refine tZ func221 O O (λC=>?_);refine T.bd 0 O (λbd0=>?_);have sz0:s.size<=9223372036854775807:=bd0;refine g' 9 O (tP O (p_idxB (s:=s) (u:=c) O O) (g' 4 O ?_));exact tRs O results221 (.cons (zf (zd O) (mB (congrArg (λn=>D.v (.int .i64 n)) (by rfl)))) .nil) O HSub.none ⟨O,O⟩
theorem idxB_c (s:ByteArray) (c:Int) :
 CD prog 178 [] [.s s,.v (.int .u8 c)] (isR (dI (firstIdx s c.toNat.toUInt8))):=by
 refine tZ func178 O O (λC=>?_);refine T.bd 0 O (λbd0=>?_);have sz0:s.size<=9223372036854775807:=bd0;refine g' 9 O (tW O acs (idxB0_c s c) (g' 4 O ?_));exact tRs O results178 (.cons (zf (zd O) (mB (congrArg (λn=>D.v (.int .i64 n)) (by rfl)))) .nil) O HSub.none ⟨O,O⟩
theorem validR_c (u:Int) :
 CD prog 301 [] [.v (.int .i32 u)] (isR (dB (Utf8.valid u))):=by
 refine tZ func301 O O (λC=>?_);refine g' 12 O ?_;refine tAnd 2 2 (c:=decide (u<(55296:Int))) O O O O O O (λhb1 nx2=>?_) ?_
 · have hf3:=of_decide_eq_true hb1;refine g' 2 O ?_;exact nx2 _ O O (kx 2 O O)
 refine g' 3 O ?_;refine tC O (λhc4=>?_) (λhc4=>?_)
 · simp only[bX,bJ] at hc4;refine g' 8 O ?_;exact tRs O results301 (.cons (zf (zd O) (cB ((by rw[validRune_eq];unfold validRune;simp only[eq_comm (a:=true),eq_comm (a:=false),decide_eq_true_eq,decide_eq_false_iff_not];omega)))) .nil) O HSub.none ⟨O,O⟩
 simp only[bX,bJ] at hc4;refine g' 5 O ?_;refine tAnd 2 2 (c:=decide (u<=(1114111:Int))) O O O O O O (λhb5 nx6=>?_) ?_
 · have hf7:=of_decide_eq_true hb5;refine g' 2 O ?_;exact nx6 _ O O (kx 2 O O)
 refine g' 3 O ?_;refine tC O (λhc8=>?_) (λhc8=>?_)
 · simp only[bX,bJ] at hc8;refine g' 8 O ?_;exact tRs O results301 (.cons (zf (zd O) (cB ((by rw[validRune_eq];unfold validRune;simp only[eq_comm (a:=true),eq_comm (a:=false),decide_eq_true_eq,decide_eq_false_iff_not];omega)))) .nil) O HSub.none ⟨O,O⟩
 simp only[bX,bJ] at hc8;refine g' 9 O ?_;exact tRs O results301 (.cons (zf (zd O) (cB ((by rw[validRune_eq];unfold validRune;simp only[eq_comm (a:=true),eq_comm (a:=false),decide_eq_true_eq,decide_eq_false_iff_not];omega)))) .nil) O HSub.none ⟨O,O⟩
theorem indexRune_c (u:Int) (h0:0<=u) (h1:u<1114112):
 CD prog 300 [] [.v (.string ⟨#[42,43,63,124,41,93]⟩),.v (.int .i32 u)] (λr H'=>(∃ i:Int,r=dI i/\decide (0<=i)=sgnN.any (λx=>decide (x=u)))/\H'=[]):=by
 refine tZ func300 O O (λC=>?_);have hz6:tSig.size=6:=rfl;refine g' 11 O ?_;refine tAnd 2 2 (c:=decide (u<(128:Int))) O O O O O O (λhb1 nx2=>?_) ?_
 · have hf3:=of_decide_eq_true hb1;refine g' 2 O ?_;exact nx2 _ O O (kx 2 O O)
 refine g' 3 O ?_;refine tC O (λhc4=>?_) (λhc4=>?_)
 · simp only[bX,bJ] at hc4;have ha:0<=u/\u<128:=(by simpa using hc4);refine g' 4 O (tP O (zV O (c:=u) (cv_21_5 (by omega))) (tW O (.cons (ArgC.cv cS) (ga .nil)) (idxB_c (⟨#[42,43,63,124,41,93]⟩:ByteArray) u) (g' 5 O ?_)));exact tR O HSub.none ⟨⟨firstIdx (⟨#[42,43,63,124,41,93]⟩:ByteArray) (u).toNat.toUInt8,O,sig_any ha.1 ha.2⟩,O⟩
 simp only[bX,bJ] at hc4;have hna:¬(0<=u/\u<128):=by have h:=hc4;omega
 refine g' 7 O ?_;refine tD O (λhc5=>?_) (λhc5=>?_)
 · refine g' 4 O (tE O (zcZ O runUnderlying9) ?_);rintro _ _ ⟨g6,rfl,rfl⟩;refine g' 3 O (tl1 (λ(a_:Nat)=>[(175,dP g6 0)]) (λa_=>[.it g6 (⟨#[42,43,63,124,41,93]⟩:ByteArray) a_]) (λa_=>(a_<=(⟨#[42,43,63,124,41,93]⟩:ByteArray).size)) (λa_=>(⟨#[42,43,63,124,41,93]⟩:ByteArray).size-a_) 0 O (sa O) mD (c7 _) ?_);rintro p hp;rcases dH p (⟨#[42,43,63,124,41,93]⟩:ByteArray).size with hlt | hge
   · have hrune:=zav hlt;have hrl:=zcA (⟨#[42,43,63,124,41,93]⟩:ByteArray) p;have hdw:=zai (⟨#[42,43,63,124,41,93]⟩:ByteArray) p hlt;have hdp:=zL (⟨#[42,43,63,124,41,93]⟩:ByteArray) p;refine g' 2 O (tE O (zce (i:=0) O O hlt) ?_);rintro _ _ ⟨rfl,rfl⟩;refine g' 22 O ?_;refine tD O (λhc7=>?_) (λhc7=>?_)
     · exfalso;exact sig_dec p (show p<6 from hlt) hc7
     refine g' 2 O ?_;exact tp1 (p+decW (⟨#[42,43,63,124,41,93]⟩:ByteArray) p) (sa O) mD (by have:=zai (⟨#[42,43,63,124,41,93]⟩:ByteArray) p hlt;omega) (by have:=zL (⟨#[42,43,63,124,41,93]⟩:ByteArray) p;omega)
   have hrune:=zaH hge;refine g' 2 O (tP O (zcT (i:=0) O O hge) (g' 17 O ?_));exact tR O HSub.none ⟨⟨(-1),O,(sig_no hna).symm⟩,O⟩
 refine g' 3 O (tW O acs (validR_c u) (g' 4 O ?_));refine tC O (λhc8=>?_) (λhc8=>?_)
 · simp only[bX,bJ] at hc8;refine g' 7 O ?_;exact tR O HSub.none ⟨⟨(-1),O,(sig_no hna).symm⟩,O⟩
 simp only[bX,bJ] at hc8;have hval:Utf8.valid u=true:=by simpa using hc8
 refine g' 4 O ?_;obtain ⟨en1,en2,_⟩:=encode_facts u hval (by omega);refine tP O ((p_runeStr O).cv (Cv.str (by unfold maxLen;omega))) (g' 6 O (tP O (z6 O runUnderlying9) (tP O (zT (c:=((((Utf8.encode u).size)-1:Nat):Int)) O O (zk (by omega) (by omega))) (g' 16 O (tl1 (λ(_:Unit)=>[(0,.v (.string ⟨#[42,43,63,124,41,93]⟩)),(1,.v (.int .i32 u)),(7,.s (Utf8.encode u)),(8,dN (((Utf8.encode u).size)-1)),(9,dN (((Utf8.encode u).size)-1)),(10,dI 0)]) (λ_=>[]) (λ_=>True) (λ_=>0) () O (sa O) mD trivial ?_)))));rintro _ _;refine g' 5 O (tP O (z6 O runUnderlying9) (g' 3 O ?_));refine tD O (λhc9=>?_) (λhc9=>?_)
 · refine g' 6 O ?_;obtain ⟨u1,hu1⟩:=zbQ tSig (((Utf8.encode u).size)-1) (by show _<6;omega);have hl1:=sig_at hu1;obtain ⟨u2,hu2⟩:=zbQ (Utf8.encode u) (((Utf8.encode u).size)-1) (by omega);have hl2:=enc_last hval (by omega) (by omega) hu2;have hl3:=u2.toNat_lt;have hne:((u1.toNat:Nat):Int)≠((u2.toNat:Nat):Int):=(by omega);refine T.keep [0,1,7,8,9,10,23,24,25,26] O (tDr 6 [(27,.v (.string ⟨#[42,43,63,124,41,93]⟩),none),(28,dN (((Utf8.encode u).size)-1),none),(29,.v (.int .u8 ((u1.toNat:Nat):Int)),none),(30,.s (Utf8.encode u),none),(31,dN (((Utf8.encode u).size)-1),none),(32,.v (.int .u8 ((u2.toNat:Nat):Int)),none)] [] (Hn:=[]) mixed O O O O mD O ⟨sa_p O O O (zc O),sa_p O O O (zc O),sa_p O O O (zag (k:=((Utf8.encode u).size)-1) O O runUnderlying9 (by first | rfl | omega) hu1),sa_p O O O (zc O),sa_p O O O (zc O),sa_p O O O (zag (k:=((Utf8.encode u).size)-1) O O runUnderlying9 (by first | rfl | omega) hu2),trivial⟩ (tK O (tP O (zca O O (decide_eq_true hne)) (g' 4 O (T.keep [0,1,7,8,9,10,23,24,25,26,27,28,29,30,31,32,33] O ?_)))));refine tDr 7 [(34,.v (.string ⟨#[42,43,63,124,41,93]⟩),none),(35,dN (((Utf8.encode u).size)-1),none),(36,dN ((((Utf8.encode u).size)-1)+1),none),(37,.s ((⟨#[42,43,63,124,41,93]⟩:ByteArray).extract ((((Utf8.encode u).size)-1)+1) ((⟨#[42,43,63,124,41,93]⟩:ByteArray).size)),none),(38,.s (Utf8.encode u),none),(39,dN (((Utf8.encode u).size)-1),none),(40,.v (.int .u8 ((u2.toNat:Nat):Int)),none)] [] (Hn:=[]) mixed O O O O mD O ⟨sa_p O O O (zc O),sa_p O O O (zc O),sa_p O O O (zu (c:=(((((Utf8.encode u).size)-1)+1:Nat):Int)) O O (zk (by omega) (by omega))),sa_p O O O (p_slice_strC (a:=(((Utf8.encode u).size)-1)+1) (c:=(⟨#[42,43,63,124,41,93]⟩:ByteArray).size) O (by decide) O O (by first | rfl | (show _=_;omega)) (by first | rfl | (show _=_;omega)) runUnderlying9 (by show _<=6;omega) (dD _)),sa_p O O O (zc O),sa_p O O O (zc O),sa_p O O O (zag (k:=((Utf8.encode u).size)-1) O O runUnderlying9 (by first | rfl | omega) hu2),trivial⟩ (tK O ?_);refine tW O acs (idxB_c ((⟨#[42,43,63,124,41,93]⟩:ByteArray).extract ((((Utf8.encode u).size)-1)+1) ((⟨#[42,43,63,124,41,93]⟩:ByteArray).size)) ((u2.toNat:Nat):Int)) (g' 5 O ?_);have hneg:firstIdx ((⟨#[42,43,63,124,41,93]⟩:ByteArray).extract ((((Utf8.encode u).size)-1)+1) ((⟨#[42,43,63,124,41,93]⟩:ByteArray).size)) (((u2.toNat:Nat):Int)).toNat.toUInt8= -1:=firstIdx_ascii _ _ _ _ sig_lt (by have:=hl2;have:=hl3;show 128<=(((u2.toNat:Nat):Int).toNat.toUInt8).toNat;rw[Int.toNat_natCast];simp;omega);have hlt0:firstIdx ((⟨#[42,43,63,124,41,93]⟩:ByteArray).extract ((((Utf8.encode u).size)-1)+1) ((⟨#[42,43,63,124,41,93]⟩:ByteArray).size)) (((u2.toNat:Nat):Int)).toNat.toUInt8<(0:Int):=(by omega);refine g' 2 O (tP O (zba O O (decide_eq_true hlt0)) (g' 18 O ?_));exact tR O HSub.none ⟨⟨(-1),O,(sig_no hna).symm⟩,O⟩
 refine g' 15 O ?_;exact tR O HSub.none ⟨⟨(-1),O,(sig_no hna).symm⟩,O⟩
end Lp
namespace Lp
open Go
mutual
def Pt.sz:Pt->Nat
 | .one _=>1
 | .row l=>Pt.szL l+1
 | .alt l=>Pt.szL l+1
 | .rep x _ _=>Pt.sz x+1
def Pt.szL:List Pt->Nat
 | []=>0
 | x::r=>Pt.sz x+Pt.szL r
end
mutual
def Pt.ok:Pt->Prop
 | .one _=>True
 | .row l=>Pt.okL l
 | .alt l=>l≠[]/\Pt.okL l
 | .rep x _ _=>Pt.ok x
def Pt.okL:List Pt->Prop
 | []=>True
 | x::r=>Pt.ok x/\Pt.okL r
end
theorem szL_app:∀ a b:List Pt,Pt.szL (a++b)=Pt.szL a+Pt.szL b
 | [],b=>by simp[Pt.szL]
 | x::a,b=>by simp only[jJ,Pt.szL,szL_app a b];omega
theorem okL_app:∀ a b:List Pt,Pt.okL (a++b)↔Pt.okL a/\Pt.okL b
 | [],b=>by simp[Pt.okL]
 | x::a,b=>by simp only[jJ,Pt.okL,okL_app a b];exact and_assoc.symm
theorem szL_one (x:Pt):Pt.szL [x]=x.sz:=by simp[Pt.szL]
theorem okL_one (x:Pt):Pt.okL [x]↔x.ok:=by simp[Pt.okL]
theorem sz_pos (x:Pt):1<=x.sz:=by cases x<;>simp[Pt.sz]
theorem szL_len:∀ l:List Pt,l.length<=Pt.szL l
 | []=>dD _
 | x::l=>by have:=szL_len l;have:=sz_pos x;simp only[Pt.szL,dM];omega
theorem szL_get:∀ {l:List Pt} {k:Nat} {x:Pt},l[k]?=some x->x.sz+Pt.szL (l.eraseIdx k)=Pt.szL l
 | [],k,x,h=>by simp at h
 | y::l,0,x,h=>by simp at h;subst h;simp[Pt.szL]
 | y::l,k+1,x,h=>by
  have:=szL_get (l:=l) (k:=k) (x:=x) (by simpa using h);simp only[List.eraseIdx_cons_succ,Pt.szL];omega
theorem szL_mem {l:List Pt} {k:Nat} {x:Pt} (h:l[k]?=some x):x.sz<=Pt.szL l:=by have:=szL_get h;omega
theorem okL_get:∀ {l:List Pt} {k:Nat} {x:Pt},Pt.okL l->l[k]?=some x->x.ok
 | [],k,x,_,h=>by simp at h
 | y::l,0,x,hk,h=>by simp at h;subst h;exact hk.1
 | y::l,k+1,x,hk,h=>okL_get (l:=l) (k:=k) hk.2 (by simpa using h)
theorem szL_take:∀ (l:List Pt) (k:Nat) {x:Pt},l[k]?=some x->Pt.szL (l.take (k+1))=Pt.szL (l.take k)+x.sz
 | [],k,x,h=>by simp at h
 | y::l,0,x,h=>by simp at h;subst h;simp[Pt.szL]
 | y::l,k+1,x,h=>by
  have:=szL_take l k (x:=x) (by simpa using h);simp only[u9,Pt.szL,this];omega
theorem szL_drop:∀ (l:List Pt) (k:Nat) {x:Pt},l[k]?=some x->Pt.szL (l.drop k)=x.sz+Pt.szL (l.drop (k+1))
 | [],k,x,h=>by simp at h
 | y::l,0,x,h=>by simp at h;subst h;simp[Pt.szL]
 | y::l,k+1,x,h=>by
  have:=szL_drop l k (x:=x) (by simpa using h);simpa using this
def PSz (p:PR->Pt×PR):Prop:=∀ s,(p s).1.sz+3*(p s).2.l.length<=3*s.l.length+2/\(p s).1.ok
theorem atom_sz {s:PR} {alt:PR->Pt×PR} (ha:PSz alt) (h:s.l≠[]):(s.atom alt).1.sz+3*(s.atom alt).2.l.length+1<=3*s.l.length/\(s.atom alt).1.ok:=by
 have h1:=m2 h;unfold PR.atom;simp only;split
 · obtain ⟨h2,h2'⟩:=ha s.any.2;have h3:=mZ (alt s.any.2).2 41;split
   · simp only;exact⟨by omega,h2'⟩
   simp only;exact⟨by omega,h2'⟩
 split
 · have:=PR.cls_le s.any.2;simp only[Pt.sz,Pt.ok];exact⟨by omega,trivial⟩
 split
 · simp only[Pt.sz,Pt.ok];exact⟨by omega,trivial⟩
 split
 · have:=m1 s.any.2;simp only[Pt.sz,Pt.ok];exact⟨by omega,trivial⟩
 simp only[Pt.sz,Pt.ok];exact⟨by omega,trivial⟩
theorem times_sz {s:PR} {x:Pt} (hx:x.ok):(s.times x).1.sz+3*(s.times x).2.l.length<=x.sz+3*s.l.length/\(s.times x).1.ok:=by
 unfold PR.times
 repeat' split
 all_goals first
  | (rename_i h;have:=m0 h;simp only[Pt.sz,Pt.ok];exact⟨by omega,hx⟩)
  | exact⟨dD _,hx⟩
theorem partsF_sz {alt:PR->Pt×PR} (ha:PSz alt):∀ (f:Nat) (o:List Pt) (s:PR),Pt.okL o->Pt.szL (za2 alt f o s).1+3*(za2 alt f o s).2.l.length<=Pt.szL o+3*s.l.length/\Pt.okL (za2 alt f o s).1
 | 0,o,s,ho=>⟨dD _,ho⟩
 | f+1,o,s,ho=>by
  unfold za2;split
  · exact⟨dD _,ho⟩
  rename_i h;have hne:s.l≠[]:=λe=>h (Or.inr (by unfold PR.stop;rw[decide_eq_true e];rfl))
  obtain ⟨h1,h1'⟩:=atom_sz ha hne;obtain ⟨h2,h2'⟩:=times_sz (s:=(s.atom alt).2) h1';obtain ⟨h3,h3'⟩:=partsF_sz ha f (o++[((s.atom alt).2.times (s.atom alt).1).1]) ((s.atom alt).2.times (s.atom alt).1).2 ((okL_app _ _).2 ⟨ho,(okL_one _).2 h2'⟩);rw[szL_app,szL_one] at h3;exact⟨by simp only;omega,h3'⟩
theorem parts_sz {alt:PR->Pt×PR} (ha:PSz alt) (s:PR):(s.parts alt).1.sz+3*(s.parts alt).2.l.length<=3*s.l.length+1/\(s.parts alt).1.ok:=by
 obtain ⟨h,h'⟩:=partsF_sz ha (s.l.length+1) [] s trivial;unfold PR.parts;simp only[Pt.sz,Pt.ok];exact⟨by simp only[Pt.szL] at h;omega,h'⟩
theorem altsF_sz {alt:PR->Pt×PR} (ha:PSz alt):∀ (f:Nat) (o:List Pt) (s:PR),Pt.okL o->Pt.szL (zcE alt f o s).1+3*(zcE alt f o s).2.l.length<=Pt.szL o+3*s.l.length/\Pt.okL (zcE alt f o s).1/\(o≠[]->(zcE alt f o s).1≠[])
 | 0,o,s,ho=>⟨dD _,ho,λh=>h⟩
 | f+1,o,s,ho=>by
  unfold zcE;split
  · rename_i h;have h1:=m0 h;obtain ⟨h2,h2'⟩:=parts_sz ha (s.take 124).2;obtain ⟨h3,h3',h3''⟩:=altsF_sz ha f (o++[((s.take 124).2.parts alt).1]) ((s.take 124).2.parts alt).2 ((okL_app _ _).2 ⟨ho,(okL_one _).2 h2'⟩);rw[szL_app,szL_one] at h3;exact⟨by simp only;omega,h3',λ_=>h3'' (by simp)⟩
  exact⟨dD _,ho,λh=>h⟩
theorem altF_sz:∀ f:Nat,PSz (altF f)
 | 0=>λs=>by unfold altF;simp only[Pt.sz,Pt.szL,Pt.ok];exact⟨by omega,trivial⟩
 | f+1=>λs=>by
  unfold altF;simp only;obtain ⟨h1,h1'⟩:=parts_sz (altF_sz f) s;obtain ⟨h2,h2',h2''⟩:=altsF_sz (altF_sz f) ((s.parts (altF f)).2.l.length+1) [(s.parts (altF f)).1] (s.parts (altF f)).2 ((okL_one _).2 h1');rw[szL_one] at h2;simp only[Pt.sz,Pt.ok];exact⟨by omega,h2'' (by simp),h2'⟩
end Lp
namespace Lp
open Go Go.RowKit Go.Proofs Tryz
theorem bd_361:BdP prog #[⟨"x",20,0,false, "", "leporello/pattern",0⟩,⟨"none",4,1,false, "", "leporello/pattern",16⟩,⟨"again",4,2,false, "", "leporello/pattern",17⟩] [(0,1),(1,1),(2,1)]:=λ_=>by kernel_rfl
def RngD.d (r:RngD):D:=.agg [.v (.int .i32 r.lo),.v (.int .i32 r.hi)]
def Pt.t:Pt->Nat
 | .one _=>356
 | .row _=>358
 | .alt _=>354
 | .rep _ _ _=>361
mutual
def Pt.y:Pt->D
 | .one s=>.agg [dB s.all,dB s.nt,.sh 2 (s.items.map RngD.d)]
 | .row l=>.agg [.sh 1 (Pt.ds l)]
 | .alt l=>.agg [.sh 1 (Pt.ds l)]
 | .rep x a b=>.agg [.ifc x.t (Pt.y x),dB a,dB b]
def Pt.ds:List Pt->List D
 | []=>[]
 | x::r=>.ifc x.t (Pt.y x)::Pt.ds r
end
def Pt.d (x:Pt):D:=.ifc x.t x.y
theorem Pt.ds_eq:∀ l:List Pt,Pt.ds l=l.map Pt.d
 | []=>rfl
 | x::r=>congrArg (Pt.d x::·) (Pt.ds_eq r)
theorem zeP {H:List Hp} (x:Pt):CellD H (Pt.d x):=CellD.ifc
abbrev PB (g:Nat) (s:PR):Hp:=.bx g 330 (.agg [.sh 1 (s.l.map dR),dB s.b])
theorem ia0 (b:Nat):∀ w,(Instr.indexAt 364 (.pointer (some ⟨b,0,none⟩)) (.int .i64 0)).run prog w=.ok (.pointer (some ⟨b,0,none⟩)) w:=λ_=>by kernel_rfl
theorem ia1 (b:Nat):∀ w,(Instr.indexAt 364 (.pointer (some ⟨b,0,none⟩)) (.int .i64 1)).run prog w=.ok (.pointer (some ⟨b,1,none⟩)) w:=λ_=>by kernel_rfl
section
variable {ty:TypeId} {K:Kd} {H:List Hp} {x y:Operand} {a b:Int} {g:Nat}
theorem p_arr1 (hx:opD K x=some (.v (.int .i32 a))):Pu prog (.build 364 #[(0,x)]) ty K H (.agg [.v (.int .i32 a),.v (.int .i32 0)]):=
 ⟨λρ w F hk _ _=>e_build (qs:=#[(0,.int .i32 a)]) (by have e:ev ρ x=_:=hk.op hx;simp[e]) (v:=.agg #[.int .i32 a,.int .i32 0]) (λw=>by kernel_rfl) ⟨rfl,[.int .i32 a,.int .i32 0],rfl,_,_,rfl,rfl,rfl,_,_,rfl,rfl,rfl,rfl⟩⟩
theorem p_arr2 (hx:opD K x=some (.v (.int .i32 a))) (hy:opD K y=some (.v (.int .i32 b))):Pu prog (.build 364 #[(0,x),(1,y)]) ty K H (.agg [.v (.int .i32 a),.v (.int .i32 b)]):=
 ⟨λρ w F hk _ _=>e_build (qs:=#[(0,.int .i32 a),(1,.int .i32 b)]) (by have e:ev ρ x=_:=hk.op hx;have e':ev ρ y=_:=hk.op hy;simp[e,e']) (v:=.agg #[.int .i32 a,.int .i32 b]) (λw=>by kernel_rfl) ⟨rfl,[.int .i32 a,.int .i32 b],rfl,_,_,rfl,rfl,rfl,_,_,rfl,rfl,rfl,rfl⟩⟩
theorem p_arrA0 (hx:opD K x=some (dP g 0)):Pu prog (.indexAddr 364 x (.const (.int .i64 0))) ty K H (dP g 0):=
 ⟨λρ w F hk _ _=>by
  have e:ev ρ x=_:=hk.op hx;refine wW (v:=.pointer (some ⟨g,0,none⟩)) (w':=w) ?_ ⟨O,O⟩;have:=zbk (ia0 g w);simpa [execOp,z1,e,show ev ρ (.const (.int .i64 0))=.int .i64 0 from rfl] using this⟩
theorem p_arrA1 (hx:opD K x=some (dP g 0)):Pu prog (.indexAddr 364 x (.const (.int .i64 1))) ty K H (dP g 1):=
 ⟨λρ w F hk _ _=>by
  have e:ev ρ x=_:=hk.op hx;refine wW (v:=.pointer (some ⟨g,1,none⟩)) (w':=w) ?_ ⟨O,O⟩;have:=zbk (ia1 g w);simpa [execOp,z1,e,show ev ρ (.const (.int .i64 1))=.int .i64 1 from rfl] using this⟩
end
def ROk (l:List Int):Prop:=∀ c∈l,0<=c/\c<1114112
theorem ROk.suf {l m:List Int} (h:ROk l) (k:m <:+l):ROk m:=λx hx=>h x (k.subset hx)
section
variable {s s' s1 s2 s3 s4:PR} {c c' a:Int} {q:Bool}
theorem ptail_td (l:List Int):(l.take l.length).drop 1=l.tail:=by rw[d7,List.drop_one]
theorem pnext_0 (h:s.l.length=0):(0:Int)=s.any.1/\decide (0<s.l.length)=false:=by
 have e:=jV.1 h;unfold PR.any;rw[e];exact⟨O,O⟩
theorem pnext_x {x:Int} (h:s.l[0]?=some x):x=s.any.1/\decide (0<s.l.length)=true:=by
 unfold PR.any;cases e:s.l with
 | nil=>rw[e] at h;cases h
 | cons y l=>rw[e] at h;injection h with h;exact⟨h.symm,by simp⟩
theorem pany_bd (h:ROk s.l):0<=s.any.1/\s.any.1<1114112:=by
 unfold PR.any;cases e:s.l with
 | nil=>exact⟨by show (0:Int)<=0;omega,by show (0:Int)<_;omega⟩
 | cons y l=>exact h y (by rw[e];exact c6)
theorem zet:s.has c=true↔0<s.l.length/\s.any.1=c:=by
 unfold PR.has PR.any;cases e:s.l with
 | nil=>simp
 | cons y l=>simp
theorem ptake_no (h:s.l.length=0\/s.any.1≠c):(false,s)=s.take c:=by
 unfold PR.take;rw[if_neg];rw[zet];omega
theorem ptake_ok (h0:0<s.l.length) (h:s.any.1=c):(true,(⟨(s.l.take s.l.length).drop 1,s.b⟩:PR))=s.take c:=by
 unfold PR.take;rw[if_pos (zet.2 ⟨h0,h⟩),ptail_td]
theorem zaU (e:(q,s')=s.take c):s'.l <:+s.l/\s'.b=s.b/\(q=true->s'.l.length+1=s.l.length)/\q=s.has c:=by
 have h1:q=(s.take c).1:=congrArg Prod.fst e;have h2:s'=(s.take c).2:=congrArg Prod.snd e;rw[h1,h2];by_cases h:s.has c=true
 · have h3:=m0 h;unfold PR.take at h3 ⊢;rw[if_pos h] at h3 ⊢;exact⟨u7 _,rfl,λ_=>h3,h.symm⟩
 unfold PR.take;rw[if_neg h];exact⟨jU _,rfl,(λh=>by cases h),by simpa using h⟩
theorem pany_no (h:s.l.length=0):(0,(⟨s.l,true⟩:PR))=s.any:=by
 have e:=jV.1 h;unfold PR.any;rw[e]
theorem pany_ok (h:0<s.l.length):(s.any.1,(⟨(s.l.take s.l.length).drop 1,s.b⟩:PR))=s.any:=by
 rw[ptail_td];unfold PR.any;cases e:s.l with
 | nil=>rw[e] at h;simp at h
 | cons y l=>rfl
theorem zeu:s.any.2.l <:+s.l:=by
 unfold PR.any;cases e:s.l with
 | nil=>exact jU _
 | cons y l=>exact List.suffix_cons y l
theorem zfI (e:(a,s')=s.any) (h:ROk s.l):s'.l <:+s.l/\(0<=a/\a<1114112)/\(0<s.l.length->s'.l.length+1=s.l.length):=by
 have h1:a=s.any.1:=congrArg Prod.fst e;have h2:s'=s.any.2:=congrArg Prod.snd e;rw[h1,h2];exact⟨zeu,pany_bd h,λh0=>m2 (jE.1 h0)⟩
theorem pmember_1 (e:(a,s1)=s.any) (ha:a=92) (e2:(c,s2)=s1.any):(c,s2)=s.member:=by unfold PR.member;rw[<-e,if_pos ha,e2]
theorem pmember_0 (e:(a,s1)=s.any) (ha:¬a=92):(a,s1)=s.member:=by unfold PR.member;rw[<-e,if_neg ha]
theorem pmember_e (e:(a,s')=s.member) (h:ROk s.l):s'.l <:+s.l/\(0<=a/\a<1114112)/\(0<s.l.length->s'.l.length+1<=s.l.length):=by
 have h1:a=s.member.1:=congrArg Prod.fst e;have h2:s'=s.member.2:=congrArg Prod.snd e;rw[h1,h2];refine⟨?_,?_,λh0=>m3 (jE.1 h0)⟩
 · unfold PR.member;split
   · exact zeu.trans zeu
   exact zeu
 unfold PR.member;split
 · exact pany_bd (h.suf zeu)
 exact pany_bd h
end
theorem containsR_c (u:Int) (h0:0<=u) (h1:u<1114112):
 CD prog 298 [] [.v (.string ⟨#[42,43,63,124,41,93]⟩),.v (.int .i32 u)] (isR (dB (sgnN.any (λx=>decide (x=u))))):=by
 refine tZ func298 O O (λC=>?_);refine g' 9 O (tX [] O O acs (indexRune_c u h0 h1) ?_);rintro _ _ ⟨⟨i1,rfl,hi1⟩,rfl⟩;refine g' 5 O ?_;exact tRs O results298 (.cons (zf (zd O) (cB ((by exact hi1)))) .nil) O HSub.none ⟨O,O⟩
theorem pnext_c (g:Nat) (s:PR) (hl:s.l.length<=1000000) (hT:ROk s.l):
 CD prog 292 [.bx g 330 (.agg [.sh 1 (s.l.map dR),dB s.b])] [dP g 0] (λr H'=>r=.tup [.v (.int .i32 s.any.1),dB (decide (0<s.l.length))]/\H'=[PB g s]):=by
 refine tZ func292 O O (λC=>?_);refine gQ 13 [0] O O (tP O (zH (n:=s.l.length) O runUnderlying124 (by simp only[lm,lc,ln])) (g' 3 O ?_));refine tD O (λhc1=>?_) (λhc1=>?_)
 · refine g' 8 O ?_;exact tRs O results292 (.cons (zf (zd O) (mB (congrArg dR (pnext_0 (by omega)).1))) (.cons (zf (zd O) (mB (congrArg dB (pnext_0 (by omega)).2.symm))) .nil)) O (mT 1 O) ⟨O,O⟩
 refine gQ 8 [0] O O ?_;obtain ⟨x1,hx1⟩:=zj s.l 0 (by omega);refine tP O (zh (k:=0) O O runUnderlying124 sizeOf21 (by first | rfl | omega) (ze hx1)) (g' 6 O ?_);exact tRs O results292 (.cons (zf (zd O) (mB (congrArg dR (pnext_x hx1).1))) (.cons (zf (zd O) (mB (congrArg dB (pnext_x hx1).2.symm))) .nil)) O (mT 1 O) ⟨O,O⟩
theorem zea (g:Nat) (s:PR) (want:Int) (hl:s.l.length<=1000000) (hT:ROk s.l):
 CD prog 287 [.bx g 330 (.agg [.sh 1 (s.l.map dR),dB s.b])] [dP g 0,.v (.int .i32 want)] (λr H'=>∃ q s',(q,s')=s.take want/\r=dB q/\H'=[PB g s']):=by
 refine tZ func287 O O (λC=>?_);refine g' 9 O (tX [0] O O acs (pnext_c g s (by omega) hT) ?_);rintro _ _ ⟨rfl,rfl⟩;refine g' 12 O ?_;refine tOr 2 3 (c:=decide (s.any.1≠want)) O O O O O O (λhb2 nx3=>?_) ?_
 · have hf4:=of_decide_eq_true (notF hb2);refine g' 3 O ?_;exact nx3 _ O O (kx 3 O O)
 refine g' 2 O ?_;refine tC O (λhc5=>?_) (λhc5=>?_)
 · simp only[bX,bJ] at hc5;have hno:s.l.length=0\/s.any.1≠want:=(by have h:=hc5;omega);refine g' 7 O ?_;exact tR O (mT 1 O) ⟨_,⟨s.l,s.b⟩,ptake_no hno,O,O⟩
 simp only[bX,bJ] at hc5;have hyes:0<s.l.length/\s.any.1=want:=by have h:=hc5;omega
 refine gQ 9 [0] O O (tP O ((zcM (a:=1) (b:=s.l.length) O O O (by first | rfl | (show _=_;(try simp only[lm]);omega) | exact cW _) (by first | rfl | (show _=_;(try simp only[lm]);omega) | exact cW _) runUnderlying124 sizeOf21 (by omega) (by simp only[lm];omega)).cv (mB (by rw[<-jQ,<-jR]))) (gQ 11 [0] O O ?_));exact tR O (mT 1 O) ⟨_,⟨((s.l.take s.l.length).drop 1),s.b⟩,ptake_ok hyes.1 hyes.2,O,O⟩
theorem zfJ (g:Nat) (s:PR) (hl:s.l.length<=1000000) (hT:ROk s.l):
 CD prog 296 [.bx g 330 (.agg [.sh 1 (s.l.map dR),dB s.b])] [dP g 0] (λr H'=>∃ c s',(c,s')=s.any/\r=.v (.int .i32 c)/\H'=[PB g s']):=by
 refine tZ func296 O O (λC=>?_);refine g' 8 O (tX [0] O O acs (pnext_c g s (by omega) hT) ?_);rintro _ _ ⟨rfl,rfl⟩;refine g' 14 O ?_;refine tC O (λhc2=>?_) (λhc2=>?_)
 · replace hc2:=of_decide_eq_false (p:=0<s.l.length) (by simpa using hc2)
   have hz:s.l.length=0:=(by have h:=hc2;first | omega | (simp at h;omega));refine gQ 15 [0] O O ?_;exact tR O (mT 1 O) ⟨_,⟨s.l,true⟩,pany_no hz,O,O⟩
 · replace hc2:=of_decide_eq_true (p:=0<s.l.length) (by simpa using hc2)
   have hz:0<s.l.length:=(by have h:=hc2;first | omega | (simp at h;omega));refine gQ 9 [0] O O (tP O ((zcM (a:=1) (b:=s.l.length) O O O (by first | rfl | (show _=_;(try simp only[lm]);omega) | exact cW _) (by first | rfl | (show _=_;(try simp only[lm]);omega) | exact cW _) runUnderlying124 sizeOf21 (by omega) (by simp only[lm];omega)).cv (mB (by rw[<-jQ,<-jR]))) (gQ 12 [0] O O ?_));exact tR O (mT 1 O) ⟨_,⟨((s.l.take s.l.length).drop 1),s.b⟩,pany_ok hz,O,O⟩
theorem pmember_c (g:Nat) (s:PR) (hl:s.l.length<=1000000) (hT:ROk s.l):
 CD prog 299 [.bx g 330 (.agg [.sh 1 (s.l.map dR),dB s.b])] [dP g 0] (λr H'=>∃ c s',(c,s')=s.member/\r=.v (.int .i32 c)/\H'=[PB g s']):=by
 refine tZ func299 O O (λC=>?_);refine g' 8 O (tX [0] O O acs (zfJ g s (by omega) hT) ?_);rintro _ _ ⟨c1,s1,e1,rfl,rfl⟩;obtain ⟨kl1,kb1,kc1⟩:=zfI e1 hT;have hT1:=hT.suf kl1;have kd1:=kl1.length_le;refine g' 10 O ?_;refine tD O (λhc2=>?_) (λhc2=>?_)
 · refine g' 3 O (tX [0] O O acs (zfJ g s1 (by omega) hT1) ?_);rintro _ _ ⟨c3,s3,e3,rfl,rfl⟩;obtain ⟨kl3,kb3,kc3⟩:=zfI e3 hT1;have hT3:=hT1.suf kl3;have kd3:=kl3.length_le;refine g' 5 O ?_;exact tR O (mT 1 O) ⟨_,⟨s3.l,s3.b⟩,pmember_1 e1 hc2 e3,O,O⟩
 refine g' 9 O ?_;exact tR O (mT 1 O) ⟨_,⟨s1.l,s1.b⟩,pmember_0 e1 hc2,O,O⟩
theorem ptimes_1 {s s1:PR} {x:Pt} {q:Bool} (e:(q,s1)=s.take 42) (h:q=true):(Pt.rep x true true,s1)=s.times x:=by
 have hh:=(zaU e).2.2.2.symm.trans h;unfold PR.times;rw[if_pos hh,<-e]
theorem ptimes_2 {s s1 s2:PR} {x:Pt} {q q':Bool} (e:(q,s1)=s.take 42) (h:¬q=true) (e2:(q',s2)=s1.take 43) (h2:q'=true):(Pt.rep x false true,s2)=s.times x:=by
 have hh:¬s.has 42=true:=λk=>h ((zaU e).2.2.2.trans k)
 have es:s1=s:=by have h2:s1=(s.take 42).2:=congrArg Prod.snd e;rw[h2];unfold PR.take;rw[if_neg hh]
 subst es;have hh2:=(zaU e2).2.2.2.symm.trans h2;unfold PR.times;rw[if_neg hh,if_pos hh2,<-e2]
theorem ptimes_3 {s s1 s2 s3:PR} {x:Pt} {q q' q'':Bool} (e:(q,s1)=s.take 42) (h:¬q=true) (e2:(q',s2)=s1.take 43) (h2:¬q'=true) (e3:(q'',s3)=s2.take 63):((if q''=true then Pt.rep x true false else x),s3)=s.times x:=by
 have hh:¬s.has 42=true:=λk=>h ((zaU e).2.2.2.trans k)
 have es:s1=s:=by have h2:s1=(s.take 42).2:=congrArg Prod.snd e;rw[h2];unfold PR.take;rw[if_neg hh]
 subst es;have hh2:¬s1.has 43=true:=λk=>h2 ((zaU e2).2.2.2.trans k)
 have es:s2=s1:=by have h2:s2=(s1.take 43).2:=congrArg Prod.snd e2;rw[h2];unfold PR.take;rw[if_neg hh2]
 subst es;have hq:=(zaU e3).2.2.2;unfold PR.times;rw[if_neg hh,if_neg hh2,<-e3];by_cases h3:q''=true
 · rw[if_pos h3,if_pos (hq.symm.trans h3)]
 rw[if_neg h3,if_neg (λk=>h3 (hq.trans k))];have h2:s3=(s2.take 63).2:=congrArg Prod.snd e3;rw[h2];unfold PR.take;rw[if_neg (λk=>h3 (hq.trans k))]
theorem ptimes_c (g:Nat) (s:PR) (x:Pt) (hl:s.l.length<=1000000) (hT:ROk s.l):
 CD prog 293 [.bx g 330 (.agg [.sh 1 (s.l.map dR),dB s.b])] [dP g 0,Pt.d x] (λr H'=>∃ y s',(y,s')=s.times x/\r=Pt.d y/\H'=[PB g s']):=by
 refine tZ func293 O O (λC=>?_);refine g' 10 O (tX [0] O O acs (zea g s (42:Int) (by omega) hT) ?_);rintro _ _ ⟨q1,s1,e1,rfl,rfl⟩;obtain ⟨kl1,kb1,kc1,ke1⟩:=zaU e1;have hT1:=hT.suf kl1;have kd1:=kl1.length_le;refine g' 3 O ?_;refine tC O (λhc2=>?_) (λhc2=>?_)
 · refine g' 3 O (tP O (zr [0,1,2] [.tmp 8,.const (.bool true),.const (.bool true)] (zv:=cM) O O (.cons (zeP _) (.cons (CellD.v O) (.cons (CellD.v O) .nil))) (runUnderlying361) zeroValue361 bd_361 ⟨O,O,O,trivial⟩ O) (g' 7 O ?_));exact tR O (mT 1 O) ⟨_,⟨s1.l,s1.b⟩,ptimes_1 e1 hc2,O,O⟩
 refine g' 3 O (tX [0] O O acs (zea g s1 (43:Int) (by omega) hT1) ?_);rintro _ _ ⟨q3,s3,e3,rfl,rfl⟩;obtain ⟨kl3,kb3,kc3,ke3⟩:=zaU e3;have hT3:=hT1.suf kl3;have kd3:=kl3.length_le;refine g' 3 O ?_;refine tC O (λhc4=>?_) (λhc4=>?_)
 · refine g' 3 O (tP O (zr [0,1,2] [.tmp 14,.const (.bool false),.const (.bool true)] (zv:=cM) O O (.cons (zeP _) (.cons (CellD.v O) (.cons (CellD.v O) .nil))) (runUnderlying361) zeroValue361 bd_361 ⟨O,O,O,trivial⟩ O) (g' 7 O ?_));exact tR O (mT 1 O) ⟨_,⟨s3.l,s3.b⟩,ptimes_2 e1 (by simpa using hc2) e3 hc4,O,O⟩
 refine g' 3 O (tX [0] O O acs (zea g s3 (63:Int) (by omega) hT3) ?_);rintro _ _ ⟨q5,s5,e5,rfl,rfl⟩;obtain ⟨kl5,kb5,kc5,ke5⟩:=zaU e5;have hT5:=hT3.suf kl5;have kd5:=kl5.length_le;refine g' 3 O ?_;refine tC O (λhc6=>?_) (λhc6=>?_)
 · refine g' 3 O (tP O (zr [0,1,2] [.tmp 20,.const (.bool true),.const (.bool false)] (zv:=cM) O O (.cons (zeP _) (.cons (CellD.v O) (.cons (CellD.v O) .nil))) (runUnderlying361) zeroValue361 bd_361 ⟨O,O,O,trivial⟩ O) (g' 7 O ?_));exact tR O (mT 1 O) ⟨_,⟨s5.l,s5.b⟩,(by have h:=ptimes_3 (x:=x) e1 (by simpa using hc2) e3 (by simpa using hc4) e5;rw[if_pos hc6] at h;exact h),O,O⟩
 refine g' 10 O ?_;exact tR O (mT 1 O) ⟨_,⟨s5.l,s5.b⟩,(by have h:=ptimes_3 (x:=x) e1 (by simpa using hc2) e3 (by simpa using hc4) e5;rw[if_neg (by simpa using hc6)] at h;exact h),O,O⟩
end Lp
