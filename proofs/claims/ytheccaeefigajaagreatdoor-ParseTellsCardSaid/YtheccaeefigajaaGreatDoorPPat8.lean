import Derived.Test.YtheccaeefigajaaGreatDoorV97
set_option linter.unusedSimpArgs false
set_option linter.unusedVariables false
set_option maxHeartbeats 4000000
set_option maxRecDepth 100000
namespace Lp
open Go Go.RowKit Go.Proofs
variable {t:ByteArray}
theorem zd1:BdP Tryz.prog #[⟨"Op",9,0,false, "", "",0⟩,⟨"Text",9,1,false, "", "",16⟩,⟨"N",3,2,false, "", "",32⟩,⟨"Mode",3,3,false, "", "",40⟩,⟨"Names",23,4,false, "", "",48⟩,⟨"Matchers",24,5,false, "", "",72⟩,⟨"Kids",25,6,false, "", "",96⟩] [(0,1),(1,1),(2,1),(3,1),(4,1),(5,1),(6,1)]:=λ_=>by kernel_rfl
theorem aX1:BdP Tryz.prog #[⟨"Name",9,0,false, "", "",0⟩,⟨"Op",3,1,false, "", "",16⟩,⟨"Value",9,2,false, "", "",24⟩] [(0,1),(1,1),(2,1)]:=λ_=>by kernel_rfl
theorem aHj:IzP Tryz.prog 65 (.agg #[(.string ByteArray.empty),(.int .i64 0),(.string ByteArray.empty)]) 3 40:=zdl (by kernel_rfl)
theorem aRg:Tryz.prog.underlying 24=some (.slice 65):=by kernel_rfl
theorem qO {α:Type} {p:α->Prop} {l:List α} {x:α} (h:∀ y∈l,p y) (hx:p x):∀ y∈l++[x],p y:=λy hy=>by
 rcases jV.1 hy with k | k
 · exact h y k
 rw[jJ.1 k];exact hx
theorem aNg (g:Nat) (s:Rd) (hw:s.n+2*(s.l.length:Int)<=3000000) (hn:0<=s.n) (hT:TOk s.l):
 CD Tryz.prog 233 [RB g s] [dP g 0] (λr H'=>∃ l s',(l,s')=s.braces rmD/\r=.sh 3 (l.map MatD.d)/\H'=[RB g s']):=by
 refine tZ Tryz.func233 O O (λC=>?_);refine g' 13 O (tX [0] O O (ga (.cons (ArgC.cv cS) .nil)) (zcE g s (⟨#[123]⟩:ByteArray) (by omega) (by omega) hT) ?_);rintro _ _ ⟨s1,e1,rfl,rfl⟩;obtain ⟨ka1,kb1,kc1,hT1⟩:=(zaL e1).out hT;refine g' 6 O (tE O (Qu.ef (d:=.sh 1 ([(⟨#[125]⟩:ByteArray)].map D.s)) ((zi [.const (.string ⟨#[125]⟩)] O O (.cons (CellD.v O) .nil) O Tryz.runUnderlying23 Tryz.sizeOf9 Tryz.zeroValue9 O O O O).cv (mN (.cons cS .nil)))) ?_);rintro _ _ ⟨rfl,rfl⟩;refine tX [0] O O acs (is_c g s1 5 [(⟨#[125]⟩:ByteArray)] (by omega) (by omega) hT1) ?_;rintro _ _ ⟨rfl,rfl⟩;refine g' 2 O ?_;refine tC O (λhc3=>?_) (λhc3=>?_)
 · refine g' 3 O (tX [0] O O (ga (.cons (ArgC.cv cS) .nil)) (zcE g s1 (⟨#[125]⟩:ByteArray) (by omega) (by omega) hT1) ?_);rintro _ _ ⟨s4,e4,rfl,rfl⟩;obtain ⟨ka4,kb4,kc4,hT4⟩:=(zaL e4).out hT1;refine g' 9 O ?_;exact tRs O Tryz.results233 (.cons (zd (zc O) (Cv.nil)) .nil) O (mP 1 O) ⟨[],⟨s4.l,s4.n,s4.b⟩,aPh rmD e1 hc3 e4,O,O⟩
 refine g' 4 O (tl4 (λ(a_:Nat) (b_:Rd) (c_:Value) (d_:List MatD)=>[(0,dP g 0),(2,dZ),(3,.ov c_)]) (λa_ b_ c_ d_=>[.sl c_ 3 65 (d_.map MatD.d),RB g b_]) (λa_ b_ c_ d_=>(b_.l.length<a_)/\(zW a_ d_ b_=zW (s1.l.length+1) [] s1)/\(b_.n+2*(b_.l.length:Int)<=3000000)/\(0<=b_.n)/\(TOk b_.l)/\(d_.length+b_.l.length<=1500000)/\(∀ x∈d_,x.n.size<=1000/\x.v.size<=1000)) (λa_ b_ c_ d_=>a_) (s1.l.length+1) s1 (.slice none 0 0) [] O ⟨sk O,sk O,sc O (Cv.ov O),trivial⟩ (HSub.nil 3 65) ⟨jB _,O,(by omega),(by omega),hT1,(by show 0+s1.l.length<=_;omega),(λx hx=>by cases hx)⟩ ?_);rintro f z ov o ⟨hlf,hf,hzw,hzn,hz,hol,hmo⟩;obtain ⟨f,rfl⟩:∃ k,f=k+1:=⟨f-1,by omega⟩;refine gQ 10 [1] O O ?_;refine tC O (λhc5=>?_) (λhc5=>?_)
 · simp only[bX,bJ] at hc5;have hbf:z.b=false:=(by simpa using hc5);refine g' 6 O (tX [1] O O acs (zgg g z 1 (by omega) (by omega) hz (by decide)) ?_);rintro _ _ ⟨t6,s6,e6,rfl,rfl⟩;obtain ⟨ka6,kb6,kc6,hT6⟩:=(zc6 e6).out hz;have kz6:=zcR e6 hz;refine tP O (zj [0] [.tmp 22] (zv:=(.agg #[(.string ByteArray.empty),(.int .i64 0),(.string ByteArray.empty)])) O O (.cons CellD.s .nil) (Tryz.runUnderlying65) Tryz.zeroValue65 aX1 ⟨O,O,O,trivial⟩ O) ?_;refine tA O (λg7=>?_);refine gQ 6 [0] O O (tE O (Qu.ef (d:=.sh 1 ([(⟨#[61]⟩:ByteArray),(⟨#[33,61]⟩:ByteArray),(⟨#[61,126]⟩:ByteArray),(⟨#[33,126]⟩:ByteArray)].map D.s)) ((zi [.const (.string ⟨#[61]⟩),.const (.string ⟨#[33,61]⟩),.const (.string ⟨#[61,126]⟩),.const (.string ⟨#[33,126]⟩)] O O (.cons (CellD.v O) (.cons (CellD.v O) (.cons (CellD.v O) (.cons (CellD.v O) .nil)))) O Tryz.runUnderlying23 Tryz.sizeOf9 Tryz.zeroValue9 O O O O).cv (mN (.cons cS (.cons cS (.cons cS (.cons cS .nil))))))) ?_);rintro _ _ ⟨rfl,rfl⟩;refine tX [1] O O acs (zdS g s6 5 [(⟨#[61]⟩:ByteArray),(⟨#[33,61]⟩:ByteArray),(⟨#[61,126]⟩:ByteArray),(⟨#[33,126]⟩:ByteArray)] (by omega) (by omega) hT6 (by decide)) ?_;rintro _ _ ⟨t8,q8,s8,e8,rfl,rfl⟩;obtain ⟨ka8,kb8,kc8,hT8⟩:=(zdR e8).out hT6;have kz8:=zdx e8 hT6;refine gQ 15 [0] O O ?_;refine tOr 5 2 (c:=!q8) O O O O O O (λhb9 nx10=>?_) ?_
   · refine g' 2 O ?_;exact nx10 _ O O (kx 2 O O)
   refine gQ 6 [0] O O ?_;obtain ⟨s11,e11⟩:∃ x:Rd,x=⟨s8.l,s8.n,(s8.b||!q8)⟩:=⟨_,rfl⟩;have hl11:s11.l=s8.l:=(by rw[e11]);have hn11:s11.n=s8.n:=(by rw[e11]);have hT11:TOk s11.l:=(by rw[hl11];exact hT8);have hk11:s11.l.length=s8.l.length:=(by rw[hl11]);refine m9 [RB g s11,.bx g7 65 (.agg [.s t6,dI 0,.v (.string ByteArray.empty)]),.sl ov 3 65 (o.map MatD.d)] (by rw[e11]<;>rfl) (g' 2 O (tW O acs (a1a t8) (g' 1 O (tX [0] O O acs (zgg g s11 3 (by omega) (by omega) hT11 (by decide)) ?_))));rintro _ _ ⟨t12,s12,e12,rfl,rfl⟩;obtain ⟨ka12,kb12,kc12,hT12⟩:=(zc6 e12).out hT11;have kz12:=zcR e12 hT11;refine gQ 10 [1,1,1] O O (tE O (Qu.ef (d:=.sh 3 ([(MatD.mk t6 (opM t8) t12)].map MatD.d)) (zi [.tmp 48] O O (.cons CellD.agg .nil) O Tryz.runUnderlying24 Tryz.sizeOf65 Tryz.zeroValue65 O O O O)) ?_);rintro _ _ ⟨rfl,rfl⟩;refine tE O (zP (f:=MatD.d) (l:=o) (l':=[(MatD.mk t6 (opM t8) t12)]) (i:=2) O O O (SrcD.sh) aRg aHj O O (by unfold maxLen;(try simp only[la,lc,ln,lm,lt',ld,ls,lr]);omega) (by (try simp only[la,lc,ln,lm,lt',ld,ls,lr]);omega)) ?_;rintro _ _ ⟨v13,rfl,rfl⟩;refine g' 6 O (tE O (Qu.ef (d:=.sh 1 ([(⟨#[44]⟩:ByteArray)].map D.s)) ((zi [.const (.string ⟨#[44]⟩)] O O (.cons (CellD.v O) .nil) O Tryz.runUnderlying23 Tryz.sizeOf9 Tryz.zeroValue9 O O O O).cv (mN (.cons cS .nil)))) ?_);rintro _ _ ⟨rfl,rfl⟩;refine tX [0] O O acs (zdS g s12 5 [(⟨#[44]⟩:ByteArray)] (by omega) (by omega) hT12 (by decide)) ?_;rintro _ _ ⟨t14,q14,s14,e14,rfl,rfl⟩;obtain ⟨ka14,kb14,kc14,hT14⟩:=(zdR e14).out hT12;have kz14:=zdx e14 hT12;refine g' 13 O ?_;refine tC O (λhc15=>?_) (λhc15=>?_)
   · simp only[bX,bJ] at hc15;have hff:=hf.symm.trans (aFb hbf e6 e8 e11 e12 e14 (by simpa using hc15));have hmq:∀ x∈(o++[(MatD.mk t6 (opM t8) t12)]),x.n.size<=1000/\x.v.size<=1000:=qO hmo ⟨by omega,by omega⟩;have hlq:(o++[(MatD.mk t6 (opM t8) t12)]).length<=2000000:=(by simp only[la,cT];omega);refine g' 8 O (tX [0] O O (ga (.cons (ArgC.cv cS) .nil)) (zcE g s14 (⟨#[125]⟩:ByteArray) (by omega) (by omega) hT14) ?_);rintro _ _ ⟨s16,e16,rfl,rfl⟩;obtain ⟨ka16,kb16,kc16,hT16⟩:=(zaL e16).out hT14;refine gQ 10 [0] O O ?_;refine tOr 5 3 (c:=!(rmD (o++[(MatD.mk t6 (opM t8) t12)]))) O O O O O O (λhb17 nx18=>?_) ?_
     · refine g' 1 O (tV [2] O O (.cons (mK (j:=0) O O) .nil) (aBp (o++[(MatD.mk t6 (opM t8) t12)]) (by omega) hmq) O (g' 1 O ?_));exact nx18 _ O O (kx 3 O O)
     refine gQ 12 [0] O O (kA 2 O ?_);refine m7 (Mv.freeze (K':=[(0,dP g 0),(2,.sh 3 ((o++[(MatD.mk t6 (opM t8) t12)]).map MatD.d)),(3,.sh 3 ((o++[(MatD.mk t6 (opM t8) t12)]).map MatD.d)),(4,dP g7 0),(5,.s t8),(6,dB q8),(7,.s t14),(8,dB q14),(16,dP g 0),(17,dP g 0),(18,dP g 2),(19,dB z.b),(20,dB (!z.b)),(21,dP g 0),(22,.s t6),(23,.agg [.s t6,dI 0,.v (.string ByteArray.empty)]),(24,.tup [.s t8,dB q8]),(25,dP g 0),(26,.sh 1 ([(⟨#[61]⟩:ByteArray),(⟨#[33,61]⟩:ByteArray),(⟨#[61,126]⟩:ByteArray),(⟨#[33,126]⟩:ByteArray)].map D.s)),(27,.tup [.s t8,dB q8]),(28,.s t8),(29,dB q8),(30,dP g 0),(31,dP g 0),(32,dP g 0),(33,dP g 2),(34,dB s8.b),(35,dB s8.b),(38,dB (s8.b||!q8)),(39,dP g 0),(40,dP g 2),(41,.s t8),(42,dI (opM t8)),(43,dP g 0),(44,.s t12),(45,dP g7 1),(46,dP g7 2),(47,.ov ov),(48,.agg [.s t6,dI (opM t8),.s t12]),(49,.sh 3 ([(MatD.mk t6 (opM t8) t12)].map MatD.d)),(50,.sh 3 ((o++[(MatD.mk t6 (opM t8) t12)]).map MatD.d)),(51,.tup [.s t14,dB q14]),(52,dP g 0),(53,.sh 1 ([(⟨#[44]⟩:ByteArray)].map D.s)),(54,.tup [.s t14,dB q14]),(55,.s t14),(56,dB q14),(57,dB q14),(58,dB (!q14)),(59,dP g 0),(60,.tup []),(61,dP g 0),(62,dP g 0),(63,dP g 0),(64,dP g 2),(65,dB s16.b),(66,dB s16.b),(70,dB (s16.b||!(rmD (o++[(MatD.mk t6 (opM t8) t12)])))),(71,dP g 0),(72,dP g 2),(73,.sh 3 ((o++[(MatD.mk t6 (opM t8) t12)]).map MatD.d))]) [.sl v13 3 65 ((o++[(MatD.mk t6 (opM t8) t12)]).map MatD.d)] (H1:=[.bx g 72 (.agg [.sh 3 (s16.l.map TokD.d),dI s16.n,dB (s16.b||!(rmD (o++[(MatD.mk t6 (opM t8) t12)])))]),.bx g7 65 (.agg [.s t6,dI (opM t8),.s t12])]) (H1':=[.bx g 72 (.agg [.sh 3 (s16.l.map TokD.d),dI s16.n,dB (s16.b||!(rmD (o++[(MatD.mk t6 (opM t8) t12)])))]),.bx g7 65 (.agg [.s t6,dI (opM t8),.s t12])]) ⟨⟨_,O,mJ⟩,⟨_,O,mK (j:=0) O O⟩,⟨_,O,mK (j:=0) O O⟩,⟨_,O,mJ⟩,⟨_,O,mJ⟩,⟨_,O,mJ⟩,⟨_,O,mJ⟩,⟨_,O,mJ⟩,⟨_,O,mJ⟩,⟨_,O,mJ⟩,⟨_,O,mJ⟩,⟨_,O,mJ⟩,⟨_,O,mJ⟩,⟨_,O,mJ⟩,⟨_,O,mJ⟩,⟨_,O,mJ⟩,⟨_,O,mJ⟩,⟨_,O,mJ⟩,⟨_,O,mJ⟩,⟨_,O,mJ⟩,⟨_,O,mJ⟩,⟨_,O,mJ⟩,⟨_,O,mJ⟩,⟨_,O,mJ⟩,⟨_,O,mJ⟩,⟨_,O,mJ⟩,⟨_,O,mJ⟩,⟨_,O,mJ⟩,⟨_,O,mJ⟩,⟨_,O,mJ⟩,⟨_,O,mJ⟩,⟨_,O,mJ⟩,⟨_,O,mJ⟩,⟨_,O,mJ⟩,⟨_,O,mJ⟩,⟨_,O,mJ⟩,⟨_,O,mJ⟩,⟨_,O,mJ⟩,⟨_,O,mJ⟩,⟨_,O,mJ⟩,⟨_,O,mK (j:=0) O O⟩,⟨_,O,mJ⟩,⟨_,O,mJ⟩,⟨_,O,mJ⟩,⟨_,O,mJ⟩,⟨_,O,mJ⟩,⟨_,O,mJ⟩,⟨_,O,mJ⟩,⟨_,O,mJ⟩,⟨_,O,mJ⟩,⟨_,O,mJ⟩,⟨_,O,mJ⟩,⟨_,O,mJ⟩,⟨_,O,mJ⟩,⟨_,O,mJ⟩,⟨_,O,mJ⟩,⟨_,O,mJ⟩,⟨_,O,mJ⟩,⟨_,O,mJ⟩,⟨_,O,mJ⟩,⟨_,O,mK (j:=0) O O⟩,trivial⟩ (.same (.same .nil))) ?_;exact tR O (mP 1 O) ⟨(o++[(MatD.mk t6 (opM t8) t12)]),⟨s16.l,s16.n,(s16.b||!(rmD (o++[(MatD.mk t6 (opM t8) t12)])))⟩,aBl rmD e1 (by simpa using hc3) hff e16,O,O⟩
   simp only[bX,bJ] at hc15;obtain ⟨ky,_⟩:=aGb e14 (by decide) (by simpa using hc15);refine g' 2 O (kA 2 O (m8 (mP 2 O) ?_));exact tp4 f s14 v13 (o++[(MatD.mk t6 (opM t8) t12)]) (sa O) w9 ⟨by omega,(aKk hbf e6 e8 e11 e12 e14 (by simpa using hc15)).symm.trans hf,by omega,by omega,hT14,by simp only[la,cT];omega,qO hmo ⟨by omega,by omega⟩⟩ (by omega)
 simp only[bX,bJ] at hc5;have hff:=hf.symm.trans (aEu (by simpa using hc5));have hmq:=hmo;have hlq:o.length<=2000000:=by omega
 refine g' 8 O (tX [1] O O (ga (.cons (ArgC.cv cS) .nil)) (zcE g z (⟨#[125]⟩:ByteArray) (by omega) (by omega) hz) ?_);rintro _ _ ⟨s19,e19,rfl,rfl⟩;obtain ⟨ka19,kb19,kc19,hT19⟩:=(zaL e19).out hz;refine gQ 10 [0] O O ?_;refine tOr 5 3 (c:=!(rmD o)) O O O O O O (λhb20 nx21=>?_) ?_
 · refine g' 1 O (tV [1] O O (.cons (mK (j:=0) O O) .nil) (aBp o (by omega) hmq) O (g' 1 O ?_));exact nx21 _ O O (kx 3 O O)
 refine gQ 12 [0] O O (kA 1 O ?_);refine m7 (Mv.freeze (K':=[(0,dP g 0),(2,.sh 3 (o.map MatD.d)),(3,.sh 3 (o.map MatD.d)),(16,dP g 0),(17,dP g 0),(18,dP g 2),(19,dB z.b),(20,dB (!z.b)),(59,dP g 0),(60,.tup []),(61,dP g 0),(62,dP g 0),(63,dP g 0),(64,dP g 2),(65,dB s19.b),(66,dB s19.b),(70,dB (s19.b||!(rmD o))),(71,dP g 0),(72,dP g 2),(73,.sh 3 (o.map MatD.d))]) [.sl ov 3 65 (o.map MatD.d)] (H1:=[.bx g 72 (.agg [.sh 3 (s19.l.map TokD.d),dI s19.n,dB (s19.b||!(rmD o))])]) (H1':=[.bx g 72 (.agg [.sh 3 (s19.l.map TokD.d),dI s19.n,dB (s19.b||!(rmD o))])]) ⟨⟨_,O,mJ⟩,⟨_,O,mK (j:=0) O O⟩,⟨_,O,mK (j:=0) O O⟩,⟨_,O,mJ⟩,⟨_,O,mJ⟩,⟨_,O,mJ⟩,⟨_,O,mJ⟩,⟨_,O,mJ⟩,⟨_,O,mJ⟩,⟨_,O,mJ⟩,⟨_,O,mJ⟩,⟨_,O,mJ⟩,⟨_,O,mJ⟩,⟨_,O,mJ⟩,⟨_,O,mJ⟩,⟨_,O,mJ⟩,⟨_,O,mJ⟩,⟨_,O,mJ⟩,⟨_,O,mJ⟩,⟨_,O,mK (j:=0) O O⟩,trivial⟩ (.same .nil)) ?_;exact tR O (mP 1 O) ⟨o,⟨s19.l,s19.n,(s19.b||!(rmD o))⟩,aBl rmD e1 (by simpa using hc3) hff e19,O,O⟩
theorem aHd {s s':Rd} (e:(t,s')=s.selName):Stp 0 s s':=by
 have h:s'=s.selName.2:=aG Prod.snd e;rw[h];unfold Rd.selName;split;exact zav s 1;exact mS s
theorem aVg {s s':Rd} {ms:List MatD} (e:(ms,s')=s.selMs rmD t):Stp 0 s s':=by
 have h:s'=(s.selMs rmD t).2:=aG Prod.snd e;rw[h];unfold Rd.selMs;split;exact zdk rmD s;exact(mS s).bad _
theorem aO7 {s s':Rd} {w:Int} (e:(w,s')=s.selWin):Stp 0 s s':=by
 have h:s'=s.selWin.2:=aG Prod.snd e;rw[h];unfold Rd.selWin;split
 · exact(((zC s 5 [tSq]).trans (zaB _ 4)).trans (zr _ _)).le (by omega)
 exact zC s 5 _
theorem aKx {s:Rd} (h:¬s.is 5 [zH]=true) (ht:t=ByteArray.empty):([],(⟨s.l,s.n,true⟩:Rd))=s.selMs rmD t:=by rw[<-aIg rmD h,aE ht,jY]
theorem aNh {s:Rd} (h:¬s.is 5 [zH]=true) (ht:¬t=ByteArray.empty):([],(⟨s.l,s.n,s.b⟩:Rd))=s.selMs rmD t:=by rw[<-aIg rmD h,aD ht,dQ]
theorem aEn (g:Nat) (s:Rd) (ev es:Value) (hev:EvOk ev) (hes:EvOk es) (hw:s.n+2*(s.l.length:Int)<=3000000) (hn:0<=s.n) (hT:TOk s.l):
 CD Tryz.prog 222 [RB g s,HPow,HErr ev,HSyn es] [dP g 0] (NdR g ev es (s.selector rmD)):=by
 refine tZ Tryz.func222 O O (λC=>?_);refine g' 2 O ?_;refine tA O (λg1=>?_);refine g' 4 O (tP O (zj [0] [.const (.string ⟨#[115,101,108]⟩)] (zv:=n9) O O (.cons (CellD.v O) .nil) (Tryz.runUnderlying27) Tryz.zeroValue27 zd1 ⟨O,O,O,O,O,O,O,trivial⟩ O) ?_);refine tA O (λg2=>?_);refine gQ 4 [0] O O (m8 (mC (h':=.bx g2 27 (.agg [.s nSel,.s ByteArray.empty,dI 0,dI 0,.sh 1 (([]:List ByteArray).map D.s),.sh 3 (([]:List MatD).map MatD.d),.sh 7 (Nd.ds ([]:List Nd))])) O (mD (Cv.agg (.cons cS (.cons cS (gc (gc (.cons Cv.nil (.cons Cv.nil (.cons Cv.nil .nil)))))))))) (g' 2 O (tX [2] O O acs (aD6 g s (by omega) (by omega) hT) ?_)));rintro _ _ ⟨rfl,rfl⟩;refine tA O (λg4=>?_);refine gQ 10 [0,0] O O ?_;refine tAnd 3 4 (c:=!(zcP s.pk.t)) O O O O O O (λhb5 nx6=>?_) ?_
 · have hf7:=aF hb5;refine gQ 2 [0] O O (tW O acs (aZi s.pk.t) (g' 1 O ?_));exact nx6 _ O O (kx 4 O O)
 refine g' 2 O ?_;refine tJ (λ(jg:ByteArray×Rd)=>[(0,dP g 0),(2,dP g1 0),(3,dP g2 0)]) (λ(jg:ByteArray×Rd)=>[.bx g1 27 (.agg [.v (.string ByteArray.empty),.v (.string ByteArray.empty),dI 0,dI 0,dZ,dZ,dZ]),.bx g2 27 (.agg [.s nSel,.s jg.1,dI 0,dI 0,.sh 1 (([]:List ByteArray).map D.s),.sh 3 (([]:List MatD).map MatD.d),.sh 7 (Nd.ds ([]:List Nd))]),.bx g 72 (.agg [.sh 3 (jg.2.l.map TokD.d),dI jg.2.n,dB jg.2.b]),HPow,HErr ev,HSyn es]) (λ(jg:ByteArray×Rd)=>((jg.1,jg.2)=s.selName)) (λ_ hQ8=>?_) ?_
 · refine tC O (λhc9=>?_) (λhc9=>?_)
   · simp only[bX,bJ] at hc9;have hkk:s.pk.k=1/\zcP s.pk.t=false:=(by simpa using hc9);refine g' 2 O (tX [1] O O acs (zgg g s 1 (by omega) (by omega) hT (by decide)) ?_);rintro _ _ ⟨t10,s10,e10,rfl,rfl⟩;obtain ⟨ka10,kb10,kc10,hT10⟩:=(zc6 e10).out hT;have kz10:=zcR e10 hT;refine gQ 3 [2] O O (kA 6 O (kA 6 O (kA 6 O (kA 3 O (kA 5 O (kA 6 O (m8 (mP 6 O) ?_)))))));exact tqe (hQ8 (t10,s10) (aHn hkk e10)) O
   simp only[bX,bJ] at hc9;have hkk:¬(s.pk.k=1/\zcP s.pk.t=false):=(by rintro ⟨a,b⟩;have h:=hc9;rcases h with h | h;exact h a;(rw[b] at h;cases h));refine g' 1 O (kA 6 O (kA 6 O (kA 6 O (kA 4 O (kA 5 O (kA 6 O (m8 (mP 6 O) ?_)))))));exact tqe (hQ8 (ByteArray.empty,s) (aH4 hkk)) O
 rintro ⟨t,z⟩ hsel
 replace hsel:(t,z)=s.selName:=hsel
 refine T.kk [(0,dP g 0),(2,dP g1 0),(3,dP g2 0)] O (m9 [.bx g1 27 (.agg [.v (.string ByteArray.empty),.v (.string ByteArray.empty),dI 0,dI 0,dZ,dZ,dZ]),.bx g2 27 (.agg [.s nSel,.s t,dI 0,dI 0,.sh 1 (([]:List ByteArray).map D.s),.sh 3 (([]:List MatD).map MatD.d),.sh 7 (Nd.ds ([]:List Nd))]),RB g z,HPow,HErr ev,HSyn es] (by rfl) (g' 3 O ?_));obtain ⟨kx1,ky1,kz1,hTj1⟩:=(aHd hsel).out hT;refine g' 2 O (tE O (Qu.ef (d:=.sh 1 ([(⟨#[123]⟩:ByteArray)].map D.s)) ((zi [.const (.string ⟨#[123]⟩)] O O (.cons (CellD.v O) .nil) O Tryz.runUnderlying23 Tryz.sizeOf9 Tryz.zeroValue9 O O O O).cv (mN (.cons cS .nil)))) ?_);rintro _ _ ⟨rfl,rfl⟩;refine tX [2] O O acs (is_c g z 5 [(⟨#[123]⟩:ByteArray)] (by omega) (by omega) hTj1) ?_;rintro _ _ ⟨rfl,rfl⟩;refine g' 2 O ?_;refine tJ (λ(jg:List MatD×Rd)=>[(0,dP g 0),(2,dP g1 0),(3,dP g2 0)]) (λ(jg:List MatD×Rd)=>[.bx g1 27 (.agg [.v (.string ByteArray.empty),.v (.string ByteArray.empty),dI 0,dI 0,dZ,dZ,dZ]),.bx g2 27 (.agg [.s nSel,.s t,dI 0,dI 0,.sh 1 (([]:List ByteArray).map D.s),.sh 3 (jg.1.map MatD.d),.sh 7 (Nd.ds ([]:List Nd))]),.bx g 72 (.agg [.sh 3 (jg.2.l.map TokD.d),dI jg.2.n,dB jg.2.b]),HPow,HErr ev,HSyn es]) (λ(jg:List MatD×Rd)=>((jg.1,jg.2)=z.selMs rmD t)) (λ_ hQ12=>?_) ?_
 · refine tC O (λhc13=>?_) (λhc13=>?_)
   · refine g' 2 O (tX [0] O O acs (aNg g z (by omega) (by omega) hTj1) ?_);rintro _ _ ⟨l14,s14,e14,rfl,rfl⟩;obtain ⟨ka14,kb14,kc14,hT14⟩:=(aNs rmD e14).out hTj1;refine gQ 3 [2] O O (kA 5 O (kA 5 O (kA 5 O (kA 3 O (kA 5 O (kA 5 O ?_))))));exact tqe (hQ12 (l14,s14) (aU9 rmD hc13 e14)) O
   refine gQ 7 [2] O O ?_;refine tD O (λhc15=>?_) (λhc15=>?_)
   · refine gQ 6 [0] O O (kA 5 O (kA 5 O (kA 5 O (kA 3 O (kA 5 O (kA 5 O ?_))))));exact tqe (hQ12 (([]:List MatD),(⟨z.l,z.n,true⟩:Rd)) (aKx (by simpa using hc13) hc15)) O
   refine g' 1 O (kA 5 O (kA 5 O (kA 5 O (kA 3 O (kA 5 O (kA 5 O ?_))))));exact tqe (hQ12 (([]:List MatD),(⟨z.l,z.n,z.b⟩:Rd)) (aNh (by simpa using hc13) hc15)) O
 rintro ⟨ms,y⟩ hms
 replace hms:(ms,y)=z.selMs rmD t:=hms
 refine T.kk [(0,dP g 0),(2,dP g1 0),(3,dP g2 0)] O (m9 [.bx g1 27 (.agg [.v (.string ByteArray.empty),.v (.string ByteArray.empty),dI 0,dI 0,dZ,dZ,dZ]),.bx g2 27 (.agg [.s nSel,.s t,dI 0,dI 0,.sh 1 (([]:List ByteArray).map D.s),.sh 3 (ms.map MatD.d),.sh 7 (Nd.ds ([]:List Nd))]),RB g y,HPow,HErr ev,HSyn es] (by rfl) (g' 3 O ?_));obtain ⟨kx2,ky2,kz2,hTj2⟩:=(aVg hms).out hTj1;refine g' 2 O (tE O (Qu.ef (d:=.sh 1 ([(⟨#[91]⟩:ByteArray)].map D.s)) ((zi [.const (.string ⟨#[91]⟩)] O O (.cons (CellD.v O) .nil) O Tryz.runUnderlying23 Tryz.sizeOf9 Tryz.zeroValue9 O O O O).cv (mN (.cons cS .nil)))) ?_);rintro _ _ ⟨rfl,rfl⟩;refine tX [2] O O acs (zdS g y 5 [(⟨#[91]⟩:ByteArray)] (by omega) (by omega) hTj2 (by decide)) ?_;rintro _ _ ⟨t16,q16,s16,e16,rfl,rfl⟩;obtain ⟨ka16,kb16,kc16,hT16⟩:=(zdR e16).out hTj2;have kz16:=zdx e16 hTj2;refine g' 12 O ?_;refine tJ (λ(jg:Int×Rd)=>[(0,dP g 0),(2,dP g1 0),(3,dP g2 0)]) (λ(jg:Int×Rd)=>[.bx g1 27 (.agg [.v (.string ByteArray.empty),.v (.string ByteArray.empty),dI 0,dI 0,dZ,dZ,dZ]),.bx g2 27 (.agg [.s nSel,.s t,dI jg.1,dI 0,.sh 1 (([]:List ByteArray).map D.s),.sh 3 (ms.map MatD.d),.sh 7 (Nd.ds ([]:List Nd))]),.bx g 72 (.agg [.sh 3 (jg.2.l.map TokD.d),dI jg.2.n,dB jg.2.b]),HPow,HErr ev,HSyn es]) (λ(jg:Int×Rd)=>((jg.1,jg.2)=y.selWin)) (λ_ hQ17=>?_) ?_
 · refine tC O (λhc18=>?_) (λhc18=>?_)
   · refine g' 3 O (tX [0,2,2,2] O O acs (qF g s16 4 ev es hev hes (by omega) (by omega) hT16 (by omega)) ?_);rintro _ _ ⟨v19,s19,e19,rfl,rfl⟩;obtain ⟨ka19,kb19,kc19,hT19⟩:=(gV e19).out hT16;have kv19:=zeq e19 (by omega) hT16;refine gQ 6 [5] O O (tX [0] O O (ga (.cons (ArgC.cv cS) .nil)) (zcE g s19 (⟨#[93]⟩:ByteArray) (by omega) (by omega) hT19) ?_);rintro _ _ ⟨s20,e20,rfl,rfl⟩;obtain ⟨ka20,kb20,kc20,hT20⟩:=(zaL e20).out hT19;refine g' 1 O (kA 3 O (kA 3 O (kA 3 O (kA 3 O (kA 5 O (kA 5 O ?_))))));exact tqe (hQ17 (v19,s20) (aPl e16 hc18 e19 e20)) O
   refine g' 1 O (kA 5 O (kA 5 O (kA 5 O (kA 3 O (kA 5 O (kA 5 O ?_))))));exact tqe (hQ17 (0,s16) (aP3 e16 (by simpa using hc18))) O
 rintro ⟨w,v⟩ hwi
 replace hwi:(w,v)=y.selWin:=hwi
 refine T.kk [(0,dP g 0),(2,dP g1 0),(3,dP g2 0)] O (m9 [.bx g1 27 (.agg [.v (.string ByteArray.empty),.v (.string ByteArray.empty),dI 0,dI 0,dZ,dZ,dZ]),.bx g2 27 (.agg [.s nSel,.s t,dI w,dI 0,.sh 1 (([]:List ByteArray).map D.s),.sh 3 (ms.map MatD.d),.sh 7 (Nd.ds ([]:List Nd))]),RB g v,HPow,HErr ev,HSyn es] (by rfl) (g' 2 O ?_));obtain ⟨kx3,ky3,kz3,hTj3⟩:=(aO7 hwi).out hTj2;refine gQ 3 [1] O O (tX [2] O O acs (zf5 g v (.s nSel) (.s t) (dI w) (dI 0) (.sh 1 (([]:List ByteArray).map D.s)) (.sh 3 (ms.map MatD.d)) (.sh 7 (Nd.ds ([]:List Nd))) (by omega) (by omega) hTj3) ?_);rintro _ _ ⟨s21,e21,rfl,rfl⟩;obtain ⟨ka21,kb21,kc21,hT21⟩:=(zf4 e21).out hTj3;refine gQ 4 [1] O O (kA 5 O (kA 5 O (kA 5 O (kA 3 O ?_))));exact tRs O Tryz.results222 (.cons (zn (i:=4) O O Tryz.isAgg27 Tryz.sizeOf27 O O) .nil) O (mP 4 O) ⟨nSel,t,w,0,([]:List ByteArray),ms,([]:List Nd),⟨s21.l,s21.n,s21.b⟩,aA2 rmD hsel hms hwi e21,O,O⟩
end Lp
namespace Lp
open Go
section
variable (p:List Int)
def nx (a:Nat):Int:=p.getD a (-1)
def zbr (a:Nat) (b:Bool):Int×Nat×Bool:=
 if nx p a=92 then(nx p (a+1),a+1+1,b||decide (nx p (a+1)<0)) else(nx p a,a+1,b||decide (nx p a<0))
def zdZ (a:Nat):Prop:=nx p a=45/\a+1<p.length/\nx p (a+1)≠93
instance (a:Nat):Decidable (zdZ p a):=by unfold zdZ;infer_instance
def two7 (a:Nat) (b:Bool):Int×Int×Nat×Bool:=
 let i:=zbr p a b
 if zdZ p i.2.1 then(i.1,(zbr p (i.2.1+1) i.2.2).1,(zbr p (i.2.1+1) i.2.2).2.1,(zbr p (i.2.1+1) i.2.2).2.2) else(i.1,i.1,i.2.1,i.2.2)
def zbc:Nat->Nat->Nat->Bool->Nat×Bool
 | 0,_,a,b=>(a,b)
 | f+1,n,a,b=>
  if b=true\/(nx p a=93/\n≠0) then(a,b)
  else if nx p a=93\/p.length<=a then(a,true)
  else
   let t:=two7 p a b
   zbc f (n+1) t.2.2.1 (t.2.2.2||decide (t.2.1<t.1))
def zd0 (a:Nat) (b:Bool):Nat×Bool:=
 let a0:=if nx p a=94 then a+1 else a
 let r:=zbc p (p.length+1) 0 a0 b
 (r.1+1,r.2)
def zbX (alt:Nat->Bool->Nat×Bool) (a:Nat) (b:Bool):Nat×Bool:=
 if nx p a=40 then((alt (a+1) b).1+1,(alt (a+1) b).2||decide (nx p (alt (a+1) b).1≠41))
 else if nx p a=91 then zd0 p (a+1) b
 else if nx p a=46 then(a+1,b)
 else if nx p a=92 then(a+1+1,b||decide (p.length<=a+1))
 else(a+1,b||decide (nx p a=42\/nx p a=43\/nx p a=63\/nx p a=93))
def zcf (alt:Nat->Bool->Nat×Bool) (a:Nat) (b:Bool):Nat×Bool:=
 let x:=zbX p alt a b
 if nx p x.1=42\/nx p x.1=43\/nx p x.1=63 then(x.1+1,x.2) else x
def za0 (alt:Nat->Bool->Nat×Bool):Nat->Nat->Bool->Nat×Bool
 | 0,a,b=>(a,b)
 | f+1,a,b=>if b=true\/p.length<=a\/nx p a=124\/nx p a=41 then(a,b) else za0 alt f (zcf p alt a b).1 (zcf p alt a b).2
def zbl (alt:Nat->Bool->Nat×Bool) (a:Nat) (b:Bool):Nat×Bool:=za0 p alt (p.length+1-a) a b
def za6 (alt:Nat->Bool->Nat×Bool):Nat->Nat->Bool->Nat×Bool
 | 0,a,b=>(a,b)
 | f+1,a,b=>if nx p a=124/\b=false then za6 alt f (zbl p alt (a+1) b).1 (zbl p alt (a+1) b).2 else(a,b)
def alt7:Nat->Nat->Bool->Nat×Bool
 | 0,a,b=>(a,b)
 | f+1,a,b=>za6 p (alt7 f) (p.length+1-(zbl p (alt7 f) a b).1) (zbl p (alt7 f) a b).1 (zbl p (alt7 f) a b).2
def pat7:Bool:=!(alt7 p (p.length+1) 0 false).2&&decide (p.length<=(alt7 p (p.length+1) 0 false).1)
structure Rl (u:PR) (t:Nat×Bool):Prop where
 g:u.b=false->t.2=false/\t.1<=p.length/\u.l=p.drop t.1
 d:u.b=true->t.2=true
variable {p}
theorem Rl.no {u:PR} {t:Nat×Bool} (h:u.b=true) (k:t.2=true):Rl p u t:=⟨λe=>(by rw[h] at e;cases e),λ_=>k⟩
theorem Rl.yes {u:PR} {t:Nat×Bool} (h:u.b=false) (k:t.2=false) (a:t.1<=p.length) (e:u.l=p.drop t.1):Rl p u t:=⟨λ_=>⟨k,a,e⟩,λe=>(by rw[h] at e;cases e)⟩
theorem aKy {a:Nat} {x:Int} (h0:0<=x):nx p a=x↔(p.drop a).head?=some x:=by
 unfold nx;rw[dF,List.head?_drop];cases h:p[a]? with
 | none=>simp;omega
 | some y=>simp
theorem zfa {a:Nat} {c:Int} {b:Bool} (h0:0<=c):PR.has ⟨p.drop a,b⟩ c=decide (nx p a=c):=by
 unfold PR.has;simp only[aKy h0]
theorem aBa {a:Nat} (h:a<p.length):p.drop a=nx p a::p.drop (a+1):=by
 rw[uX h];unfold nx;rw[dF,dO h];rfl
theorem ze5 {a:Nat} {x:Int} (h0:0<=x) (h:nx p a=x):a<p.length:=by
 have:=(aKy h0).1 h;rcases c8 a p.length with k | k
 · exact k
 rw[uC k] at this;cases this
theorem zfC {a:Nat} {b:Bool} (h:a<p.length):PR.any ⟨p.drop a,b⟩=(nx p a,⟨p.drop (a+1),b⟩):=by
 unfold PR.any;rw[aBa h]
theorem yA {a:Nat} {b:Bool} (h:p.length<=a):PR.any ⟨p.drop a,b⟩=(0,⟨[],true⟩):=by
 unfold PR.any;rw[uC h]
theorem aQ7 {a:Nat} (h:p.length<=a):nx p a= -1:=by
 unfold nx;rw[dF,j5 h];rfl
theorem zeG {a:Nat} {c:Int} {b:Bool} (h0:0<=c):PR.take ⟨p.drop a,b⟩ c=if nx p a=c then(true,⟨p.drop (a+1),b⟩) else(false,⟨p.drop a,b⟩):=by
 unfold PR.take;rw[zfa h0];by_cases e:nx p a=c
 · rw[aB e,aB (by simpa using e)];have:=ze5 h0 e;simp only[List.tail_drop]
 rw[aA e,aA (by simpa using e)]
theorem aRi {a:Nat}:(1<(p.drop a).length/\(p.drop a).headD 0=45/\(p.drop a).tail.headD 0≠93)↔zdZ p a:=by
 unfold zdZ;rw[cZ];rcases c8 (a+1) p.length with k | k
 · rw[aBa (show a<p.length by omega),aBa k];simp only[List.headD_cons,List.tail_cons];constructor
   · rintro ⟨_,h1,h2⟩;exact⟨h1,k,h2⟩
   rintro ⟨h1,_,h2⟩;exact⟨by omega,h1,h2⟩
 constructor
 · rintro ⟨h,_,_⟩;omega
 rintro ⟨_,h,_⟩;omega
theorem aTf {a:Nat} {b:Bool}:a<(two7 p a b).2.2.1:=by
 have h:∀ a b,a<(zbr p a b).2.1:=λa b=>by unfold zbr;split<;>simp<;>omega
 unfold two7;simp only;split
 · have h1:=h a b;have h2:=h ((zbr p a b).2.1+1) (zbr p a b).2.2;simp only;omega
 exact h a b
theorem aI0 {nt:Bool} {F a:Nat} {o:List RngD}:zbk nt (F+1) o ⟨p.drop a,false⟩=if 0<o.length/\nx p a=93 then(⟨false,nt,o⟩,⟨p.drop (a+1),false⟩) else if p.length<=a\/nx p a=93 then(⟨false,nt,o⟩,⟨p.drop a,true⟩)
 else zbk nt F (o++[(PR.item ⟨p.drop a,false⟩).1]) ⟨(PR.item ⟨p.drop a,false⟩).2.l,(PR.item ⟨p.drop a,false⟩).2.b||decide ((PR.item ⟨p.drop a,false⟩).1.hi<(PR.item ⟨p.drop a,false⟩).1.lo)⟩:=by
 conv=>lhs;unfold zbk
 rw[aA (show ¬(⟨p.drop a,false⟩:PR).b=true from Bool.false_ne_true),zfa (c:=93) (by decide)];simp only[aI];by_cases h1:0<o.length/\nx p a=93
 · rw[aB h1,aB h1,zeG (c:=93) (by decide),aB h1.2]
 rw[aA h1,aA h1];by_cases h2:p.length<=a\/nx p a=93
 · rw[aB h2,aB (by rcases h2 with k | k;exact .inl (uC k);exact .inr k)]
 rw[aA h2,aA (by rintro (k | k);exact h2 (.inl (jO.1 k));exact h2 (.inr k))]
theorem nO {nt:Bool} (F:Nat) (o:List RngD) (l:List Int):(zbk nt F o ⟨l,true⟩).2=⟨l,true⟩:=by
 cases F with
 | zero=>rfl
 | succ F=>unfold zbk;rw[aB rfl]
theorem lG (F n a:Nat):zbc p F n a true=(a,true):=by
 cases F with
 | zero=>rfl
 | succ F=>unfold zbc;rw[aB (.inl rfl)]
variable (hp:∀ c∈p,0<=c)
include hp
theorem aDc {a:Nat} (h:a<p.length):0<=nx p a:=by
 unfold nx;rw[dF,dO h];exact hp _ (List.getElem_mem h)
theorem aDj {a:Nat} (ha:a<p.length):((PR.member ⟨p.drop a,false⟩).2.b=false->(zbr p a false).2.2=false/\(zbr p a false).2.1<=p.length/\PR.member ⟨p.drop a,false⟩=((zbr p a false).1,⟨p.drop (zbr p a false).2.1,false⟩))/\((PR.member ⟨p.drop a,false⟩).2.b=true->(zbr p a false).2.2=true):=by
 unfold PR.member zbr;rw[zfC ha];by_cases e:nx p a=92
 · rw[aB e,aB e];rcases c8 (a+1) p.length with k | k
   · rw[zfC k];have:=aDc hp k;refine⟨λ_=>⟨?_,k,O⟩,λh=>by cases h⟩;simp;omega
   rw[yA k,aQ7 k];exact⟨λh=>(by cases h),λ_=>rfl⟩
 rw[aA e,aA e];have:=aDc hp ha;refine⟨λ_=>⟨?_,ha,O⟩,λh=>by cases h⟩;simp;omega
theorem aYa {a:Nat} (ha:a<p.length):((PR.item ⟨p.drop a,false⟩).2.b=false->(two7 p a false).2.2.2=false/\(two7 p a false).2.2.1<=p.length/\PR.item ⟨p.drop a,false⟩=(⟨(two7 p a false).1,(two7 p a false).2.1⟩,⟨p.drop (two7 p a false).2.2.1,false⟩))/\((PR.item ⟨p.drop a,false⟩).2.b=true->(two7 p a false).2.2.2=true):=by
 obtain ⟨m1,m2⟩:=aDj hp ha;unfold PR.item two7;simp only;by_cases hb:(PR.member ⟨p.drop a,false⟩).2.b=true
 · -- a backslash at the end:nothing is left
   have hl:(PR.member ⟨p.drop a,false⟩).2.l=[]:=by
    unfold PR.member at hb ⊢;rw[zfC ha] at hb ⊢;by_cases e:nx p a=92
    · rw[aB e] at hb ⊢;rcases c8 (a+1) p.length with k | k
      · rw[zfC k] at hb;cases hb
      rw[yA k]
    rw[aA e] at hb;cases hb
   rw[aA (by rw[hl];simp)];refine⟨λh=>(by rw[hb] at h;cases h),λ_=>?_⟩;have hbad:=m2 hb;have hd:¬zdZ p (zbr p a false).2.1:=λh=>by
    have h2:=h.2.1;unfold zbr at h2 hbad;by_cases e:nx p a=92
    · rw[aB e] at h2 hbad;simp only at h2;have:=aDc hp (a:=a+1) (by omega);simp at hbad;omega
    rw[aA e] at hbad;have:=aDc hp ha;simp at hbad;omega
   rw[aA hd];exact hbad
 have hb:(PR.member ⟨p.drop a,false⟩).2.b=false:=by simpa using hb
 obtain ⟨g1,g2,g3⟩:=m1 hb;rw[g3];simp only;by_cases hd:zdZ p (zbr p a false).2.1
 · rw[aB ((aRi).2 hd),aB hd];have hk:=hd.2.1;rw[zfC (show (zbr p a false).2.1<p.length by omega),g1];simp only;obtain ⟨n1,n2⟩:=aDj hp hk;exact⟨λh=>by
    obtain ⟨q1,q2,q3⟩:=n1 h;exact⟨q1,q2,by rw[q3]⟩,n2⟩
 rw[aA (λh=>hd ((aRi).1 h)),aA hd];exact⟨λ_=>⟨g1,g2,O⟩,λh=>by cases h⟩
theorem yG (nt:Bool):∀ (F F' n:Nat) (o:List RngD) (a:Nat),o.length=n->a<=p.length->p.length<F+a->p.length<F'+a->Rl p (zbk nt F o ⟨p.drop a,false⟩).2 ((zbc p F' n a false).1+1,(zbc p F' n a false).2)
 | 0,_,_,_,_,_,h,k,_=>by omega
 | _,0,_,_,_,_,h,_,k=>by omega
 | F+1,F'+1,n,o,a,hn,ha,hF,hF'=>by
  rw[aI0];unfold zbc;by_cases h1:0<o.length/\nx p a=93
  · rw[aB h1,aB (.inr ⟨h1.2,by omega⟩)];exact Rl.yes O O (ze5 (by decide) h1.2) O
  rw[aA h1,aA (show ¬(false=true\/nx p a=93/\n≠0) from λh=>by rcases h with k | k;cases k;exact h1 ⟨by omega,k.1⟩)];by_cases h2:p.length<=a\/nx p a=93
  · rw[aB h2,aB h2.symm];exact Rl.no O O
  have hal:a<p.length:=by omega
  rw[aA h2,aA (λh=>h2 h.symm)];simp only;obtain ⟨i1,i2⟩:=aYa hp hal;have hadv:=aTf (p:=p) (a:=a) (b:=false);by_cases hb:(PR.item ⟨p.drop a,false⟩).2.b=true
  · rw[hb,i2 hb];simp only[u9];rw[nO,lG];exact Rl.no O O
  obtain ⟨g1,g2,g3⟩:=i1 (by simpa using hb);rw[g3,g1];simp only[uQ];by_cases hlt:(two7 p a false).2.1<(two7 p a false).1
  · rw[aE hlt,nO,lG];exact Rl.no O O
  rw[aD hlt];exact yG nt F F' (n+1) _ _ (by simp[hn]) g2 (by omega) (by omega)
theorem a1x {a:Nat} (ha:a<=p.length):Rl p (PR.cls ⟨p.drop a,false⟩).2 (zd0 p a false):=by
 unfold PR.cls zd0;rw[zeG (c:=94) (by decide)];by_cases h:nx p a=94
 · have hl:=ze5 (by decide) h;rw[aB h,aB h];simp only;exact yG hp true _ _ 0 [] _ O hl (by rw[cZ];omega) (by omega)
 rw[aA h,aA h];simp only;exact yG hp false _ _ 0 [] _ O ha (by rw[cZ];omega) (by omega)
def Alt (alt:PR->Pt×PR) (alt':Nat->Bool->Nat×Bool) (m:Nat):Prop:=∀ a,m<=a->a<=p.length->Rl p (alt ⟨p.drop a,false⟩).2 (alt' a false)
omit hp in
theorem a3x {c:Int} (h1:c≠124) (h2:c≠41):sgnN.any (λx=>decide (x=c))=decide (c=42\/c=43\/c=63\/c=93):=by
 unfold sgnN;simp only[jL,jX,dQ];rw[vF];simp only[d7,aI];omega
theorem aZo {alt:PR->Pt×PR} {alt':Nat->Bool->Nat×Bool} {a:Nat} (hal:Alt (p:=p) alt alt' (a+1)) (ha:a<p.length) (h1:nx p a≠124) (h2:nx p a≠41):Rl p ((PR.atom ⟨p.drop a,false⟩ alt).2) (zbX p alt' a false):=by
 unfold PR.atom zbX;simp only;rw[zfC ha];simp only;by_cases c1:nx p a=40
 · rw[aB c1,aB c1];have h:=hal (a+1) (cU _) ha;by_cases hb:(alt ⟨p.drop (a+1),false⟩).2.b=true
   · rw[aB hb,h.d hb];exact Rl.no hb O
   obtain ⟨g1,g2,g3⟩:=h.g (by simpa using hb);rw[aA hb,g1];have e:(alt ⟨p.drop (a+1),false⟩).2=⟨p.drop (alt' (a+1) false).1,false⟩:=by
    rw[<-g3];cases hx:(alt ⟨p.drop (a+1),false⟩).2 with
    | mk l b=>rw[hx] at hb;simp at hb;rw[hb]
   rw[e,zeG (c:=41) (by decide)];by_cases hc:nx p (alt' (a+1) false).1=41
   · rw[aB hc];have:=ze5 (by decide) hc;exact Rl.yes O (by simp[hc]) this O
   rw[aA hc];exact Rl.no O (by simp[hc])
 rw[aA c1,aA c1];by_cases c2:nx p a=91
 · rw[aB c2,aB c2];exact a1x hp ha
 rw[aA c2,aA c2];by_cases c3:nx p a=46
 · rw[aB c3,aB c3];exact Rl.yes rfl rfl ha rfl
 rw[aA c3,aA c3];by_cases c4:nx p a=92
 · rw[aB c4,aB c4];rcases c8 (a+1) p.length with k | k
   · rw[zfC k];exact Rl.yes rfl (by simp;omega) k rfl
   rw[yA k];exact Rl.no rfl (by simp;omega)
 rw[aA c4,aA c4,a3x h1 h2];by_cases c5:nx p a=42\/nx p a=43\/nx p a=63\/nx p a=93
 · rw[aE c5];exact Rl.no rfl rfl
 rw[aD c5];exact Rl.yes rfl rfl ha rfl
theorem aUi {alt:PR->Pt×PR} {alt':Nat->Bool->Nat×Bool} {a:Nat} (hal:Alt (p:=p) alt alt' (a+1)) (ha:a<p.length) (h1:nx p a≠124) (h2:nx p a≠41):Rl p ((PR.atom ⟨p.drop a,false⟩ alt).2.times (PR.atom ⟨p.drop a,false⟩ alt).1).2 (zcf p alt' a false):=by
 have h:=aZo hp hal ha h1 h2;have hst:∀ (s:PR) (x:Pt),s.b=true->(s.times x).2.b=true:=λs x h=>by
  have ht:∀ c,(s.take c).2.b=s.b:=λc=>by unfold PR.take;split<;>rfl
  unfold PR.times;repeat' split
  all_goals first | exact(ht _).trans h | exact h
 by_cases hb:(PR.atom ⟨p.drop a,false⟩ alt).2.b=true
 · refine Rl.no (hst _ _ hb) ?_;unfold zcf;simp only;split
   · exact h.d hb
   exact h.d hb
 obtain ⟨g1,g2,g3⟩:=h.g (by simpa using hb);have e:(PR.atom ⟨p.drop a,false⟩ alt).2=⟨p.drop (zbX p alt' a false).1,false⟩:=by
  rw[<-g3];cases hx:(PR.atom ⟨p.drop a,false⟩ alt).2 with
  | mk l b=>rw[hx] at hb;simp at hb;rw[hb]
 rw[e];unfold PR.times zcf;rw[zfa (c:=42) (by decide),zfa (c:=43) (by decide),zfa (c:=63) (by decide),zeG (c:=42) (by decide),zeG (c:=43) (by decide),zeG (c:=63) (by decide)];simp only[aI];by_cases c1:nx p (zbX p alt' a false).1=42
 · rw[aB c1,aB c1,aB (.inl c1)];exact Rl.yes rfl g1 (ze5 (by decide) c1) rfl
 by_cases c2:nx p (zbX p alt' a false).1=43
 · rw[aA c1,aB c2,aB c2,aB (.inr (.inl c2))];exact Rl.yes rfl g1 (ze5 (by decide) c2) rfl
 by_cases c3:nx p (zbX p alt' a false).1=63
 · rw[aA c1,aA c2,aB c3,aB c3,aB (.inr (.inr c3))];exact Rl.yes rfl g1 (ze5 (by decide) c3) rfl
 rw[aA c1,aA c2,aA c3,aA (by rintro (k | k | k);exact c1 k;exact c2 k;exact c3 k)];exact Rl.yes rfl g1 g2 rfl
omit hp in
theorem aT9 {u:PR} {t:Nat×Bool} (h:Rl p u t) (hb:¬u.b=true):u=⟨p.drop t.1,false⟩/\t.2=false/\t.1<=p.length:=by
 obtain ⟨g1,g2,g3⟩:=h.g (by simpa using hb);refine⟨?_,g1,g2⟩;obtain ⟨l,b⟩:=u;simp at hb g3;rw[hb,g3]
omit hp in
theorem nU {alt:PR->Pt×PR} (F:Nat) (o:List Pt) {s:PR} (h:s.b=true):(zaV alt F o s).2=s:=by
 cases F with
 | zero=>rfl
 | succ F=>unfold zaV;rw[aB (.inl h)]
omit hp in
theorem sO {alt':Nat->Bool->Nat×Bool} (F a:Nat):za0 p alt' F a true=(a,true):=by
 cases F with
 | zero=>rfl
 | succ F=>unfold za0;rw[aB (.inl rfl)]
theorem xZ {alt:PR->Pt×PR} {alt':Nat->Bool->Nat×Bool} {m:Nat} (hle:∀ s,(alt s).2.l.length<=s.l.length) (hal:Alt (p:=p) alt alt' m):∀ (F F':Nat) (o:List Pt) (a:Nat),m<=a+1->a<=p.length->p.length<F+a->p.length<F'+a->Rl p (zaV alt F o ⟨p.drop a,false⟩).2 (za0 p alt' F' a false)/\((zaV alt F o ⟨p.drop a,false⟩).2.b=false->a<=(za0 p alt' F' a false).1)
 | 0,_,_,_,_,h,k,_=>by omega
 | _,0,_,_,_,h,_,k=>by omega
 | F+1,F'+1,o,a,hm,ha,hF,hF'=>by
  unfold zaV za0;have hs:PR.stop ⟨p.drop a,false⟩=decide (p.length<=a\/nx p a=124\/nx p a=41):=by
   unfold PR.stop;rw[zfa (c:=124) (by decide),zfa (c:=41) (by decide),vF];simp only[d7,aI,jO,or_assoc]
  rw[hs];by_cases h:p.length<=a\/nx p a=124\/nx p a=41
  · rw[aB (.inr (aE h)),aB (.inr h)];exact⟨Rl.yes O O ha O,λ_=>cU _⟩
  rw[aA (by rw[aD h];simp),aA (λk=>by rcases k with k | k;cases k;exact h k)];simp only;have hla:a<p.length:=by omega
  have hag:=aUi hp (alt:=alt) (alt':=alt') (λb hb hb2=>hal b (by omega) hb2) hla (λe=>h (.inr (.inl e))) (λe=>h (.inr (.inr e)));have hlt:=mZ (s:=⟨p.drop a,false⟩) hle (λe=>by rw[jO] at e;omega);have htl:=mX (PR.atom ⟨p.drop a,false⟩ alt).2 (PR.atom ⟨p.drop a,false⟩ alt).1;by_cases hb:((PR.atom ⟨p.drop a,false⟩ alt).2.times (PR.atom ⟨p.drop a,false⟩ alt).1).2.b=true
  · rw[nU _ _ hb];have h7:=hag.d hb;rw[h7,sO];exact⟨Rl.no hb O,λe=>aH e (by rw[hb];decide)⟩
  obtain ⟨e1,e2,e3⟩:=aT9 hag hb;rw[e1] at htl ⊢;rw[e2];simp only[cZ] at htl hlt;obtain ⟨r1,r2⟩:=xZ hle hal F F' (o++[((PR.atom ⟨p.drop a,false⟩ alt).2.times (PR.atom ⟨p.drop a,false⟩ alt).1).1]) (zcf p alt' a false).1 (by omega) e3 (by omega) (by omega);exact⟨r1,λe=>by have:=r2 e;omega⟩
omit hp in
theorem lD {alt:PR->Pt×PR}:∀ (F:Nat) (o:List Pt) (s:PR),s.b=true->(zcx alt F o s).2.b=true
 | 0,_,_,h=>h
 | F+1,o,s,h=>by
  unfold zcx;split
  · have ht:(s.take 124).2.b=true:=(by unfold PR.take;split<;>exact h);simp only;refine lD F _ _ ?_;unfold PR.parts;rw[nU _ _ ht];exact ht
  exact h
omit hp in
theorem gM {alt':Nat->Bool->Nat×Bool} (F a:Nat):za6 p alt' F a true=(a,true):=by
 cases F with
 | zero=>rfl
 | succ F=>unfold za6;rw[aA (by simp)]
theorem aSo {alt:PR->Pt×PR} {alt':Nat->Bool->Nat×Bool} {m:Nat} (hle:∀ s,(alt s).2.l.length<=s.l.length) (hal:Alt (p:=p) alt alt' m):∀ (F F':Nat) (o:List Pt) (a:Nat),m<=a+1->a<=p.length->p.length<F+a->p.length<F'+a->Rl p (zcx alt F o ⟨p.drop a,false⟩).2 (za6 p alt' F' a false)
 | 0,_,_,_,_,h,k,_=>by omega
 | _,0,_,_,_,h,_,k=>by omega
 | F+1,F'+1,o,a,hm,ha,hF,hF'=>by
  unfold zcx za6;rw[zfa (c:=124) (by decide),zeG (c:=124) (by decide)];by_cases h:nx p a=124
  · have hla:=ze5 (by decide) h;rw[aB (aE h),aB h,aB ⟨h,rfl⟩];simp only;unfold PR.parts zbl;obtain ⟨r1,r2⟩:=xZ hp hle hal ((p.drop (a+1)).length+1) (p.length+1-(a+1)) [] (a+1) (by omega) hla (by rw[cZ];omega) (by omega);simp only;by_cases hb:(zaV alt ((p.drop (a+1)).length+1) [] ⟨p.drop (a+1),false⟩).2.b=true
    · rw[r1.d hb,gM];exact Rl.no (lD _ _ _ hb) O
    obtain ⟨e1,e2,e3⟩:=aT9 r1 hb;have r2:=r2 (by simpa using hb);rw[e1,e2];exact aSo hle hal F F' _ _ (by omega) e3 (by omega) (by omega)
  rw[aA (by rw[aD h];decide),aA (λk=>h k.1)];exact Rl.yes O O ha O
theorem aZs:∀ (f a:Nat),a<=p.length->p.length<f+a->Rl p (altF f ⟨p.drop a,false⟩).2 (alt7 p f a false)
 | 0,_,h,k=>by omega
 | f+1,a,ha,hf=>by
  unfold altF alt7;simp only;have hal:Alt (p:=p) (altF f) (alt7 p f) (a+1):=λb hb hb2=>aZs f b hb2 (by omega)
  unfold PR.parts zbl;obtain ⟨r1,r2⟩:=xZ hp (zfT f) hal ((p.drop a).length+1) (p.length+1-a) [] a (cU _) ha (by rw[cZ];omega) (by omega);simp only;by_cases hb:(zaV (altF f) ((p.drop a).length+1) [] ⟨p.drop a,false⟩).2.b=true
  · rw[r1.d hb,gM];exact Rl.no (lD _ _ _ hb) O
  obtain ⟨e1,e2,e3⟩:=aT9 r1 hb;have r2:=r2 (by simpa using hb);rw[e1,e2];exact aSo hp (zfT f) hal _ _ _ _ (by omega) e3 (by simp only[cZ];omega) (by omega)
theorem aZn (h40:p.length<=40):pat7 p=patR p:=by
 have h:=aZs hp (p.length+1) 0 (cX _) (by omega);rw[j7] at h;unfold pat7 patR;rw[aE h40,uF];by_cases hb:(altF (p.length+1) ⟨p,false⟩).2.b=true
 · rw[hb,h.d hb];rfl
 obtain ⟨g1,g2,g3⟩:=h.g (by simpa using hb);rw[show (altF (p.length+1) ⟨p,false⟩).2.b=false by simpa using hb,g1,g3];simp only[Bool.not_false,uF,jO]
end
end Lp
namespace Lp
open Go
section
variable {p:List Int}
theorem pW (a:Nat) (b:Bool):a<(zbr p a b).2.1/\(zbr p a b).2.1<=a+2:=by
 unfold zbr;split<;>simp only<;>omega
theorem aRk (a:Nat) (b:Bool):a<(two7 p a b).2.2.1/\(two7 p a b).2.2.1<=a+5:=by
 have h1:=pW (p:=p) a b;unfold two7;simp only;split
 · have h2:=pW (p:=p) ((zbr p a b).2.1+1) (zbr p a b).2.2;simp only;omega
 simp only;omega
theorem lC:∀ (F n a:Nat) (b:Bool),a<=(zbc p F n a b).1/\(zbc p F n a b).1<=max a (p.length+5)
 | 0,n,a,b=>⟨cU _,vA _ _⟩
 | F+1,n,a,b=>by
  unfold zbc;split
  · exact⟨cU _,vA _ _⟩
  split
  · exact⟨cU _,vA _ _⟩
  rename_i h;have h1:=aRk (p:=p) a b;have h2:=lC F (n+1) (two7 p a b).2.2.1 ((two7 p a b).2.2.2||decide ((two7 p a b).2.1<(two7 p a b).1));have h3:a<p.length:=by omega
  simp only;omega
theorem aBq (a:Nat) (b:Bool):a<(zd0 p a b).1/\(zd0 p a b).1<=max (a+1) (p.length+5)+1:=by
 unfold zd0;simp only;split
 · have h:=lC (p:=p) (p.length+1) 0 (a+1) b;omega
 have h:=lC (p:=p) (p.length+1) 0 a b;omega
def Fw (p:List Int) (alt:Nat->Bool->Nat×Bool) (k:Nat):Prop:=∀ a b,a<=(alt a b).1/\(alt a b).1<=max a (p.length+k)
variable {alt:Nat->Bool->Nat×Bool} {k:Nat} (h:Fw p alt k)
include h
theorem aLz {a:Nat} {b:Bool} (ha:a<p.length):a<(zbX p alt a b).1/\(zbX p alt a b).1<=p.length+k+6:=by
 have h1:=h (a+1) b;have h2:=aBq (p:=p) (a+1) b;unfold zbX
 repeat' split
 all_goals first | omega | (simp only;omega)
theorem aCq {a:Nat} {b:Bool} (ha:a<p.length):a<(zcf p alt a b).1/\(zcf p alt a b).1<=p.length+k+7:=by
 have h1:=aLz h ha (b:=b);unfold zcf;simp only;split<;>first | omega | (simp only;omega)
theorem nG:∀ (F a:Nat) (b:Bool),a<=(za0 p alt F a b).1/\(za0 p alt F a b).1<=max a (p.length+k+7)
 | 0,a,b=>⟨cU _,vA _ _⟩
 | F+1,a,b=>by
  unfold za0;split
  · exact⟨cU _,vA _ _⟩
  rename_i hc;have h1:=aCq h (a:=a) (b:=b) (by omega);have h2:=nG F (zcf p alt a b).1 (zcf p alt a b).2;omega
theorem lB (a:Nat) (b:Bool):a<=(zbl p alt a b).1/\(zbl p alt a b).1<=max a (p.length+k+7):=nG h _ a b
theorem lV:∀ (F a:Nat) (b:Bool),a<=(za6 p alt F a b).1/\(za6 p alt F a b).1<=max a (p.length+k+7)
 | 0,a,b=>⟨cU _,vA _ _⟩
 | F+1,a,b=>by
  unfold za6;split
  · rename_i hc;have h0:=ze5 (by decide) hc.1;have h1:=lB h (a+1) b;have h2:=lV F (zbl p alt (a+1) b).1 (zbl p alt (a+1) b).2;omega
  exact⟨cU _,vA _ _⟩
end
theorem zgd (p:List Int):∀ f:Nat,Fw p (alt7 p f) (7*f)
 | 0=>λa b=>⟨cU _,vA _ _⟩
 | f+1=>λa b=>by
  have h1:=lB (zgd p f) a b;have h2:=lV (zgd p f) (p.length+1-(zbl p (alt7 p f) a b).1) (zbl p (alt7 p f) a b).1 (zbl p (alt7 p f) a b).2;unfold alt7;omega
end Lp
