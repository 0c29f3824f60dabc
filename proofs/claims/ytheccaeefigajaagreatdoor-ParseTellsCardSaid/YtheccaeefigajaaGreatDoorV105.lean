import Derived.Test.YtheccaeefigajaaGreatDoorV52
set_option linter.unusedSimpArgs false
set_option linter.unusedVariables false
set_option maxHeartbeats 4000000
set_option maxRecDepth 100000
namespace Lp
open Go Go.RowKit Go.Proofs Tryz
theorem aZj:BdP prog #[⟨"l",67,0,false, "", "leporello/leporelloref7",0⟩,⟨"nodes",3,1,false, "", "leporello/leporelloref7",24⟩,⟨"bad",4,2,false, "", "leporello/leporelloref7",32⟩] [(0,1),(1,1),(2,1)]:=λ_=>by kernel_rfl
theorem aGh (t:ByteArray):(ofT t=0↔hasN [tEqq,tNe,tLt,tLe,tGt,tGe] t=true)/\(ofT t=1↔hasN [zdB,z6] t=true)/\(ofT t=2↔hasN [zcb,zeV,tMod] t=true):=by
 have key:∀ x∈[tEqq,tNe,tLt,tLe,tGt,tGe,zdB,z6,zcb,zeV,tMod],(ofT x=0↔hasN [tEqq,tNe,tLt,tLe,tGt,tGe] x=true)/\(ofT x=1↔hasN [zdB,z6] x=true)/\(ofT x=2↔hasN [zcb,zeV,tMod] x=true):=by decide+kernel
 by_cases h:t∈[tEqq,tNe,tLt,tLe,tGt,tGe,zdB,z6,zcb,zeV,tMod]
 · exact key t h
 simp only[dH,jA,or_false,not_or] at h;obtain ⟨h1,h2,h3,h4,h5,h6,h7,h8,h9,h10,h11⟩:=h;have n0:hasN [tEqq,tNe,tLt,tLe,tGt,tGe] t=false:=by simp[hasN,uM h1,uM h2,uM h3,uM h4,uM h5,uM h6]
 have n1:hasN [zdB,z6] t=false:=by simp[hasN,uM h7,uM h8]
 have n2:hasN [zcb,zeV,tMod] t=false:=by simp[hasN,uM h9,uM h10,uM h11]
 have n3:ofT t= -1:=by unfold ofT;rw[n0,aA (by decide),aA (by simp[h7,h8]),aA (by simp[h9,h10,h11])]
 rw[n0,n1,n2,n3];decide
theorem aNy (L:Nat) (ex:Rd->Nd×Rd) (hex:zbR 89 [dI 0] L ex) (hst:∀ s,Sk 1 s (ex s).2):zbR 89 [dI 3] (L+1) (λs=>zbC rmD ex (s.l.length+1) s):=λg s hL hw hn hT=>aP5 g s 3 (L+1) (λs=>zbC rmD ex (s.l.length+1) s) rfl (aO2 L ex hex hst) (λs=>zda hst _ s) hL hw hn hT
theorem aO6 (L:Nat) (ex:Rd->Nd×Rd) (hex:zbR 89 [dI 0] L ex) (hst:∀ s,Sk 1 s (ex s).2):zbR 89 [dI 2] (L+1) (aNb rmD ex):=λg s hL hw hn hT=>oM g s 2 [zcb,zeV,tMod] (L+1) _ (by decide) (λt=>(aGh t).2.2) (aNy L ex hex hst) (λs=>zda hst _ s) hL hw hn hT
theorem aOj (L:Nat) (ex:Rd->Nd×Rd) (hex:zbR 89 [dI 0] L ex) (hst:∀ s,Sk 1 s (ex s).2):zbR 89 [dI 1] (L+1) (sum7 rmD ex):=λg s hL hw hn hT=>oM g s 1 [zdB,z6] (L+1) _ (by decide) (λt=>(aGh t).2.1) (aO6 L ex hex hst) (λs=>oK hst s) hL hw hn hT
theorem aNr (L:Nat) (ex:Rd->Nd×Rd) (hex:zbR 89 [dI 0] L ex) (hst:∀ s,Sk 1 s (ex s).2):zbR 89 [dI 0] (L+1) (λs=>s.level7 (sum7 rmD ex) [tEqq,tNe,tLt,tLe,tGt,tGe]):=λg s hL hw hn hT=>oM g s 0 [tEqq,tNe,tLt,tLe,tGt,tGe] (L+1) _ (by decide) (λt=>(aGh t).1) (aOj L ex hex hst) (λs=>qQ hst s) hL hw hn hT
theorem aLa:∀ f:Nat,zbR 89 [dI 0] f (zfc rmD f)
 | 0=>λg s h=>aH h (by omega)
 | f+1=>aNr f (zfc rmD f) (aLa f) (λs=>zdh f s)
section
variable {s:ByteArray} {z y u s1 s2 s3 s4:Rd} {n:Nd} {o a b:Int} {c t w:ByteArray}
theorem aMm (e:(o,s1)=y.order7):Stp 0 y s1:=by have h:=(order7_sk (s:=y)).p;rw[<-e] at h;exact h
theorem aBu (e:(o,s1)=y.bound7 w):Stp 0 y s1:=by have h:=(zdP (s:=y) (w:=w)).p;rw[<-e] at h;exact h
theorem aM5 (h:¬y.is7 1 zaJ=true):(0,y)=y.order7:=by unfold Rd.order7;rw[aA h]
theorem aQl (h:y.is7 1 zaJ=true) (e1:s1=y.tl) (e2:(c,s2)=s1.any 1) (hc:c=tAsc):(1,s2)=y.order7:=by unfold Rd.order7;rw[aB h];simp only;rw[<-e1,<-e2];simp only;rw[aB hc]
theorem aO9 (h:y.is7 1 zaJ=true) (e1:s1=y.tl) (e2:(c,s2)=s1.any 1) (hc:¬c=tAsc) (hd:c=zcW):(2,s2)=y.order7:=by unfold Rd.order7;rw[aB h];simp only;rw[<-e1,<-e2];simp only;rw[aA hc,aB hd]
theorem aQu (h:y.is7 1 zaJ=true) (e1:s1=y.tl) (e2:(c,s2)=s1.any 1) (hc:¬c=tAsc) (hd:¬c=zcW):(0,(⟨s2.l,s2.n,true⟩:Rd))=y.order7:=by
 unfold Rd.order7;rw[aB h];simp only;rw[<-e1,<-e2];simp only;rw[aA hc,aA hd];unfold Rd.bd;rw[jY]
theorem aBx (h:¬y.is7 1 w=true):(-1,y)=y.bound7 w:=by unfold Rd.bound7;rw[aA h]
theorem aD4 (h:y.is7 1 w=true) (e1:s1=y.tl) (e2:(t,s2)=s1.any 2):(numV t,s2)=y.bound7 w:=by unfold Rd.bound7;rw[aB h,<-e1];exact kW e2
theorem aP1 (e0:z=⟨lexL s,0,false⟩) (e1:(n,s1)=zfc rmD ((lexL s).length+1) z) (e2:(o,s2)=s1.order7) (e3:(a,s3)=s2.bound7 zar) (e4:(b,s4)=s3.bound7 z8):
 zbN rmD (lexL s)=if s4.b=true\/0<s4.l.length\/200<s4.n\/2000<a\/2000<b then none else some ⟨n,o,a,b⟩:=by
 rw[<-aGt (by decide) (lexL s)];unfold aJf;simp only;rw[<-e0,<-e1];simp only;rw[<-e2];simp only;rw[<-e3];simp only;rw[<-e4]
end
theorem aWw (s:ByteArray) (hs:s.size<=1000000):
 CD prog 28 [] [.s s] (QdR (zag s) (zbf s) []):=by
 refine tZ func28 O O (λC=>?_);refine T.bd 0 O (λbd0=>?_);have sz0:s.size<=9223372036854775807:=bd0;refine g' 2 O ?_;refine tA O (λg1=>?_);refine g' 6 O (tX [] O O acs (aPm s) ?_);rintro _ _ ⟨v2,rfl,rfl⟩;refine g' 14 O ?_;refine tD O (λhc3=>?_) (λhc3=>?_)
 · obtain ⟨hre,hrq⟩:=aDb (s:=s) hc3;refine g' 2 O (tP O (zj [] [] (zv:=cE) O O (.nil) (bR) eC zgH ⟨O,O,O,O,O,O,O,O,O,O,trivial⟩ O) (gQ 7 [1] O O ?_));exact tRs O results28 (.cons (zd (zn (X:=cN) (d:=cN) (i:=1) O O eF eB O O) (Cv.agg (.cons cS (.cons cS (gc (gc (.cons Cv.nil (.cons Cv.nil (.cons Cv.nil (gc (gc (gc .nil)))))))))))) (.cons (zd (zc O) (Cv.eq (aG dI hre))) .nil)) O mO ⟨ByteArray.empty,ByteArray.empty,0,0,[],[],[],0,0,0,hrq,O,O⟩
 have hE:lexE s=0:=by simpa using hc3
 have hsz:=(ze8 hE).1;have hll:=oZ s;refine g' 3 O (m7 (Mv.freeze (K':=[(0,.s s),(2,dP g1 0),(3,dI 0),(4,.sh 3 ((lexL s).map TokD.d)),(5,dI (lexE s)),(8,.tup [.sh 3 ((lexL s).map TokD.d),dI (lexE s)]),(9,.s s),(10,.tup [.sh 3 ((lexL s).map TokD.d),dI (lexE s)]),(11,.sh 3 ((lexL s).map TokD.d)),(12,dI (lexE s)),(13,dI (lexE s)),(14,dB (decide (lexE s≠(0:Int))))]) [.sl v2 3 135 ((lexL s).map TokD.d)] (H1:=[.bx g1 29 cN]) (H1':=[.bx g1 29 cN]) ⟨⟨_,O,mJ⟩,⟨_,O,mJ⟩,⟨_,O,mJ⟩,⟨_,O,mK (j:=0) O O⟩,⟨_,O,mJ⟩,⟨_,O,ArgC.tup (.cons (mK (j:=0) O O) (ga .nil))⟩,⟨_,O,mJ⟩,⟨_,O,ArgC.tup (.cons (mK (j:=0) O O) (ga .nil))⟩,⟨_,O,mK (j:=0) O O⟩,⟨_,O,mJ⟩,⟨_,O,mJ⟩,⟨_,O,mJ⟩,trivial⟩ (.same .nil)) (g' 2 O ?_));refine tP O (zj [0] [.tmp 17] (zv:=(.agg #[(.slice none 0 0),(.int .i64 0),(.bool false)])) O O (.cons CellD.sh .nil) (runUnderlying106) zeroValue106 aZj ⟨O,O,O,trivial⟩ O) ?_;refine tA O (λg4=>?_);refine g' 4 O ?_;obtain ⟨s5,e5⟩:∃ x:Rd,x=⟨lexL s,0,false⟩:=⟨_,rfl⟩;have hl5:s5.l=lexL s:=by rw[e5]
 have hn5:s5.n=0:=by rw[e5]
 have hT5:TOk s5.l:=by rw[hl5];exact ze7 s
 have hk5:s5.l.length=(lexL s).length:=by rw[hl5]
 refine m9 [RB7 g4 s5,.bx g1 29 cN] (by rw[e5]<;>rfl) (g' 1 O (tP O (zj [2,3] [.const (.int .i64 (-1)),.const (.int .i64 (-1))] (zv:=cE) O O (.cons (CellD.v O) (.cons (CellD.v O) .nil)) (bR) eC zgH ⟨O,O,O,O,O,O,O,O,O,O,trivial⟩ O) ?_));refine tA O (λg6=>?_);refine gQ 6 [0] O O (tX [1] O O acs (aLa ((lexL s).length+1) g4 s5 (by omega) (by omega) (by omega) hT5) ?_);rintro _ _ ⟨no7,nt7,nn7,nm7,nl7,ns7,nk7,s7,e7,rfl,rfl⟩;obtain ⟨ka7,kb7,kc7,hT7⟩:=(nd_e e7 ((zdh _ s5).p)).out hT5;refine gQ 5 [1] O O (kA 1 O (m8 (mC (h':=.bx g6 29 (.agg [.s no7,.s nt7,dI nn7,dI nm7,.sh 1 (nl7.map D.s),.sh 3 (ns7.map MatD.d),.sh 7 (Nd.ds nk7),dI 0,dI (-1),dI (-1)])) O (mD (Cv.agg (gc (gc (gc (gc (gc (gc (gc (gc (gc (gc .nil))))))))))))) ?_));refine tJ (λ(jg:Int×Rd)=>[(2,dP g1 0),(3,dI 0),(6,dP g4 0),(7,dP g6 0)]) (λ(jg:Int×Rd)=>[.bx g6 29 (.agg [.s no7,.s nt7,dI nn7,dI nm7,.sh 1 (nl7.map D.s),.sh 3 (ns7.map MatD.d),.sh 7 (Nd.ds nk7),dI jg.1,dI (-1),dI (-1)]),.bx g4 106 (.agg [.sh 3 (jg.2.l.map TokD.d),dI jg.2.n,dB jg.2.b]),.bx g1 29 cN]) (λ(jg:Int×Rd)=>((jg.1,jg.2)=s7.order7)) (λ_ hQ8=>?_) ?_
 · refine g' 3 O (tX [1] O O (ga (ga (.cons (ArgC.cv cS) .nil))) (zdD g4 s7 1 (⟨#[111,114,100,101,114]⟩:ByteArray) (by omega) (by omega) hT7 (by decide)) ?_);rintro _ _ ⟨rfl,rfl⟩;refine g' 2 O ?_;refine tC O (λhc10=>?_) (λhc10=>?_)
   · have hml:=zfp hc10 (by decide);refine gQ 7 [0] O O (tP O ((zbG (a:=1) (b:=s7.l.length) O O O (by first | rfl | (show _=_;(try simp only[lm]);omega) | exact cV _) (by first | rfl | (show _=_;(try simp only[lm]);omega) | exact cV _) aO aP (by omega) (by simp only[lm];omega)).cv (Cv.eq (by rw[<-jK,<-jQ]))) (gQ 6 [0] O O ?_));obtain ⟨s11,e11⟩:∃ x:Rd,x=⟨((s7.l.take s7.l.length).drop 1),s7.n,s7.b⟩:=⟨_,rfl⟩;refine m9 [RB7 g4 s11,.bx g6 29 (.agg [.s no7,.s nt7,dI nn7,dI nm7,.sh 1 (nl7.map D.s),.sh 3 (ns7.map MatD.d),.sh 7 (Nd.ds nk7),dI 0,dI (-1),dI (-1)]),.bx g1 29 cN] (by rw[e11]<;>rfl) ?_;obtain ⟨hq11,ka11,kb11,kc11,hT11⟩:=tl_e e11 hml hT7;refine g' 2 O (tX [0] O O acs (zcV g4 s11 1 (by omega) (by omega) hT11 (by decide)) ?_);rintro _ _ ⟨t12,s12,e12,rfl,rfl⟩;obtain ⟨ka12,kb12,kc12,hT12⟩:=(zc6 e12).out hT11;have kz12:=zcR e12 hT11;refine g' 9 O ?_;refine tD O (λhc13=>?_) (λhc13=>?_)
     · refine gQ 5 [1] O O (kA 2 O (kA 1 O (kA 2 O ?_)));exact tqe (hQ8 (1,s12) (aQl hc10 hq11 e12 hc13)) O
     refine g' 6 O ?_;refine tD O (λhc14=>?_) (λhc14=>?_)
     · refine gQ 5 [1] O O (kA 2 O (kA 1 O (kA 2 O ?_)));exact tqe (hQ8 (2,s12) (aO9 hc10 hq11 e12 hc13 hc14)) O
     refine gQ 7 [0] O O (kA 2 O (kA 1 O (kA 2 O ?_)));exact tqe (hQ8 (0,(⟨s12.l,s12.n,true⟩:Rd)) (aQu hc10 hq11 e12 hc13 hc14)) O
   refine g' 1 O (kA 2 O (kA 1 O (kA 2 O ?_)));exact tqe (hQ8 (0,s7) (aM5 (by simpa using hc10))) O
 rintro ⟨o,y⟩ hor
 replace hor:(o,y)=s7.order7:=hor
 refine T.kk [(2,dP g1 0),(3,dI 0),(6,dP g4 0),(7,dP g6 0)] O (m9 [.bx g6 29 (.agg [.s no7,.s nt7,dI nn7,dI nm7,.sh 1 (nl7.map D.s),.sh 3 (ns7.map MatD.d),.sh 7 (Nd.ds nk7),dI o,dI (-1),dI (-1)]),RB7 g4 y,.bx g1 29 cN] (by rfl) (g' 2 O ?_));obtain ⟨kx1,ky1,kz1,hTj1⟩:=(aMm hor).out hT7;refine tJ (λ(jg:Int×Rd)=>[(2,dP g1 0),(3,dI 0),(6,dP g4 0),(7,dP g6 0)]) (λ(jg:Int×Rd)=>[.bx g6 29 (.agg [.s no7,.s nt7,dI nn7,dI nm7,.sh 1 (nl7.map D.s),.sh 3 (ns7.map MatD.d),.sh 7 (Nd.ds nk7),dI o,dI jg.1,dI (-1)]),.bx g4 106 (.agg [.sh 3 (jg.2.l.map TokD.d),dI jg.2.n,dB jg.2.b]),.bx g1 29 cN]) (λ(jg:Int×Rd)=>((jg.1,jg.2)=y.bound7 zar)) (λ_ hQ15=>?_) ?_
 · refine g' 3 O (tX [1] O O (ga (ga (.cons (ArgC.cv cS) .nil))) (zdD g4 y 1 (⟨#[108,105,109,105,116]⟩:ByteArray) (by omega) (by omega) hTj1 (by decide)) ?_);rintro _ _ ⟨rfl,rfl⟩;refine g' 2 O ?_;refine tC O (λhc17=>?_) (λhc17=>?_)
   · have hml:=zfp hc17 (by decide);refine gQ 7 [0] O O (tP O ((zbG (a:=1) (b:=y.l.length) O O O (by first | rfl | (show _=_;(try simp only[lm]);omega) | exact cV _) (by first | rfl | (show _=_;(try simp only[lm]);omega) | exact cV _) aO aP (by omega) (by simp only[lm];omega)).cv (Cv.eq (by rw[<-jK,<-jQ]))) (gQ 5 [0] O O ?_));obtain ⟨s18,e18⟩:∃ x:Rd,x=⟨((y.l.take y.l.length).drop 1),y.n,y.b⟩:=⟨_,rfl⟩;refine m9 [RB7 g4 s18,.bx g6 29 (.agg [.s no7,.s nt7,dI nn7,dI nm7,.sh 1 (nl7.map D.s),.sh 3 (ns7.map MatD.d),.sh 7 (Nd.ds nk7),dI o,dI (-1),dI (-1)]),.bx g1 29 cN] (by rw[e18]<;>rfl) ?_;obtain ⟨hq18,ka18,kb18,kc18,hT18⟩:=tl_e e18 hml hTj1;refine g' 2 O (tX [0] O O acs (zcV g4 s18 2 (by omega) (by omega) hT18 (by decide)) ?_);rintro _ _ ⟨t19,s19,e19,rfl,rfl⟩;obtain ⟨ka19,kb19,kc19,hT19⟩:=(zc6 e19).out hT18;have kz19:=zcR e19 hT18;have hvd:DigO t19:=zft e19 (by decide) hT18;refine tW O acs (zeU t19 (by omega) hvd) (gQ 3 [1] O O (kA 2 O (kA 1 O (kA 2 O ?_))));exact tqe (hQ15 (numV t19,s19) (aD4 hc17 hq18 e19)) O
   refine g' 1 O (kA 2 O (kA 1 O (kA 2 O ?_)));exact tqe (hQ15 ((-1),y) (aBx (by simpa using hc17))) O
 rintro ⟨a,v⟩ hb1
 replace hb1:(a,v)=y.bound7 zar:=hb1
 refine T.kk [(2,dP g1 0),(3,dI 0),(6,dP g4 0),(7,dP g6 0)] O (m9 [.bx g6 29 (.agg [.s no7,.s nt7,dI nn7,dI nm7,.sh 1 (nl7.map D.s),.sh 3 (ns7.map MatD.d),.sh 7 (Nd.ds nk7),dI o,dI a,dI (-1)]),RB7 g4 v,.bx g1 29 cN] (by rfl) (g' 2 O ?_));obtain ⟨kx2,ky2,kz2,hTj2⟩:=(aBu hb1).out hTj1;refine tJ (λ(jg:Int×Rd)=>[(2,dP g1 0),(3,dI 0),(6,dP g4 0),(7,dP g6 0)]) (λ(jg:Int×Rd)=>[.bx g6 29 (.agg [.s no7,.s nt7,dI nn7,dI nm7,.sh 1 (nl7.map D.s),.sh 3 (ns7.map MatD.d),.sh 7 (Nd.ds nk7),dI o,dI a,dI jg.1]),.bx g4 106 (.agg [.sh 3 (jg.2.l.map TokD.d),dI jg.2.n,dB jg.2.b]),.bx g1 29 cN]) (λ(jg:Int×Rd)=>((jg.1,jg.2)=v.bound7 z8)) (λ_ hQ20=>?_) ?_
 · refine g' 3 O (tX [1] O O (ga (ga (.cons (ArgC.cv cS) .nil))) (zdD g4 v 1 (⟨#[111,102,102,115,101,116]⟩:ByteArray) (by omega) (by omega) hTj2 (by decide)) ?_);rintro _ _ ⟨rfl,rfl⟩;refine g' 2 O ?_;refine tC O (λhc22=>?_) (λhc22=>?_)
   · have hml:=zfp hc22 (by decide);refine gQ 7 [0] O O (tP O ((zbG (a:=1) (b:=v.l.length) O O O (by first | rfl | (show _=_;(try simp only[lm]);omega) | exact cV _) (by first | rfl | (show _=_;(try simp only[lm]);omega) | exact cV _) aO aP (by omega) (by simp only[lm];omega)).cv (Cv.eq (by rw[<-jK,<-jQ]))) (gQ 5 [0] O O ?_));obtain ⟨s23,e23⟩:∃ x:Rd,x=⟨((v.l.take v.l.length).drop 1),v.n,v.b⟩:=⟨_,rfl⟩;refine m9 [RB7 g4 s23,.bx g6 29 (.agg [.s no7,.s nt7,dI nn7,dI nm7,.sh 1 (nl7.map D.s),.sh 3 (ns7.map MatD.d),.sh 7 (Nd.ds nk7),dI o,dI a,dI (-1)]),.bx g1 29 cN] (by rw[e23]<;>rfl) ?_;obtain ⟨hq23,ka23,kb23,kc23,hT23⟩:=tl_e e23 hml hTj2;refine g' 2 O (tX [0] O O acs (zcV g4 s23 2 (by omega) (by omega) hT23 (by decide)) ?_);rintro _ _ ⟨t24,s24,e24,rfl,rfl⟩;obtain ⟨ka24,kb24,kc24,hT24⟩:=(zc6 e24).out hT23;have kz24:=zcR e24 hT23;have hvd:DigO t24:=zft e24 (by decide) hT23;refine tW O acs (zeU t24 (by omega) hvd) (gQ 3 [1] O O (kA 2 O (kA 1 O (kA 2 O ?_))));exact tqe (hQ20 (numV t24,s24) (aD4 hc22 hq23 e24)) O
   refine g' 1 O (kA 2 O (kA 1 O (kA 2 O ?_)));exact tqe (hQ20 ((-1),v) (aBx (by simpa using hc22))) O
 rintro ⟨b,w⟩ hb2
 replace hb2:(b,w)=v.bound7 z8:=hb2
 refine T.kk [(2,dP g1 0),(3,dI 0),(6,dP g4 0),(7,dP g6 0)] O (m9 [.bx g6 29 (.agg [.s no7,.s nt7,dI nn7,dI nm7,.sh 1 (nl7.map D.s),.sh 3 (ns7.map MatD.d),.sh 7 (Nd.ds nk7),dI o,dI a,dI b]),RB7 g4 w,.bx g1 29 cN] (by rfl) (g' 3 O ?_));obtain ⟨kx3,ky3,kz3,hTj3⟩:=(aBu hb2).out hTj2;have hrd:=aP1 e5 e7 hor hb1 hb2;refine gQ 6 [1] O O ?_;refine tOr 4 6 (c:=decide ((0:Int)<((w.l.length:Nat):Int))) O O O O O O (λhb25 nx26=>?_) ?_
 · refine gQ 4 [1] O O (tG O (zaa (n:=w.l.length) O aO (by simp only[lm,lc,ln])) (g' 1 O ?_));exact nx26 _ O O (kx 6 O O)
 refine g' 1 O ?_;refine tOr 12 5 (c:=decide ((200:Int)<w.n)) O O O O O O (λhb27 nx28=>?_) ?_
 · obtain ⟨hf29,hf30⟩:=orF hb27;have hf31:=aC hf30;refine gQ 5 [1] O O ?_;exact nx28 _ O O (kx 5 O O)
 refine g' 1 O ?_;refine tOr 19 3 (c:=decide ((2000:Int)<a)) O O O O O O (λhb32 nx33=>?_) ?_
 · obtain ⟨hf34,hf35⟩:=orF hb32;obtain ⟨hf36,hf37⟩:=orF hf34;have hf38:=aC hf37;have hf39:=aC hf35;refine gQ 3 [0] O O ?_;exact nx33 _ O O (kx 3 O O)
 refine g' 1 O ?_;refine tOr 24 3 (c:=decide ((2000:Int)<b)) O O O O O O (λhb40 nx41=>?_) ?_
 · obtain ⟨hf42,hf43⟩:=orF hb40;obtain ⟨hf44,hf45⟩:=orF hf42;obtain ⟨hf46,hf47⟩:=orF hf44;have hf48:=aC hf47;have hf49:=aC hf45;have hf50:=aC hf43;refine gQ 3 [0] O O ?_;exact nx41 _ O O (kx 3 O O)
 refine g' 2 O ?_;refine tC O (λhc51=>?_) (λhc51=>?_)
 · simp only[bX,bJ] at hc51;rw[aB (by have h:=hc51;rcases h with (((h | h) | h) | h) | h;exact .inl h;exact .inr (.inl (by omega));exact .inr (.inr (.inl h));exact .inr (.inr (.inr (.inl h)));exact .inr (.inr (.inr (.inr h))))] at hrd;obtain ⟨hre,hrq⟩:=aGk hE hrd;refine g' 2 O (tP O (zj [] [] (zv:=cE) O O (.nil) (bR) eC zgH ⟨O,O,O,O,O,O,O,O,O,O,trivial⟩ O) (gQ 6 [2] O O ?_));exact tRs O results28 (.cons (zd (zn (X:=cN) (d:=cN) (i:=2) O O eF eB O O) (Cv.agg (.cons cS (.cons cS (gc (gc (.cons Cv.nil (.cons Cv.nil (.cons Cv.nil (gc (gc (gc .nil)))))))))))) (.cons (zd (zc O) (Cv.eq (aG dI hre))) .nil)) O mO ⟨ByteArray.empty,ByteArray.empty,0,0,[],[],[],0,0,0,hrq,O,O⟩
 simp only[bX,bJ] at hc51;rw[aA (by have h:=hc51;rintro (k | k);(rw[h.1.1.1.1] at k;cases k);omega)] at hrd;obtain ⟨hre,hrq⟩:=aBw hE hrd;refine gQ 10 [0,2] O O ?_;exact tRs O results28 (.cons (zn (i:=2) O O eF eB O O) (.cons (zd (zc O) (Cv.eq (aG dI hre))) .nil)) O mO ⟨no7,nt7,nn7,nm7,nl7,ns7,nk7,o,a,b,hrq,O,O⟩
end Lp
namespace Lp
open Go
abbrev d1:ByteArray:=⟨#[49]⟩
theorem aS2 {l:List Nd} {x:Nd} (h:x∈l):x.cnt<=Nd.cntL l:=by
 induction l with
 | nil=>cases h
 | cons y l ih=>
  simp only[Nd.cntL];rcases dH.1 h with e | e
  · rw[e];omega
  have:=ih e;omega
theorem Nd.ind {p:Nd->Prop} (h:∀ op text n mode names ms kids,(∀ x∈kids,p x)->p (.mk op text n mode names ms kids)):∀ q,p q:=by
 have key:∀ (n:Nat) (q:Nd),q.cnt=n->p q:=by
  intro n
  induction n using Nat.strongRecOn with
  | _ n ih=>
   intro q hq;obtain ⟨op,text,n',mode,names,ms,kids⟩:=q;refine h op text n' mode names ms kids (λx hx=>ih x.cnt ?_ x O);have:=aS2 hx;simp only[Nd.cnt] at hq;omega
 exact λq=>key q.cnt q O
inductive Ask where
 | leaf (k:Int)
 | whole (a b:Int)
 | plain
 | pair (m:Int)
 | none
end Lp
namespace Lp
open Go Go.RowKit Go.Proofs Tryz
theorem a0a:BdP prog #[⟨"n",3,0,false, "", "leporello/parse",0⟩] [(0,1)]:=λ_=>by kernel_rfl
theorem aYp:BdP prog #[⟨"kid",27,0,false, "", "leporello/parse",0⟩] [(0,7)]:=λ_=>by kernel_rfl
theorem aXm:BdP prog #[⟨"n",27,0,false, "", "leporello/parse",0⟩] [(0,7)]:=λ_=>by kernel_rfl
theorem aZf:BdP prog #[⟨"n",27,0,false, "", "leporello/parse",0⟩] [(0,7)]:=λ_=>by kernel_rfl
theorem aXk:BdP prog #[⟨"n",27,0,false, "", "leporello/parse",0⟩] [(0,7)]:=λ_=>by kernel_rfl
theorem aX2:BdP prog #[⟨"n",27,0,false, "", "leporello/parse",0⟩] [(0,7)]:=λ_=>by kernel_rfl
abbrev PrT (t:ByteArray):D->List Hp->Prop:=λr H'=>r=.s t/\H'=[HPow]
theorem aDv (text:ByteArray) (n:Nat) (mode:Int) (names:List ByteArray) (ms:List MatD) :
 CD prog 98 [] [.agg [.s ⟨#[110,117,109]⟩,.s text,dN n,dI mode,.sh 1 (names.map D.s),.sh 3 (ms.map MatD.d),.sh 7 []]] (isR (.ifc 113 (.agg [dN n]))):=by
 refine tZ func98 O O (λC=>?_);refine T.bd 0 O (λbd0=>?_);refine g' 2 O ?_;refine tA O (λg1=>?_);refine gQ 7 [0] O O (tP O (zaa (n:=0) O aM O) (gQ 9 [0] O O (tP O (zao O O (aE (by decide))) (gQ 8 [0] O O (tP O (zj [0] [.tmp 12] (zv:=cK) O O (.cons (CellD.v O) .nil) (runUnderlying113) zeroValue113 a0a ⟨O,trivial⟩ O) (g' 7 O ?_))))));exact tR O mO ⟨O,O⟩
theorem aB5 (text:ByteArray) (n:Nat) (mode:Int) (names:List ByteArray) (ms:List MatD) (xa xb:ByteArray) (xc xd:Int) (xe:List ByteArray) (xf:List MatD) (xg:List Nd) :
 CD prog 98 [] [.agg [.s ⟨#[110,101,103]⟩,.s text,dN n,dI mode,.sh 1 (names.map D.s),.sh 3 (ms.map MatD.d),.sh 7 [n7 xa xb xc xd xe xf xg]]] (isR (.ifc 116 (n7 xa xb xc xd xe xf xg))):=by
 refine tZ func98 O O (λC=>?_);refine T.bd 0 O (λbd0=>?_);refine g' 2 O ?_;refine tA O (λg1=>?_);refine gQ 7 [0] O O (tP O (zaa (n:=1) O aM O) (gQ 9 [0] O O (tP O (zao O O (aD (by decide))) (gQ 8 [0] O O (tP O (zao O O (aE (by decide))) (g' 2 O (tG O (zaA O O (aE (by decide))) (gQ 9 [0] O O (tP O (zh (k:=0) O O aM aN (by first | rfl | omega) O) (g' 1 O (tP O (zj [0] [.tmp 26] (zv:=n9) O O (.cons CellD.agg .nil) (runUnderlying116) zeroValue116 aYp ⟨O,O,O,O,O,O,O,trivial⟩ O) (g' 7 O ?_))))))))))));exact tR O mO ⟨O,O⟩
theorem pL (text:ByteArray) (n:Nat) (mode:Int) (names:List ByteArray) (ms:List MatD) (xa xb:ByteArray) (xc xd:Int) (xe:List ByteArray) (xf:List MatD) (xg:List Nd) (ya yb:ByteArray) (yc yd:Int) (ye:List ByteArray) (yf:List MatD) (yg:List Nd) :
 CD prog 98 [] [.agg [.s ⟨#[98,105,110]⟩,.s text,dN n,dI mode,.sh 1 (names.map D.s),.sh 3 (ms.map MatD.d),.sh 7 [n7 xa xb xc xd xe xf xg,n7 ya yb yc yd ye yf yg]]] (isR (.ifc 119 (.agg [.s ⟨#[98,105,110]⟩,.s text,dN n,dI mode,.sh 1 (names.map D.s),.sh 3 (ms.map MatD.d),.sh 7 [n7 xa xb xc xd xe xf xg,n7 ya yb yc yd ye yf yg]]))):=by
 refine tZ func98 O O (λC=>?_);refine T.bd 0 O (λbd0=>?_);refine g' 2 O ?_;refine tA O (λg1=>?_);refine gQ 7 [0] O O (tP O (zaa (n:=2) O aM O) (gQ 9 [0] O O (tP O (zao O O (aD (by decide))) (gQ 8 [0] O O (tP O (zao O O (aD (by decide))) (gQ 12 [0] O O (tP O (zao O O (aE (by decide))) (g' 2 O (tG O (zaA O O (aE (by decide))) (gQ 8 [0] O O (tP O (zj [0] [.tmp 37] (zv:=n9) O O (.cons CellD.agg .nil) (runUnderlying119) zeroValue119 aXm ⟨O,O,O,O,O,O,O,trivial⟩ O) (g' 7 O ?_))))))))))));exact tR O mO ⟨O,O⟩
theorem aBt (text:ByteArray) (n:Nat) (mode:Int) (names:List ByteArray) (ms:List MatD) (xa xb:ByteArray) (xc xd:Int) (xe:List ByteArray) (xf:List MatD) (xg:List Nd) :
 CD prog 98 [] [.agg [.s ⟨#[97,103,103]⟩,.s text,dN n,dI mode,.sh 1 (names.map D.s),.sh 3 (ms.map MatD.d),.sh 7 [n7 xa xb xc xd xe xf xg]]] (isR (.ifc 122 (.agg [.s ⟨#[97,103,103]⟩,.s text,dN n,dI mode,.sh 1 (names.map D.s),.sh 3 (ms.map MatD.d),.sh 7 [n7 xa xb xc xd xe xf xg]]))):=by
 refine tZ func98 O O (λC=>?_);refine T.bd 0 O (λbd0=>?_);refine g' 2 O ?_;refine tA O (λg1=>?_);refine gQ 7 [0] O O (tP O (zaa (n:=1) O aM O) (gQ 9 [0] O O (tP O (zao O O (aD (by decide))) (gQ 8 [0] O O (tP O (zao O O (aD (by decide))) (gQ 12 [0] O O (tP O (zao O O (aD (by decide))) (gQ 12 [0] O O (tP O (zao O O (aE (by decide))) (g' 2 O (tG O (zaA O O (aE (by decide))) (gQ 8 [0] O O (tP O (zj [0] [.tmp 48] (zv:=n9) O O (.cons CellD.agg .nil) (runUnderlying122) zeroValue122 aZf ⟨O,O,O,O,O,O,O,trivial⟩ O) (g' 7 O ?_))))))))))))));exact tR O mO ⟨O,O⟩
theorem aJg (text:ByteArray) (n:Nat) (mode:Int) (names:List ByteArray) (ms:List MatD) (xa xb:ByteArray) (xc xd:Int) (xe:List ByteArray) (xf:List MatD) (xg:List Nd) :
 CD prog 98 [] [.agg [.s ⟨#[102,110]⟩,.s text,dN n,dI mode,.sh 1 (names.map D.s),.sh 3 (ms.map MatD.d),.sh 7 [n7 xa xb xc xd xe xf xg]]] (isR (.ifc 124 (.agg [.s ⟨#[102,110]⟩,.s text,dN n,dI mode,.sh 1 (names.map D.s),.sh 3 (ms.map MatD.d),.sh 7 [n7 xa xb xc xd xe xf xg]]))):=by
 refine tZ func98 O O (λC=>?_);refine T.bd 0 O (λbd0=>?_);refine g' 2 O ?_;refine tA O (λg1=>?_);refine gQ 7 [0] O O (tP O (zaa (n:=1) O aM O) (gQ 9 [0] O O (tP O (zao O O (aD (by decide))) (gQ 8 [0] O O (tP O (zao O O (aD (by decide))) (gQ 12 [0] O O (tP O (zao O O (aD (by decide))) (gQ 12 [0] O O (tP O (zao O O (aD (by decide))) (gQ 12 [0] O O (tP O (zao O O (aE (by decide))) (g' 2 O (tG O (zaA O O (aE (by decide))) (gQ 8 [0] O O (tP O (zj [0] [.tmp 59] (zv:=n9) O O (.cons CellD.agg .nil) (runUnderlying124) zeroValue124 aXk ⟨O,O,O,O,O,O,O,trivial⟩ O) (g' 7 O ?_))))))))))))))));exact tR O mO ⟨O,O⟩
theorem aBh (text:ByteArray) (n:Nat) (mode:Int) (names:List ByteArray) (ms:List MatD) :
 CD prog 98 [] [.agg [.s ⟨#[115,101,108]⟩,.s text,dN n,dI mode,.sh 1 (names.map D.s),.sh 3 (ms.map MatD.d),.sh 7 []]] (isR (.ifc 126 (.agg [.s ⟨#[115,101,108]⟩,.s text,dN n,dI mode,.sh 1 (names.map D.s),.sh 3 (ms.map MatD.d),.sh 7 []]))):=by
 refine tZ func98 O O (λC=>?_);refine T.bd 0 O (λbd0=>?_);refine g' 2 O ?_;refine tA O (λg1=>?_);refine gQ 7 [0] O O (tP O (zaa (n:=0) O aM O) (gQ 9 [0] O O (tP O (zao O O (aD (by decide))) (gQ 8 [0] O O (tP O (zao O O (aD (by decide))) (gQ 12 [0] O O (tP O (zao O O (aD (by decide))) (gQ 12 [0] O O (tP O (zao O O (aD (by decide))) (gQ 12 [0] O O (tP O (zao O O (aD (by decide))) (gQ 12 [0] O O (tP O (zao O O (aE (by decide))) (gQ 7 [0] O O (tP O (zj [0] [.tmp 66] (zv:=n9) O O (.cons CellD.agg .nil) (runUnderlying126) zeroValue126 aX2 ⟨O,O,O,O,O,O,O,trivial⟩ O) (g' 7 O ?_))))))))))))))));exact tR O mO ⟨O,O⟩
theorem fN (text:ByteArray) (n:Nat) (mode:Int) (names:List ByteArray) (ms:List MatD) (t:ByteArray) (ht:t.size<=100000000) (hn:CD prog 34 [HPow] [.agg [.s ⟨#[110,117,109]⟩,.s text,dN n,dI mode,.sh 1 (names.map D.s),.sh 3 (ms.map MatD.d),.sh 7 []]] (PrT t)):
 CD prog 99 [HPow] [.agg [.s ⟨#[110,117,109]⟩,.s text,dN n,dI mode,.sh 1 (names.map D.s),.sh 3 (ms.map MatD.d),.sh 7 []]] (PrT (t)):=by
 refine tZ func99 O O (λC=>?_);refine T.bd 0 O (λbd0=>?_);refine g' 2 O ?_;refine tA O (λg1=>?_);refine gQ 6 [0] O O (tW O acs (aDv text n mode names ms) (g' 6 O (tP O ((zR (zv:=n9) O (λ_ _=>by kernel_rfl)).cv (Cv.tup (.cons (w8 (by decide)) (gc .nil)))) (g' 3 O ?_))));refine tA O (λg2=>?_);refine gQ 8 [0] O O (tP O ((zR (zv:=n9) O (λ_ _=>by kernel_rfl)).cv (Cv.tup (.cons (w8 (by decide)) (gc .nil)))) (g' 3 O ?_));refine tA O (λg3=>?_);refine gQ 18 [0,2] O O (tX [3] O O acs (hn) ?_);rintro _ _ ⟨rfl,rfl⟩;refine g' 4 O ?_;exact tR O (mP 1 O) ⟨O,O⟩
theorem xC (text:ByteArray) (n:Nat) (mode:Int) (names:List ByteArray) (ms:List MatD) (xa xb:ByteArray) (xc xd:Int) (xe:List ByteArray) (xf:List MatD) (xg:List Nd) (t:ByteArray) (ht:t.size<=100000000) (hn:CD prog 34 [HPow] [.agg [.s ⟨#[110,101,103]⟩,.s text,dN n,dI mode,.sh 1 (names.map D.s),.sh 3 (ms.map MatD.d),.sh 7 [n7 xa xb xc xd xe xf xg]]] (PrT t)):
 CD prog 99 [HPow] [.agg [.s ⟨#[110,101,103]⟩,.s text,dN n,dI mode,.sh 1 (names.map D.s),.sh 3 (ms.map MatD.d),.sh 7 [n7 xa xb xc xd xe xf xg]]] (PrT (zl++t++zx)):=by
 refine tZ func99 O O (λC=>?_);refine T.bd 0 O (λbd0=>?_);refine g' 2 O ?_;refine tA O (λg1=>?_);refine gQ 6 [0] O O (tW O acs (aB5 text n mode names ms xa xb xc xd xe xf xg) (g' 6 O (tP O (zbe O (λ_ _=>by kernel_rfl)) (g' 3 O ?_))));refine tA O (λg2=>?_);refine gQ 8 [0] O O (tP O ((zR (zv:=n9) O (λ_ _=>by kernel_rfl)).cv (Cv.tup (.cons (w8 (by decide)) (gc .nil)))) (g' 3 O ?_));refine tA O (λg3=>?_);refine gQ 16 [0,2] O O (tX [3] O O acs (hn) ?_);rintro _ _ ⟨rfl,rfl⟩;refine tP O (cA O O (by (try simp only[cQ]);have kz:=catz;omega)) (tP O (cA O O (by (try simp only[cQ]);have kz:=catz;omega)) (g' 5 O ?_));exact tRs O results99 (.cons (zd (zc O) (Cv.eq (aG D.s (show (((⟨#[40]⟩:ByteArray)++t)++(⟨#[41]⟩:ByteArray))=zl++t++zx from(by rfl))))) .nil) O (mP 1 O) ⟨O,O⟩
theorem rT (text:ByteArray) (n:Nat) (mode:Int) (names:List ByteArray) (ms:List MatD) (xa xb:ByteArray) (xc xd:Int) (xe:List ByteArray) (xf:List MatD) (xg:List Nd) (ya yb:ByteArray) (yc yd:Int) (ye:List ByteArray) (yf:List MatD) (yg:List Nd) (t:ByteArray) (ht:t.size<=100000000) (hn:CD prog 34 [HPow] [.agg [.s ⟨#[98,105,110]⟩,.s text,dN n,dI mode,.sh 1 (names.map D.s),.sh 3 (ms.map MatD.d),.sh 7 [n7 xa xb xc xd xe xf xg,n7 ya yb yc yd ye yf yg]]] (PrT t)):
 CD prog 99 [HPow] [.agg [.s ⟨#[98,105,110]⟩,.s text,dN n,dI mode,.sh 1 (names.map D.s),.sh 3 (ms.map MatD.d),.sh 7 [n7 xa xb xc xd xe xf xg,n7 ya yb yc yd ye yf yg]]] (PrT (zl++t++zx)):=by
 refine tZ func99 O O (λC=>?_);refine T.bd 0 O (λbd0=>?_);refine g' 2 O ?_;refine tA O (λg1=>?_);refine gQ 6 [0] O O (tW O acs (pL text n mode names ms xa xb xc xd xe xf xg ya yb yc yd ye yf yg) (g' 6 O (tP O ((zR (zv:=n9) O (λ_ _=>by kernel_rfl)).cv (Cv.tup (.cons (w8 (by decide)) (gc .nil)))) (g' 3 O ?_))));refine tA O (λg2=>?_);refine gQ 8 [0] O O (tP O (zbe O (λ_ _=>by kernel_rfl)) (g' 3 O ?_));refine tA O (λg3=>?_);refine gQ 16 [0,2] O O (tX [3] O O acs (hn) ?_);rintro _ _ ⟨rfl,rfl⟩;refine tP O (cA O O (by (try simp only[cQ]);have kz:=catz;omega)) (tP O (cA O O (by (try simp only[cQ]);have kz:=catz;omega)) (g' 5 O ?_));exact tRs O results99 (.cons (zd (zc O) (Cv.eq (aG D.s (show (((⟨#[40]⟩:ByteArray)++t)++(⟨#[41]⟩:ByteArray))=zl++t++zx from(by rfl))))) .nil) O (mP 1 O) ⟨O,O⟩
theorem aHq (text:ByteArray) (n:Nat) (mode:Int) (names:List ByteArray) (ms:List MatD) (xa xb:ByteArray) (xc xd:Int) (xe:List ByteArray) (xf:List MatD) (xg:List Nd) (t:ByteArray) (ht:t.size<=100000000) (hn:CD prog 34 [HPow] [.agg [.s ⟨#[97,103,103]⟩,.s text,dN n,dI mode,.sh 1 (names.map D.s),.sh 3 (ms.map MatD.d),.sh 7 [n7 xa xb xc xd xe xf xg]]] (PrT t)):
 CD prog 99 [HPow] [.agg [.s ⟨#[97,103,103]⟩,.s text,dN n,dI mode,.sh 1 (names.map D.s),.sh 3 (ms.map MatD.d),.sh 7 [n7 xa xb xc xd xe xf xg]]] (PrT (t)):=by
 refine tZ func99 O O (λC=>?_);refine T.bd 0 O (λbd0=>?_);refine g' 2 O ?_;refine tA O (λg1=>?_);refine gQ 6 [0] O O (tW O acs (aBt text n mode names ms xa xb xc xd xe xf xg) (g' 6 O (tP O ((zR (zv:=n9) O (λ_ _=>by kernel_rfl)).cv (Cv.tup (.cons (w8 (by decide)) (gc .nil)))) (g' 3 O ?_))));refine tA O (λg2=>?_);refine gQ 8 [0] O O (tP O ((zR (zv:=n9) O (λ_ _=>by kernel_rfl)).cv (Cv.tup (.cons (w8 (by decide)) (gc .nil)))) (g' 3 O ?_));refine tA O (λg3=>?_);refine gQ 18 [0,2] O O (tX [3] O O acs (hn) ?_);rintro _ _ ⟨rfl,rfl⟩;refine g' 4 O ?_;exact tR O (mP 1 O) ⟨O,O⟩
theorem aQt (text:ByteArray) (n:Nat) (mode:Int) (names:List ByteArray) (ms:List MatD) (xa xb:ByteArray) (xc xd:Int) (xe:List ByteArray) (xf:List MatD) (xg:List Nd) (t:ByteArray) (ht:t.size<=100000000) (hn:CD prog 34 [HPow] [.agg [.s ⟨#[102,110]⟩,.s text,dN n,dI mode,.sh 1 (names.map D.s),.sh 3 (ms.map MatD.d),.sh 7 [n7 xa xb xc xd xe xf xg]]] (PrT t)):
 CD prog 99 [HPow] [.agg [.s ⟨#[102,110]⟩,.s text,dN n,dI mode,.sh 1 (names.map D.s),.sh 3 (ms.map MatD.d),.sh 7 [n7 xa xb xc xd xe xf xg]]] (PrT (t)):=by
 refine tZ func99 O O (λC=>?_);refine T.bd 0 O (λbd0=>?_);refine g' 2 O ?_;refine tA O (λg1=>?_);refine gQ 6 [0] O O (tW O acs (aJg text n mode names ms xa xb xc xd xe xf xg) (g' 6 O (tP O ((zR (zv:=n9) O (λ_ _=>by kernel_rfl)).cv (Cv.tup (.cons (w8 (by decide)) (gc .nil)))) (g' 3 O ?_))));refine tA O (λg2=>?_);refine gQ 8 [0] O O (tP O ((zR (zv:=n9) O (λ_ _=>by kernel_rfl)).cv (Cv.tup (.cons (w8 (by decide)) (gc .nil)))) (g' 3 O ?_));refine tA O (λg3=>?_);refine gQ 18 [0,2] O O (tX [3] O O acs (hn) ?_);rintro _ _ ⟨rfl,rfl⟩;refine g' 4 O ?_;exact tR O (mP 1 O) ⟨O,O⟩
theorem aI6 (text:ByteArray) (n:Nat) (mode:Int) (names:List ByteArray) (ms:List MatD) (t:ByteArray) (ht:t.size<=100000000) (hn:CD prog 34 [HPow] [.agg [.s ⟨#[115,101,108]⟩,.s text,dN n,dI mode,.sh 1 (names.map D.s),.sh 3 (ms.map MatD.d),.sh 7 []]] (PrT t)):
 CD prog 99 [HPow] [.agg [.s ⟨#[115,101,108]⟩,.s text,dN n,dI mode,.sh 1 (names.map D.s),.sh 3 (ms.map MatD.d),.sh 7 []]] (PrT (t)):=by
 refine tZ func99 O O (λC=>?_);refine T.bd 0 O (λbd0=>?_);refine g' 2 O ?_;refine tA O (λg1=>?_);refine gQ 6 [0] O O (tW O acs (aBh text n mode names ms) (g' 6 O (tP O ((zR (zv:=n9) O (λ_ _=>by kernel_rfl)).cv (Cv.tup (.cons (w8 (by decide)) (gc .nil)))) (g' 3 O ?_))));refine tA O (λg2=>?_);refine gQ 8 [0] O O (tP O ((zR (zv:=n9) O (λ_ _=>by kernel_rfl)).cv (Cv.tup (.cons (w8 (by decide)) (gc .nil)))) (g' 3 O ?_));refine tA O (λg3=>?_);refine gQ 18 [0,2] O O (tX [3] O O acs (hn) ?_);rintro _ _ ⟨rfl,rfl⟩;refine g' 4 O ?_;exact tR O (mP 1 O) ⟨O,O⟩
theorem aHa (mode:Int) (a b:ByteArray) :
 CD prog 144 [] [dI mode,.s a,.s b] (isR (.s (zcl mode a b))):=by
 refine tZ func144 O O (λC=>?_);refine T.bd 1 O (λbd1=>?_);have sz1:a.size<=9223372036854775807:=bd1;refine T.bd 2 O (λbd2=>?_);have sz2:b.size<=9223372036854775807:=bd2;refine g' 12 O ?_;refine tD O (λhc1=>?_) (λhc1=>?_)
 · refine g' 8 O ?_;exact tRs O results144 (.cons (zd (zc O) (Cv.eq (aG D.s (by unfold zcl;first | rw[aB (by simpa using hc1)] | rw[aA (by simpa using hc1)])))) .nil) O mO ⟨O,O⟩
 refine g' 9 O ?_;exact tRs O results144 (.cons (zd (zc O) (Cv.eq (aG D.s (by unfold zcl;first | rw[aB (by simpa using hc1)] | rw[aA (by simpa using hc1)])))) .nil) O mO ⟨O,O⟩
theorem aG2 (l:List ByteArray) (hl:l.length<=1000000) (hs:zac l<=100000000):
 CD prog 145 [] [.sh 1 (l.map D.s)] (isR (D.s (namP l))):=by
 refine tZ func145 O O (λC=>?_);refine T.bd 0 O (λbd0=>?_);have nl0:=zbW bd0;refine g' 8 O (tW O (ga (.cons (ArgC.cv cS) .nil)) (aQz l (⟨#[44]⟩:ByteArray) (by omega) (by omega) (by first | decide | omega) (by first | decide | omega)) (tP O (cA O O (by (try simp only[cQ]);have e:=zaC (sep:=⟨#[44]⟩) O l;(try simp only[cQ]);have kz:=catz;omega)) (tP O (cA O O (by (try simp only[cQ]);have e:=zaC (sep:=⟨#[44]⟩) O l;(try simp only[cQ]);have kz:=catz;omega)) (g' 4 O ?_))));exact tRs O results145 (.cons (zd (zc O) (Cv.eq (aG D.s (by rfl)))) .nil) O mO ⟨O,O⟩
theorem aYc  :
 CD prog 147 [] [dI 1] (isR (.s (zch 1))):=by
 refine tZ func147 O O (λC=>?_);refine g' 7 O (tE O (zL [.const (.string ⟨#[61]⟩),.const (.string ⟨#[33,61]⟩),.const (.string ⟨#[61,126]⟩),.const (.string ⟨#[33,126]⟩)] O O (.cons (CellD.v O) (.cons (CellD.v O) (.cons (CellD.v O) (.cons (CellD.v O) .nil)))) O aL aT aX O O O O) ?_);rintro _ _ ⟨g1,rfl,rfl⟩;refine g' 9 O ?_;refine tOr 2 2 (c:=decide ((4:Int)<(1:Int))) O O O O O O (λhb2 nx3=>?_) ?_
 · have hf4:=aC hb2;refine g' 2 O ?_;exact nx3 _ O O (kx 2 O O)
 refine g' 2 O ?_;refine tC O (λhc5=>?_) (λhc5=>?_)
 · simp only[bX,bJ] at hc5;refine g' 7 O ?_;exact tRs O results147 (.cons (zd (zc O) ((cS).trans (Cv.eq (aG D.s (by first | rfl | (exfalso;omega)))))) .nil) O mO ⟨O,O⟩
 simp only[bX,bJ] at hc5;refine g' 6 O (tP O (zci (c:=(0:Int)) O O (zp (by omega) (by omega))) (tP O (zaQ (k:=0) (j:=0) O O O aL aT (by first | rfl | omega) O) (tP O (zcp O (i:=0) O O bM O) (g' 4 O ?_))));exact tRs O results147 (.cons (zd (zc O) ((cS).trans (Cv.eq (aG D.s (by first | rfl | (exfalso;omega)))))) .nil) O mO ⟨O,O⟩
theorem aYr  :
 CD prog 147 [] [dI 2] (isR (.s (zch 2))):=by
 refine tZ func147 O O (λC=>?_);refine g' 7 O (tE O (zL [.const (.string ⟨#[61]⟩),.const (.string ⟨#[33,61]⟩),.const (.string ⟨#[61,126]⟩),.const (.string ⟨#[33,126]⟩)] O O (.cons (CellD.v O) (.cons (CellD.v O) (.cons (CellD.v O) (.cons (CellD.v O) .nil)))) O aL aT aX O O O O) ?_);rintro _ _ ⟨g1,rfl,rfl⟩;refine g' 9 O ?_;refine tOr 2 2 (c:=decide ((4:Int)<(2:Int))) O O O O O O (λhb2 nx3=>?_) ?_
 · have hf4:=aC hb2;refine g' 2 O ?_;exact nx3 _ O O (kx 2 O O)
 refine g' 2 O ?_;refine tC O (λhc5=>?_) (λhc5=>?_)
 · simp only[bX,bJ] at hc5;refine g' 7 O ?_;exact tRs O results147 (.cons (zd (zc O) ((cS).trans (Cv.eq (aG D.s (by first | rfl | (exfalso;omega)))))) .nil) O mO ⟨O,O⟩
 simp only[bX,bJ] at hc5;refine g' 6 O (tP O (zci (c:=(1:Int)) O O (zp (by omega) (by omega))) (tP O (zaQ (k:=1) (j:=0) O O O aL aT (by first | rfl | omega) O) (tP O (zcp O (i:=0) O O bM O) (g' 4 O ?_))));exact tRs O results147 (.cons (zd (zc O) ((cS).trans (Cv.eq (aG D.s (by first | rfl | (exfalso;omega)))))) .nil) O mO ⟨O,O⟩
theorem a0p  :
 CD prog 147 [] [dI 3] (isR (.s (zch 3))):=by
 refine tZ func147 O O (λC=>?_);refine g' 7 O (tE O (zL [.const (.string ⟨#[61]⟩),.const (.string ⟨#[33,61]⟩),.const (.string ⟨#[61,126]⟩),.const (.string ⟨#[33,126]⟩)] O O (.cons (CellD.v O) (.cons (CellD.v O) (.cons (CellD.v O) (.cons (CellD.v O) .nil)))) O aL aT aX O O O O) ?_);rintro _ _ ⟨g1,rfl,rfl⟩;refine g' 9 O ?_;refine tOr 2 2 (c:=decide ((4:Int)<(3:Int))) O O O O O O (λhb2 nx3=>?_) ?_
 · have hf4:=aC hb2;refine g' 2 O ?_;exact nx3 _ O O (kx 2 O O)
 refine g' 2 O ?_;refine tC O (λhc5=>?_) (λhc5=>?_)
 · simp only[bX,bJ] at hc5;refine g' 7 O ?_;exact tRs O results147 (.cons (zd (zc O) ((cS).trans (Cv.eq (aG D.s (by first | rfl | (exfalso;omega)))))) .nil) O mO ⟨O,O⟩
 simp only[bX,bJ] at hc5;refine g' 6 O (tP O (zci (c:=(2:Int)) O O (zp (by omega) (by omega))) (tP O (zaQ (k:=2) (j:=0) O O O aL aT (by first | rfl | omega) O) (tP O (zcp O (i:=0) O O bM O) (g' 4 O ?_))));exact tRs O results147 (.cons (zd (zc O) ((cS).trans (Cv.eq (aG D.s (by first | rfl | (exfalso;omega)))))) .nil) O mO ⟨O,O⟩
theorem aYf  :
 CD prog 147 [] [dI 4] (isR (.s (zch 4))):=by
 refine tZ func147 O O (λC=>?_);refine g' 7 O (tE O (zL [.const (.string ⟨#[61]⟩),.const (.string ⟨#[33,61]⟩),.const (.string ⟨#[61,126]⟩),.const (.string ⟨#[33,126]⟩)] O O (.cons (CellD.v O) (.cons (CellD.v O) (.cons (CellD.v O) (.cons (CellD.v O) .nil)))) O aL aT aX O O O O) ?_);rintro _ _ ⟨g1,rfl,rfl⟩;refine g' 9 O ?_;refine tOr 2 2 (c:=decide ((4:Int)<(4:Int))) O O O O O O (λhb2 nx3=>?_) ?_
 · have hf4:=aC hb2;refine g' 2 O ?_;exact nx3 _ O O (kx 2 O O)
 refine g' 2 O ?_;refine tC O (λhc5=>?_) (λhc5=>?_)
 · simp only[bX,bJ] at hc5;refine g' 7 O ?_;exact tRs O results147 (.cons (zd (zc O) ((cS).trans (Cv.eq (aG D.s (by first | rfl | (exfalso;omega)))))) .nil) O mO ⟨O,O⟩
 simp only[bX,bJ] at hc5;refine g' 6 O (tP O (zci (c:=(3:Int)) O O (zp (by omega) (by omega))) (tP O (zaQ (k:=3) (j:=0) O O O aL aT (by first | rfl | omega) O) (tP O (zcp O (i:=0) O O bM O) (g' 4 O ?_))));exact tRs O results147 (.cons (zd (zc O) ((cS).trans (Cv.eq (aG D.s (by first | rfl | (exfalso;omega)))))) .nil) O mO ⟨O,O⟩
theorem aTp (op:Int) (h:1<=op/\op<=4):CD prog 147 [] [dI op] (isR (.s (zch op))):=by
 obtain rfl | rfl | rfl | rfl:op=1\/op=2\/op=3\/op=4:=by omega
 · exact aYc
 · exact aYr
 · exact a0p
 exact aYf
end Lp
