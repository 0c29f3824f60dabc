import Derived.Test.YtheccaeefigajaaGreatDoorV105
set_option linter.unusedSimpArgs false
set_option linter.unusedVariables false
set_option maxHeartbeats 4000000
set_option maxRecDepth 100000
namespace Lp
open Go Go.RowKit Go.Proofs
namespace HdYtheccaeefigajaaGreatDoorV106
theorem fa_113_0 (b o:Nat):∀ w,(Instr.fieldAt 113 (.pointer (some ⟨b,o,none⟩)) 0).run Tryz.prog w=.ok (.pointer (some ⟨b,o+0,none⟩)) w:=fun _=>by kernel_rfl
theorem fa_116_0 (b o:Nat):∀ w,(Instr.fieldAt 116 (.pointer (some ⟨b,o,none⟩)) 0).run Tryz.prog w=.ok (.pointer (some ⟨b,o+0,none⟩)) w:=fun _=>by kernel_rfl
theorem zbS (b o:Nat):∀ w,(Instr.fieldAt 119 (.pointer (some ⟨b,o,none⟩)) 0).run Tryz.prog w=.ok (.pointer (some ⟨b,o+0,none⟩)) w:=fun _=>by kernel_rfl
theorem zbR (b o:Nat):∀ w,(Instr.fieldAt 122 (.pointer (some ⟨b,o,none⟩)) 0).run Tryz.prog w=.ok (.pointer (some ⟨b,o+0,none⟩)) w:=fun _=>by kernel_rfl
theorem fa_124_0 (b o:Nat):∀ w,(Instr.fieldAt 124 (.pointer (some ⟨b,o,none⟩)) 0).run Tryz.prog w=.ok (.pointer (some ⟨b,o+0,none⟩)) w:=fun _=>by kernel_rfl
theorem zdx (b o:Nat):∀ w,(Instr.fieldAt 126 (.pointer (some ⟨b,o,none⟩)) 0).run Tryz.prog w=.ok (.pointer (some ⟨b,o+0,none⟩)) w:=fun _=>by kernel_rfl
theorem zad (b o:Nat):∀ w,(Instr.fieldAt 27 (.pointer (some ⟨b,o,none⟩)) 1).run Tryz.prog w=.ok (.pointer (some ⟨b,o+1,none⟩)) w:=fun _=>by kernel_rfl
theorem zaq (b o:Nat):∀ w,(Instr.fieldAt 27 (.pointer (some ⟨b,o,none⟩)) 2).run Tryz.prog w=.ok (.pointer (some ⟨b,o+2,none⟩)) w:=fun _=>by kernel_rfl
theorem zaY (b o:Nat):∀ w,(Instr.fieldAt 27 (.pointer (some ⟨b,o,none⟩)) 3).run Tryz.prog w=.ok (.pointer (some ⟨b,o+3,none⟩)) w:=fun _=>by kernel_rfl
theorem zbb (b o:Nat):∀ w,(Instr.fieldAt 27 (.pointer (some ⟨b,o,none⟩)) 4).run Tryz.prog w=.ok (.pointer (some ⟨b,o+4,none⟩)) w:=fun _=>by kernel_rfl
theorem zbx (b o:Nat):∀ w,(Instr.fieldAt 27 (.pointer (some ⟨b,o,none⟩)) 5).run Tryz.prog w=.ok (.pointer (some ⟨b,o+5,none⟩)) w:=fun _=>by kernel_rfl
theorem zaI (b o:Nat):∀ w,(Instr.fieldAt 27 (.pointer (some ⟨b,o,none⟩)) 6).run Tryz.prog w=.ok (.pointer (some ⟨b,o+6,none⟩)) w:=fun _=>by kernel_rfl
theorem zeT (b o:Nat):∀ w,(Instr.fieldAt 65 (.pointer (some ⟨b,o,none⟩)) 0).run Tryz.prog w=.ok (.pointer (some ⟨b,o+0,none⟩)) w:=fun _=>by kernel_rfl
theorem zdC (b o:Nat):∀ w,(Instr.fieldAt 65 (.pointer (some ⟨b,o,none⟩)) 1).run Tryz.prog w=.ok (.pointer (some ⟨b,o+1,none⟩)) w:=fun _=>by kernel_rfl
theorem zeS (b o:Nat):∀ w,(Instr.fieldAt 65 (.pointer (some ⟨b,o,none⟩)) 2).run Tryz.prog w=.ok (.pointer (some ⟨b,o+2,none⟩)) w:=fun _=>by kernel_rfl
theorem infz_9:∃ i,Tryz.prog.info? 9=some i∧i.zero=some (.string ByteArray.empty)∧i.size=1∧i.bytes=16:=zcA (by kernel_rfl)
theorem und_23:Tryz.prog.underlying 23=some (.slice 9):=by kernel_rfl
end HdYtheccaeefigajaaGreatDoorV106
open HdYtheccaeefigajaaGreatDoorV106
theorem bintext_c (text:ByteArray) (n:Nat) (mode:Int) (names:List ByteArray) (ms:List MatD) (xa xb:ByteArray) (xc xd:Int) (xe:List ByteArray) (xf:List MatD) (xg:List Nd) (ya yb:ByteArray) (yc yd:Int) (ye:List ByteArray) (yf:List MatD) (yg:List Nd) (ta tb:ByteArray) (hw:wtOf text names ms≤10000000) (hxt:ta.size≤10000000) (hx:CD Tryz.prog 99 [HPow] [.agg [.s xa,.s xb,dI xc,dI xd,.sh 1 (xe.map D.s),.sh 3 (xf.map MatD.d),.sh 7 (Nd.ds xg)]] (PrT ta)) (hyt:tb.size≤10000000) (hy:CD Tryz.prog 99 [HPow] [.agg [.s ya,.s yb,dI yc,dI yd,.sh 1 (ye.map D.s),.sh 3 (yf.map MatD.d),.sh 7 (Nd.ds yg)]] (PrT tb)):
 CD Tryz.prog 100 [HPow] [.agg [.s (⟨#[98,105,110]⟩:ByteArray),.s text,dN n,dI mode,.sh 1 (names.map D.s),.sh 3 (ms.map MatD.d),.sh 7 [.agg [.s xa,.s xb,dI xc,dI xd,.sh 1 (xe.map D.s),.sh 3 (xf.map MatD.d),.sh 7 (Nd.ds xg)],.agg [.s ya,.s yb,dI yc,dI yd,.sh 1 (ye.map D.s),.sh 3 (yf.map MatD.d),.sh 7 (Nd.ds yg)]]]] (PrT (binP text mode names ta tb)):=by
 refine zq Tryz.func100 J (N:=40) J J (fun C=>?_)
 refine jk [0] J ?_
 refine JD.bd 0 J (fun bd0=>?_)
 have hwt:=hw
 unfold wtOf at hwt
 have en:=namP_sz names
 have ew:=zdG mode (show (⟨#[111,110]⟩:ByteArray).size≤8 by decide) (show (⟨#[105,103,110,111,114,105,110,103]⟩:ByteArray).size≤8 by decide)
 have ev:=zdG mode (show (⟨#[98,121]⟩:ByteArray).size≤8 by decide) (show (⟨#[119,105,116,104,111,117,116]⟩:ByteArray).size≤8 by decide)
 have ea:=aggA_sz text mode names
 refine jT J (oE J (zaD J (CellD.agg)) ?_)
 rintro _ _ ⟨g1,rfl,rfl⟩
 refine oR 1 J (oZ J (jS J (JD.subH (HSub.perm (zd (i:=1) J)) (jn J (jk [0,1,2] J (jn J ?_))))))
 refine za4 10 [(4,dP g1 0,none),(5,dP g1 6,none),(6,.sh 7 [.agg [.s xa,.s xb,dI xc,dI xd,.sh 1 (xe.map D.s),.sh 3 (xf.map MatD.d),.sh 7 (Nd.ds xg)],.agg [.s ya,.s yb,dI yc,dI yd,.sh 1 (ye.map D.s),.sh 3 (yf.map MatD.d),.sh 7 (Nd.ds yg)]],none),(7,.el (.agg [.s xa,.s xb,dI xc,dI xd,.sh 1 (xe.map D.s),.sh 3 (xf.map MatD.d),.sh 7 (Nd.ds xg)]) 0,none),(8,.agg [.s xa,.s xb,dI xc,dI xd,.sh 1 (xe.map D.s),.sh 3 (xf.map MatD.d),.sh 7 (Nd.ds xg)],none),(9,.s ta,some [HPow,.bx g1 119 (.agg [.s (⟨#[98,105,110]⟩:ByteArray),.s text,dN n,dI mode,.sh 1 (names.map D.s),.sh 3 (ms.map MatD.d),.sh 7 [.agg [.s xa,.s xb,dI xc,dI xd,.sh 1 (xe.map D.s),.sh 3 (xf.map MatD.d),.sh 7 (Nd.ds xg)],.agg [.s ya,.s yb,dI yc,dI yd,.sh 1 (ye.map D.s),.sh 3 (yf.map MatD.d),.sh 7 (Nd.ds yg)]]])]),(10,.s (ta++(⟨#[32]⟩:ByteArray)),none),(11,dP g1 0,none),(12,dP g1 1,none),(13,.s text,none)] [.bx g1 119 (.agg [.s (⟨#[98,105,110]⟩:ByteArray),.s text,dN n,dI mode,.sh 1 (names.map D.s),.sh 3 (ms.map MatD.d),.sh 7 [.agg [.s xa,.s xb,dI xc,dI xd,.sh 1 (xe.map D.s),.sh 3 (xf.map MatD.d),.sh 7 (Nd.ds xg)],.agg [.s ya,.s yb,dI yc,dI yd,.sh 1 (ye.map D.s),.sh 3 (yf.map MatD.d),.sh 7 (Nd.ds yg)]]])] (Hn:=[HPow,.bx g1 119 (.agg [.s (⟨#[98,105,110]⟩:ByteArray),.s text,dN n,dI mode,.sh 1 (names.map D.s),.sh 3 (ms.map MatD.d),.sh 7 [.agg [.s xa,.s xb,dI xc,dI xd,.sh 1 (xe.map D.s),.sh 3 (xf.map MatD.d),.sh 7 (Nd.ds xg)],.agg [.s ya,.s yb,dI yc,dI yd,.sh 1 (ye.map D.s),.sh 3 (yf.map MatD.d),.sh 7 (Nd.ds yg)]]])]) mixed rfl rfl rfl rfl (HSub.lst 1 rfl) rfl ⟨sa_p rfl rfl rfl (zc rfl zbS rfl),sa_p rfl rfl rfl (zc rfl zaI rfl),sa_p rfl rfl rfl (ze rfl (i:=0) rfl Tryz.isAgg25 rfl),sa_p rfl rfl rfl (zA (k:=0) rfl rfl Tryz.runUnderlying25 Tryz.sizeOf27 (by first | rfl | omega) rfl),sa_p rfl rfl rfl (zau (d:=.agg [.s xa,.s xb,dI xc,dI xd,.sh 1 (xe.map D.s),.sh 3 (xf.map MatD.d),.sh 7 (Nd.ds xg)]) rfl Tryz.isAgg27 Tryz.sizeOf27 rfl rfl),sa_e rfl rfl rfl rfl (((zk [HPow] [.bx g1 119 (.agg [.s (⟨#[98,105,110]⟩:ByteArray),.s text,dN n,dI mode,.sh 1 (names.map D.s),.sh 3 (ms.map MatD.d),.sh 7 [.agg [.s xa,.s xb,dI xc,dI xd,.sh 1 (xe.map D.s),.sh 3 (xf.map MatD.d),.sh 7 (Nd.ds xg)],.agg [.s ya,.s yb,dI yc,dI yd,.sh 1 (ye.map D.s),.sh 3 (yf.map MatD.d),.sh 7 (Nd.ds yg)]]])] [] rfl rfl (.cons ArgC.id .nil) zh Tryz.call99 (hx) (.inl rfl))).mono (by rintro _ _ ⟨_,⟨rfl,rfl⟩,rfl⟩;exact⟨rfl,rfl⟩)) (HSub.lst 1 rfl),sa_p rfl rfl rfl (zao rfl rfl (by unfold maxLen;(try simp only[ByteArray.size_append]);(try simp only[ByteArray.size_append]);have kz:=catz;omega)),sa_p rfl rfl rfl (zc rfl zbS rfl),sa_p rfl rfl rfl (zc rfl zad rfl),sa_p rfl rfl rfl (ze rfl (i:=0) rfl Tryz.isAgg9 rfl),trivial⟩ ?_
 refine ok [0,1,2,4,5,6,7,8,9,10,11,12,13] J (oP J (zao J J (by unfold maxLen;(try simp only[ByteArray.size_append]);(try simp only[ByteArray.size_append]);have kz:=catz;omega)) (oP rfl (zao rfl rfl (by unfold maxLen;(try simp only[ByteArray.size_append]);(try simp only[ByteArray.size_append]);have kz:=catz;omega)) (oR 1 rfl (oZ rfl (jk [1,2,3] rfl (jS rfl (jT rfl (oP rfl (zc rfl zbS rfl) (oP rfl (zc rfl zaY rfl) (oP rfl (ze rfl (i:=1) rfl Tryz.isAgg3 rfl) (oP rfl (zbf rfl rfl rfl) (oZ rfl ?_))))))))))))
 refine jD J (fun hc2=>?_) (fun hc2=>?_)
 · skip
   refine jk [1,2,3,16,17,18,19] J (jn J ?_)
   refine za4 11 [(20,.s (((ta++(⟨#[32]⟩:ByteArray))++text)++(⟨#[32]⟩:ByteArray)),none),(21,dP g1 0,none),(22,dP g1 3,none),(23,dI mode,none),(24,.s (zcd mode (⟨#[111,110]⟩:ByteArray) (⟨#[105,103,110,111,114,105,110,103]⟩:ByteArray)),none),(25,dP g1 0,none),(26,dP g1 4,none),(27,.sh 1 (names.map D.s),none),(28,.s (namP names),none),(29,.s ((zcd mode (⟨#[111,110]⟩:ByteArray) (⟨#[105,103,110,111,114,105,110,103]⟩:ByteArray))++(namP names)),none),(30,.s (((zcd mode (⟨#[111,110]⟩:ByteArray) (⟨#[105,103,110,111,114,105,110,103]⟩:ByteArray))++(namP names))++(⟨#[32]⟩:ByteArray)),none)] [HPow,.bx g1 119 (.agg [.s (⟨#[98,105,110]⟩:ByteArray),.s text,dN n,dI mode,.sh 1 (names.map D.s),.sh 3 (ms.map MatD.d),.sh 7 [.agg [.s xa,.s xb,dI xc,dI xd,.sh 1 (xe.map D.s),.sh 3 (xf.map MatD.d),.sh 7 (Nd.ds xg)],.agg [.s ya,.s yb,dI yc,dI yd,.sh 1 (ye.map D.s),.sh 3 (yf.map MatD.d),.sh 7 (Nd.ds yg)]]])] (Hn:=[HPow,.bx g1 119 (.agg [.s (⟨#[98,105,110]⟩:ByteArray),.s text,dN n,dI mode,.sh 1 (names.map D.s),.sh 3 (ms.map MatD.d),.sh 7 [.agg [.s xa,.s xb,dI xc,dI xd,.sh 1 (xe.map D.s),.sh 3 (xf.map MatD.d),.sh 7 (Nd.ds xg)],.agg [.s ya,.s yb,dI yc,dI yd,.sh 1 (ye.map D.s),.sh 3 (yf.map MatD.d),.sh 7 (Nd.ds yg)]]])]) mixed J J J J HSub.rfl' J ⟨sa_p J J J (z7 J),sa_p J J J (zc J zbS J),sa_p J J J (zc J zaY J),sa_p J J J (ze J (i:=1) J Tryz.isAgg3 J),sa_q J J J (zcS J (.cons Cv.rfl' (.cons (Cv.str (by first | decide | (unfold maxLen;omega))) (.cons (Cv.str (by first | decide | (unfold maxLen;omega))) .nil))) Tryz.call144 (wordq_c mode (⟨#[111,110]⟩:ByteArray) (⟨#[105,103,110,111,114,105,110,103]⟩:ByteArray)) zbV),sa_p rfl rfl rfl (zc rfl zbS rfl),sa_p rfl rfl rfl (zc rfl zbb rfl),sa_p rfl rfl rfl (ze rfl (i:=1) rfl Tryz.isAgg23 rfl),sa_q rfl rfl rfl (zcS rfl (.cons Cv.rfl' .nil) Tryz.call145 (names_p names (by omega) (by omega)) zbV),sa_p rfl rfl rfl (zao rfl rfl (by unfold maxLen;(try simp only[ByteArray.size_append]);(try simp only[ByteArray.size_append]);have kz:=catz;omega)),sa_p rfl rfl rfl (zao rfl rfl (by unfold maxLen;(try simp only[ByteArray.size_append]);(try simp only[ByteArray.size_append]);have kz:=catz;omega)),trivial⟩ ?_
   refine ok [1,2,3,16,17,18,19,20,21,22,23,24,25,26,27,28,29,30] J (oP J (zao J J (by unfold maxLen;(try simp only[ByteArray.size_append]);(try simp only[ByteArray.size_append]);have kz:=catz;omega)) (oR 1 rfl (oZ rfl (jk [1,2,3] rfl (jT rfl (oR 1 rfl (oP rfl (zc rfl zbS rfl) (oP rfl (zc rfl zaI rfl) (oP rfl (ze rfl (i:=1) rfl Tryz.isAgg25 rfl) (oP rfl (zA (k:=1) rfl rfl Tryz.runUnderlying25 Tryz.sizeOf27 (by first | rfl | omega) rfl) (oP rfl (zau (d:=.agg [.s ya,.s yb,dI yc,dI yd,.sh 1 (ye.map D.s),.sh 3 (yf.map MatD.d),.sh 7 (Nd.ds yg)]) rfl Tryz.isAgg27 Tryz.sizeOf27 rfl rfl) (oE rfl (zk [HPow] [.bx g1 119 (.agg [.s (⟨#[98,105,110]⟩:ByteArray),.s text,dN n,dI mode,.sh 1 (names.map D.s),.sh 3 (ms.map MatD.d),.sh 7 [.agg [.s xa,.s xb,dI xc,dI xd,.sh 1 (xe.map D.s),.sh 3 (xf.map MatD.d),.sh 7 (Nd.ds xg)],.agg [.s ya,.s yb,dI yc,dI yd,.sh 1 (ye.map D.s),.sh 3 (yf.map MatD.d),.sh 7 (Nd.ds yg)]]])] [] rfl rfl (.cons ArgC.id .nil) zh Tryz.call99 (hy) (.inl rfl)) ?_))))))))))))
   rintro _ _ ⟨_,⟨rfl,rfl⟩,rfl⟩
   refine on J (oP J (zao J J (by unfold maxLen;(try simp only[ByteArray.size_append]);(try simp only[ByteArray.size_append]);have kz:=catz;omega)) (oR 1 rfl (oZ rfl (jk [2] rfl (zo rfl (pn rfl ?_))))))
   exact zi Tryz.results100 (.cons (zt (zl J) (Cv.eq (congrArg D.s (show (((((ta++(⟨#[32]⟩:ByteArray))++text)++(⟨#[32]⟩:ByteArray))++(((zcd mode (⟨#[111,110]⟩:ByteArray) (⟨#[105,103,110,111,114,105,110,103]⟩:ByteArray))++(namP names))++(⟨#[32]⟩:ByteArray)))++tb)=binP text mode names ta tb from(by unfold binP;rw[if_neg (by simpa using hc2)]))))) .nil) rfl (HSub.fst 1 rfl) ⟨rfl,rfl⟩
 · skip
   refine zp J (zn (jT J (oR 1 J (oP J (zc J zbS J) (oP J (zc J zaI J) (oP J (ze J (i:=1) J Tryz.isAgg25 J) (oP J (zA (k:=1) J J Tryz.runUnderlying25 Tryz.sizeOf27 (by first | rfl | omega) rfl) (oP rfl (zau (d:=.agg [.s ya,.s yb,dI yc,dI yd,.sh 1 (ye.map D.s),.sh 3 (yf.map MatD.d),.sh 7 (Nd.ds yg)]) rfl Tryz.isAgg27 Tryz.sizeOf27 rfl rfl) (oE rfl (zk [HPow] [.bx g1 119 (.agg [.s (⟨#[98,105,110]⟩:ByteArray),.s text,dN n,dI mode,.sh 1 (names.map D.s),.sh 3 (ms.map MatD.d),.sh 7 [.agg [.s xa,.s xb,dI xc,dI xd,.sh 1 (xe.map D.s),.sh 3 (xf.map MatD.d),.sh 7 (Nd.ds xg)],.agg [.s ya,.s yb,dI yc,dI yd,.sh 1 (ye.map D.s),.sh 3 (yf.map MatD.d),.sh 7 (Nd.ds yg)]]])] [] rfl rfl (.cons ArgC.id .nil) zh Tryz.call99 (hy) (.inl rfl)) ?_)))))))))
   rintro _ _ ⟨_,⟨rfl,rfl⟩,rfl⟩
   refine on J (oP J (zao J J (by unfold maxLen;(try simp only[ByteArray.size_append]);(try simp only[ByteArray.size_append]);have kz:=catz;omega)) (oR 1 rfl (oZ rfl (jk [2] rfl (zo rfl (pn rfl ?_))))))
   exact zi Tryz.results100 (.cons (zt (zl J) (Cv.eq (congrArg D.s (show ((((ta++(⟨#[32]⟩:ByteArray))++text)++(⟨#[32]⟩:ByteArray))++tb)=binP text mode names ta tb from(by unfold binP;rw[if_pos (by simpa using hc2)]))))) .nil) rfl (HSub.fst 1 rfl) ⟨rfl,rfl⟩
theorem aggtext_c (text:ByteArray) (n:Nat) (mode:Int) (names:List ByteArray) (ms:List MatD) (xa xb:ByteArray) (xc xd:Int) (xe:List ByteArray) (xf:List MatD) (xg:List Nd) (ta:ByteArray) (h1:n≤1000000000000) (hw:wtOf text names ms≤10000000) (hxt:ta.size≤10000000) (hx:CD Tryz.prog 34 [HPow] [.agg [.s xa,.s xb,dI xc,dI xd,.sh 1 (xe.map D.s),.sh 3 (xf.map MatD.d),.sh 7 (Nd.ds xg)]] (PrT ta)):
 CD Tryz.prog 101 [HPow] [.agg [.s (⟨#[97,103,103]⟩:ByteArray),.s text,dN n,dI mode,.sh 1 (names.map D.s),.sh 3 (ms.map MatD.d),.sh 7 [.agg [.s xa,.s xb,dI xc,dI xd,.sh 1 (xe.map D.s),.sh 3 (xf.map MatD.d),.sh 7 (Nd.ds xg)]]]] (PrT (aggP text n mode names ta)):=by
 refine zq Tryz.func101 J (N:=47) J J (fun C=>?_)
 refine jk [0] J ?_
 refine JD.bd 0 J (fun bd0=>?_)
 have hwt:=hw
 unfold wtOf at hwt
 have en:=namP_sz names
 have ew:=zdG mode (show (⟨#[111,110]⟩:ByteArray).size≤8 by decide) (show (⟨#[105,103,110,111,114,105,110,103]⟩:ByteArray).size≤8 by decide)
 have ev:=zdG mode (show (⟨#[98,121]⟩:ByteArray).size≤8 by decide) (show (⟨#[119,105,116,104,111,117,116]⟩:ByteArray).size≤8 by decide)
 have ea:=aggA_sz text mode names
 refine jT J (oE J (zaD J (CellD.agg)) ?_)
 rintro _ _ ⟨g1,rfl,rfl⟩
 refine oR 1 J (oZ J (jT J (oP J (zc J zbR J) (oP J (zc J zad J) (oP J (ze J (i:=0) J Tryz.isAgg9 J) (oR 1 J (oZ J (jS J (jT J (oP J (zc J zbR J) (oP J (zc J zaY J) (oP J (ze J (i:=0) J Tryz.isAgg3 J) (oP J (zbf J J J) (oZ J ?_))))))))))))))
 refine jD J (fun hc2=>?_) (fun hc2=>?_)
 · skip
   refine jk [0,1,2,3,4,5,6,7,8,9,10] J (jn J ?_)
   refine za4 13 [(11,.s text,none),(12,dP g1 0,none),(13,dP g1 3,none),(14,dI mode,none),(15,.s (zcd mode (⟨#[98,121]⟩:ByteArray) (⟨#[119,105,116,104,111,117,116]⟩:ByteArray)),none),(16,.s ((⟨#[32]⟩:ByteArray)++(zcd mode (⟨#[98,121]⟩:ByteArray) (⟨#[119,105,116,104,111,117,116]⟩:ByteArray))),none),(17,.s (((⟨#[32]⟩:ByteArray)++(zcd mode (⟨#[98,121]⟩:ByteArray) (⟨#[119,105,116,104,111,117,116]⟩:ByteArray)))++(⟨#[32]⟩:ByteArray)),none),(18,dP g1 0,none),(19,dP g1 4,none),(20,.sh 1 (names.map D.s),none),(21,.s (namP names),none),(22,.s ((((⟨#[32]⟩:ByteArray)++(zcd mode (⟨#[98,121]⟩:ByteArray) (⟨#[119,105,116,104,111,117,116]⟩:ByteArray)))++(⟨#[32]⟩:ByteArray))++(namP names)),none),(23,.s (((((⟨#[32]⟩:ByteArray)++(zcd mode (⟨#[98,121]⟩:ByteArray) (⟨#[119,105,116,104,111,117,116]⟩:ByteArray)))++(⟨#[32]⟩:ByteArray))++(namP names))++(⟨#[32]⟩:ByteArray)),none)] [.bx g1 122 (.agg [.s (⟨#[97,103,103]⟩:ByteArray),.s text,dN n,dI mode,.sh 1 (names.map D.s),.sh 3 (ms.map MatD.d),.sh 7 [.agg [.s xa,.s xb,dI xc,dI xd,.sh 1 (xe.map D.s),.sh 3 (xf.map MatD.d),.sh 7 (Nd.ds xg)]]]),HPow] (Hn:=[.bx g1 122 (.agg [.s (⟨#[97,103,103]⟩:ByteArray),.s text,dN n,dI mode,.sh 1 (names.map D.s),.sh 3 (ms.map MatD.d),.sh 7 [.agg [.s xa,.s xb,dI xc,dI xd,.sh 1 (xe.map D.s),.sh 3 (xf.map MatD.d),.sh 7 (Nd.ds xg)]]]),HPow]) mixed J J J J HSub.rfl' J ⟨sa_p J J J (z7 J),sa_p J J J (zc J zbR J),sa_p J J J (zc J zaY J),sa_p J J J (ze J (i:=0) J Tryz.isAgg3 J),sa_q J J J (zcS J (.cons Cv.rfl' (.cons (Cv.str (by first | decide | (unfold maxLen;omega))) (.cons (Cv.str (by first | decide | (unfold maxLen;omega))) .nil))) Tryz.call144 (wordq_c mode (⟨#[98,121]⟩:ByteArray) (⟨#[119,105,116,104,111,117,116]⟩:ByteArray)) zbV),sa_p rfl rfl rfl (zao rfl rfl (by unfold maxLen;(try simp only[ByteArray.size_append]);(try simp only[ByteArray.size_append]);have kz:=catz;omega)),sa_p rfl rfl rfl (zao rfl rfl (by unfold maxLen;(try simp only[ByteArray.size_append]);(try simp only[ByteArray.size_append]);have kz:=catz;omega)),sa_p rfl rfl rfl (zc rfl zbR rfl),sa_p rfl rfl rfl (zc rfl zbb rfl),sa_p rfl rfl rfl (ze rfl (i:=0) rfl Tryz.isAgg23 rfl),sa_q rfl rfl rfl (zcS rfl (.cons Cv.rfl' .nil) Tryz.call145 (names_p names (by omega) (by omega)) zbV),sa_p rfl rfl rfl (zao rfl rfl (by unfold maxLen;(try simp only[ByteArray.size_append]);(try simp only[ByteArray.size_append]);have kz:=catz;omega)),sa_p rfl rfl rfl (zao rfl rfl (by unfold maxLen;(try simp only[ByteArray.size_append]);(try simp only[ByteArray.size_append]);have kz:=catz;omega)),trivial⟩ ?_
   refine ok [0,1,2,3,4,5,6,7,8,9,10,11,12,13,14,15,16,17,18,19,20,21,22,23] J (oP J (zao J J (by unfold maxLen;(try simp only[ByteArray.size_append]);(try simp only[ByteArray.size_append]);have kz:=catz;omega)) (oR 1 rfl (oZ rfl (jk [1,2,3] rfl (jT rfl (oR 1 rfl (oP rfl (zao rfl rfl (by unfold maxLen;(try simp only[ByteArray.size_append]);(try simp only[ByteArray.size_append]);have kz:=catz;omega)) (oR 1 rfl (oZ rfl (jS rfl (jT rfl (oP rfl (zc rfl zbR rfl) (oP rfl (zc rfl zad rfl) (oP rfl (ze rfl (i:=0) rfl Tryz.isAgg9 rfl) (oW rfl rfl acs Tryz.call146 (numbered_c text) (oZ rfl ?_))))))))))))))))
   refine jC J (fun hc3=>?_) (fun hc3=>?_)
   · skip
     refine zf J (oR 1 J (oP J (zc J zbR J) (oP J (zc J zaq J) (oP J (ze J (i:=0) J Tryz.isAgg3 J) ?_))))
     have hdz:=zbc h1
     refine OpsD.subH (HSub.perm (zd (i:=1) J)) (on J (oE J (zk [HPow] [.bx g1 122 (.agg [.s (⟨#[97,103,103]⟩:ByteArray),.s text,dN n,dI mode,.sh 1 (names.map D.s),.sh 3 (ms.map MatD.d),.sh 7 [.agg [.s xa,.s xb,dI xc,dI xd,.sh 1 (xe.map D.s),.sh 3 (xf.map MatD.d),.sh 7 (Nd.ds xg)]]])] [] J J (.cons ArgC.id .nil) zh Tryz.call97 (zej n (by omega)) (.inl rfl)) ?_))
     rintro _ _ ⟨_,⟨rfl,rfl⟩,rfl⟩
     refine on J (oP J (zao J J (by unfold maxLen;(try simp only[ByteArray.size_append]);(try simp only[ByteArray.size_append]);have kz:=catz;omega)) (oP rfl (zao rfl rfl (by unfold maxLen;(try simp only[ByteArray.size_append]);(try simp only[ByteArray.size_append]);have kz:=catz;omega)) (oR 1 rfl (oZ rfl (jk [1,2,3] rfl (jT rfl (oR 1 rfl (oP rfl (zc rfl zbR rfl) (oP rfl (zc rfl zaI rfl) (oP rfl (ze rfl (i:=1) rfl Tryz.isAgg25 rfl) (oP rfl (zA (k:=0) rfl rfl Tryz.runUnderlying25 Tryz.sizeOf27 (by first | rfl | omega) rfl) (oP rfl (zau (d:=.agg [.s xa,.s xb,dI xc,dI xd,.sh 1 (xe.map D.s),.sh 3 (xf.map MatD.d),.sh 7 (Nd.ds xg)]) rfl Tryz.isAgg27 Tryz.sizeOf27 rfl rfl) (oE rfl (zk [HPow] [.bx g1 122 (.agg [.s (⟨#[97,103,103]⟩:ByteArray),.s text,dN n,dI mode,.sh 1 (names.map D.s),.sh 3 (ms.map MatD.d),.sh 7 [.agg [.s xa,.s xb,dI xc,dI xd,.sh 1 (xe.map D.s),.sh 3 (xf.map MatD.d),.sh 7 (Nd.ds xg)]]])] [] rfl rfl (.cons ArgC.id .nil) zh Tryz.call34 (hx) (.inl rfl)) ?_)))))))))))))
     rintro _ _ ⟨_,⟨rfl,rfl⟩,rfl⟩
     refine on J (oP J (zao J J (by unfold maxLen;(try simp only[ByteArray.size_append]);(try simp only[ByteArray.size_append]);have kz:=catz;omega)) (oP rfl (zao rfl rfl (by unfold maxLen;(try simp only[ByteArray.size_append]);(try simp only[ByteArray.size_append]);have kz:=catz;omega)) (oR 1 rfl (oZ rfl (jk [2] rfl (zo rfl (pn rfl ?_)))))))
     exact zi Tryz.results101 (.cons (zt (zl J) (Cv.eq (congrArg D.s (show (((((text++(((((⟨#[32]⟩:ByteArray)++(zcd mode (⟨#[98,121]⟩:ByteArray) (⟨#[119,105,116,104,111,117,116]⟩:ByteArray)))++(⟨#[32]⟩:ByteArray))++(namP names))++(⟨#[32]⟩:ByteArray)))++(⟨#[40]⟩:ByteArray))++((digB n)++(⟨#[44]⟩:ByteArray)))++ta)++(⟨#[41]⟩:ByteArray))=aggP text n mode names ta from(by unfold aggP aggA;rw[if_pos (by simpa using hc3),if_neg (by simpa using hc2)]))))) .nil) rfl (HSub.fst 1 rfl) ⟨rfl,rfl⟩
   · skip
     refine zp J (zn (jT J (oR 1 J (oP J (zc J zbR J) (oP J (zc J zaI J) (oP J (ze J (i:=0) J Tryz.isAgg25 J) (oP J (zA (k:=0) J J Tryz.runUnderlying25 Tryz.sizeOf27 (by first | rfl | omega) rfl) (oP rfl (zau (d:=.agg [.s xa,.s xb,dI xc,dI xd,.sh 1 (xe.map D.s),.sh 3 (xf.map MatD.d),.sh 7 (Nd.ds xg)]) rfl Tryz.isAgg27 Tryz.sizeOf27 rfl rfl) (OpsD.subH (HSub.perm (zd (i:=1) rfl)) (on rfl (oE rfl (zk [HPow] [.bx g1 122 (.agg [.s (⟨#[97,103,103]⟩:ByteArray),.s text,dN n,dI mode,.sh 1 (names.map D.s),.sh 3 (ms.map MatD.d),.sh 7 [.agg [.s xa,.s xb,dI xc,dI xd,.sh 1 (xe.map D.s),.sh 3 (xf.map MatD.d),.sh 7 (Nd.ds xg)]]])] [] rfl rfl (.cons ArgC.id .nil) zh Tryz.call34 (hx) (.inl rfl)) ?_)))))))))))
     rintro _ _ ⟨_,⟨rfl,rfl⟩,rfl⟩
     refine on J (oP J (zao J J (by unfold maxLen;(try simp only[ByteArray.size_append]);(try simp only[ByteArray.size_append]);have kz:=catz;omega)) (oP rfl (zao rfl rfl (by unfold maxLen;(try simp only[ByteArray.size_append]);(try simp only[ByteArray.size_append]);have kz:=catz;omega)) (oR 1 rfl (oZ rfl (jk [2] rfl (zo rfl (pn rfl ?_)))))))
     exact zi Tryz.results101 (.cons (zt (zl J) (Cv.eq (congrArg D.s (show ((((text++(((((⟨#[32]⟩:ByteArray)++(zcd mode (⟨#[98,121]⟩:ByteArray) (⟨#[119,105,116,104,111,117,116]⟩:ByteArray)))++(⟨#[32]⟩:ByteArray))++(namP names))++(⟨#[32]⟩:ByteArray)))++(⟨#[40]⟩:ByteArray))++ta)++(⟨#[41]⟩:ByteArray))=aggP text n mode names ta from(by unfold aggP aggA;rw[if_neg (by simpa using hc3),if_neg (by simpa using hc2)]))))) .nil) rfl (HSub.fst 1 rfl) ⟨rfl,rfl⟩
 · skip
   refine zp J (zn (jT J (oR 1 J (oP J (zao J J (by unfold maxLen;(try simp only[ByteArray.size_append]);(try simp only[ByteArray.size_append]);have kz:=catz;omega)) (oR 1 rfl (oZ rfl (jk [1,2,3] rfl (jS rfl (jT rfl (oP rfl (zc rfl zbR rfl) (oP rfl (zc rfl zad rfl) (oP rfl (ze rfl (i:=0) rfl Tryz.isAgg9 rfl) (oW rfl rfl acs Tryz.call146 (numbered_c text) (oZ rfl ?_))))))))))))))
   refine jC J (fun hc4=>?_) (fun hc4=>?_)
   · skip
     refine zf J (oR 1 J (oP J (zc J zbR J) (oP J (zc J zaq J) (oP J (ze J (i:=0) J Tryz.isAgg3 J) ?_))))
     have hdz:=zbc h1
     refine OpsD.subH (HSub.perm (zd (i:=1) J)) (on J (oE J (zk [HPow] [.bx g1 122 (.agg [.s (⟨#[97,103,103]⟩:ByteArray),.s text,dN n,dI mode,.sh 1 (names.map D.s),.sh 3 (ms.map MatD.d),.sh 7 [.agg [.s xa,.s xb,dI xc,dI xd,.sh 1 (xe.map D.s),.sh 3 (xf.map MatD.d),.sh 7 (Nd.ds xg)]]])] [] J J (.cons ArgC.id .nil) zh Tryz.call97 (zej n (by omega)) (.inl rfl)) ?_))
     rintro _ _ ⟨_,⟨rfl,rfl⟩,rfl⟩
     refine on J (oP J (zao J J (by unfold maxLen;(try simp only[ByteArray.size_append]);(try simp only[ByteArray.size_append]);have kz:=catz;omega)) (oP rfl (zao rfl rfl (by unfold maxLen;(try simp only[ByteArray.size_append]);(try simp only[ByteArray.size_append]);have kz:=catz;omega)) (oR 1 rfl (oZ rfl (jk [1,2,3] rfl (jT rfl (oR 1 rfl (oP rfl (zc rfl zbR rfl) (oP rfl (zc rfl zaI rfl) (oP rfl (ze rfl (i:=1) rfl Tryz.isAgg25 rfl) (oP rfl (zA (k:=0) rfl rfl Tryz.runUnderlying25 Tryz.sizeOf27 (by first | rfl | omega) rfl) (oP rfl (zau (d:=.agg [.s xa,.s xb,dI xc,dI xd,.sh 1 (xe.map D.s),.sh 3 (xf.map MatD.d),.sh 7 (Nd.ds xg)]) rfl Tryz.isAgg27 Tryz.sizeOf27 rfl rfl) (oE rfl (zk [HPow] [.bx g1 122 (.agg [.s (⟨#[97,103,103]⟩:ByteArray),.s text,dN n,dI mode,.sh 1 (names.map D.s),.sh 3 (ms.map MatD.d),.sh 7 [.agg [.s xa,.s xb,dI xc,dI xd,.sh 1 (xe.map D.s),.sh 3 (xf.map MatD.d),.sh 7 (Nd.ds xg)]]])] [] rfl rfl (.cons ArgC.id .nil) zh Tryz.call34 (hx) (.inl rfl)) ?_)))))))))))))
     rintro _ _ ⟨_,⟨rfl,rfl⟩,rfl⟩
     refine on J (oP J (zao J J (by unfold maxLen;(try simp only[ByteArray.size_append]);(try simp only[ByteArray.size_append]);have kz:=catz;omega)) (oP rfl (zao rfl rfl (by unfold maxLen;(try simp only[ByteArray.size_append]);(try simp only[ByteArray.size_append]);have kz:=catz;omega)) (oR 1 rfl (oZ rfl (jk [2] rfl (zo rfl (pn rfl ?_)))))))
     exact zi Tryz.results101 (.cons (zt (zl J) (Cv.eq (congrArg D.s (show ((((text++(⟨#[40]⟩:ByteArray))++((digB n)++(⟨#[44]⟩:ByteArray)))++ta)++(⟨#[41]⟩:ByteArray))=aggP text n mode names ta from(by unfold aggP aggA;rw[if_pos (by simpa using hc4),if_pos (by simpa using hc2)]))))) .nil) rfl (HSub.fst 1 rfl) ⟨rfl,rfl⟩
   · skip
     refine zp J (zn (jT J (oR 1 J (oP J (zc J zbR J) (oP J (zc J zaI J) (oP J (ze J (i:=0) J Tryz.isAgg25 J) (oP J (zA (k:=0) J J Tryz.runUnderlying25 Tryz.sizeOf27 (by first | rfl | omega) rfl) (oP rfl (zau (d:=.agg [.s xa,.s xb,dI xc,dI xd,.sh 1 (xe.map D.s),.sh 3 (xf.map MatD.d),.sh 7 (Nd.ds xg)]) rfl Tryz.isAgg27 Tryz.sizeOf27 rfl rfl) (OpsD.subH (HSub.perm (zd (i:=1) rfl)) (on rfl (oE rfl (zk [HPow] [.bx g1 122 (.agg [.s (⟨#[97,103,103]⟩:ByteArray),.s text,dN n,dI mode,.sh 1 (names.map D.s),.sh 3 (ms.map MatD.d),.sh 7 [.agg [.s xa,.s xb,dI xc,dI xd,.sh 1 (xe.map D.s),.sh 3 (xf.map MatD.d),.sh 7 (Nd.ds xg)]]])] [] rfl rfl (.cons ArgC.id .nil) zh Tryz.call34 (hx) (.inl rfl)) ?_)))))))))))
     rintro _ _ ⟨_,⟨rfl,rfl⟩,rfl⟩
     refine on J (oP J (zao J J (by unfold maxLen;(try simp only[ByteArray.size_append]);(try simp only[ByteArray.size_append]);have kz:=catz;omega)) (oP rfl (zao rfl rfl (by unfold maxLen;(try simp only[ByteArray.size_append]);(try simp only[ByteArray.size_append]);have kz:=catz;omega)) (oR 1 rfl (oZ rfl (jk [2] rfl (zo rfl (pn rfl ?_)))))))
     exact zi Tryz.results101 (.cons (zt (zl J) (Cv.eq (congrArg D.s (show (((text++(⟨#[40]⟩:ByteArray))++ta)++(⟨#[41]⟩:ByteArray))=aggP text n mode names ta from(by unfold aggP aggA;rw[if_neg (by simpa using hc4),if_pos (by simpa using hc2)]))))) .nil) rfl (HSub.fst 1 rfl) ⟨rfl,rfl⟩
theorem seltext_c (text:ByteArray) (n:Nat) (mode:Int) (names:List ByteArray) (ms:List MatD) (h1:n≤1000000000000) (hw:wtOf text names ms≤10000000) (hm:∀ m∈ms,1≤m.op∧m.op≤4):
 CD Tryz.prog 102 [HPow] [.agg [.s (⟨#[115,101,108]⟩:ByteArray),.s text,dN n,dI mode,.sh 1 (names.map D.s),.sh 3 (ms.map MatD.d),.sh 7 []]] (PrT (selP text n ms)):=by
 refine zq Tryz.func102 J (N:=60) J J (fun C=>?_)
 refine jk [0] J ?_
 refine JD.bd 0 J (fun bd0=>?_)
 have hwt:=hw
 unfold wtOf at hwt
 have ea:=selA_sz text ms
 refine jT J (oE J (zaD J (CellD.agg)) ?_)
 rintro _ _ ⟨g1,rfl,rfl⟩
 refine oR 1 J (oZ J (jT J (oP J (zc J zdx J) (oP J (zc J zad J) (oP J (ze J (i:=0) J Tryz.isAgg9 J) (oR 1 J (oZ J (jS J (jS J (jk [1,2,3] J ?_))))))))))
 refine zac 18 ((decide (text=ByteArray.empty)||decide ((0:Int)<((ms.length:Nat):Int)))) [.bx g1 126 (.agg [.s (⟨#[115,101,108]⟩:ByteArray),.s text,dN n,dI mode,.sh 1 (names.map D.s),.sh 3 (ms.map MatD.d),.sh 7 []]),HPow] (fun _ hQ2=>?_) ?_
 · skip
   by_cases hg3:text=ByteArray.empty
   · skip
     refine zf J (oR 1 J (oP J (zal J J (decide_eq_true hg3)) (oR 7 J (zr J ?_))))
     exact PD.sub ((18,dB (decide (text=ByteArray.empty)||decide ((0:Int)<((ms.length:Nat):Int))))::[(1,dP g1 0),(2,.v (.string ByteArray.empty)),(3,.s text)]) ⟨sc J (Cv.eq (congrArg (fun b=>D.v (.bool b)) (by first | (simp[hg3];done) | (simp_all;done) | (simp_all;exact Iff.rfl)))),sk rfl,sk rfl,sk rfl,trivial⟩ hQ2
   · skip
     refine zf J (oR 1 J (oP J (zal J J (decide_eq_false hg3)) (oR 1 J (oG J (zc J zdx J) (oG J (zc J zbx J) (oG J (ze J (i:=0) J Tryz.isAgg24 J) (oG J (zaB (n:=ms.length) J Tryz.runUnderlying24 (by simp only[lm,lc,ln])) (oG rfl (zbg rfl rfl rfl) (oR 1 rfl (zr rfl ?_))))))))))
     exact PD.sub ((18,dB (decide (text=ByteArray.empty)||decide ((0:Int)<((ms.length:Nat):Int))))::[(1,dP g1 0),(2,.v (.string ByteArray.empty)),(3,.s text)]) ⟨sc J (Cv.eq (congrArg (fun b=>D.v (.bool b)) (by first | (simp[hg3];done) | (simp_all;done) | (simp_all;exact Iff.rfl)))),sk rfl,sk rfl,sk rfl,trivial⟩ hQ2
 · skip
   refine zn ?_
   refine jC J (fun hc4=>?_) (fun hc4=>?_)
   · simp only[bA,bB,bC,bD,bE,bF,bG,bH,bI,bJ] at hc4
     refine jT J (oR 1 J (oZ J (jS J (jT J (oP J (zc J zdx J) (oP J (zc J zbx J) (oP J (ze J (i:=0) J Tryz.isAgg24 J) (oP J (zaB (n:=ms.length) J Tryz.runUnderlying24 (by simp only[lm,lc,ln])) (oR 1 rfl (oZ rfl (jB rfl (jl3 (fun (a_:Nat) (b_:Value) (c_:List ByteArray)=>[(1,dP g1 0),(2,.v (.string ByteArray.empty)),(3,.s text),(21,.sh 3 (ms.map MatD.d)),(22,dN ms.length),(23,dN a_),(4,.ov b_)]) (fun a_ b_ c_=>[.sl b_ 1 9 (c_.map D.s),.bx g1 126 (.agg [.s (⟨#[115,101,108]⟩:ByteArray),.s text,dN n,dI mode,.sh 1 (names.map D.s),.sh 3 (ms.map MatD.d),.sh 7 []]),HPow]) (fun a_ b_ c_=>(c_=(ms.take a_).map matP)∧(c_.length≤a_)∧(a_≤ms.length)) (fun a_ b_ c_=>ms.length-a_) 0 (.slice none 0 0) [] rfl ⟨sk rfl,sk rfl,sk rfl,sk rfl,sk rfl,sk rfl,sc rfl (Cv.ov rfl),trivial⟩ (HSub.nil 1 9) ⟨rfl,Nat.le_refl _,Nat.zero_le _⟩ ?_))))))))))))
     rintro k ov o ⟨ho,hol,hkl⟩
     refine ja J (jn J ?_)
     have hso:=matP_take ms k;rw[←ho] at hso
     refine jT J (oP J (za2 J J J) (oZ J (jS J ?_)))
     refine jD J (fun hc5=>?_) (fun hc5=>?_)
     · skip
       refine zp J (zn (jS J (jB J (jT J ?_))))
       obtain ⟨x1,hx1⟩:=zak ms k (by omega)
       have hmk:=hm x1 (List.mem_of_getElem? hx1)
       have hq4:=quoteB_4 x1.v
       have hsm:=matP_mem (List.mem_of_getElem? hx1)
       have hsg:=matP_eq x1
       refine oP J (zA (k:=k) J J Tryz.runUnderlying24 Tryz.sizeOf65 (by first | rfl | omega) (zap hx1)) (oP rfl (zau (d:=MatD.d x1) rfl Tryz.isAgg65 Tryz.sizeOf65 rfl rfl) (oE rfl (zw (zv:=(.agg #[(.string ByteArray.empty),(.int .i64 0),(.string ByteArray.empty)])) Tryz.zeroValue65 ⟨rfl,rfl,rfl,trivial⟩ (Cv.vagg (by decide))) ?_))
       rintro _ _ ⟨g6,rfl,rfl⟩
       refine oE J (zg (i:=0) (X':=MatD.d x1) J J J (CellD.agg) Tryz.sizeOf65 J J J) ?_
       rintro _ _ ⟨rfl,rfl⟩
       refine on J (oZ J (jk [1,2,3,4,6,21,22,23,24,25,26] J (jn J ?_)))
       refine za4 12 [(27,.ov ov,none),(28,dP g6 0,none),(29,.s x1.n,none),(30,dP g6 1,none),(31,dI x1.op,none),(32,.s (zb7 x1.op),none),(33,.s (x1.n++(zb7 x1.op)),none),(34,dP g6 2,none),(35,.s x1.v,none),(36,.s (zaO x1.v),none),(37,.s ((x1.n++(zb7 x1.op))++(zaO x1.v)),none),(38,.sh 1 ([((x1.n++(zb7 x1.op))++(zaO x1.v))].map D.s),none)] [.bx g6 65 (MatD.d x1),.sl ov 1 9 (o.map D.s),.bx g1 126 (.agg [.s (⟨#[115,101,108]⟩:ByteArray),.s text,dN n,dI mode,.sh 1 (names.map D.s),.sh 3 (ms.map MatD.d),.sh 7 []]),HPow] (Hn:=[.bx g6 65 (MatD.d x1),.sl ov 1 9 (o.map D.s),.bx g1 126 (.agg [.s (⟨#[115,101,108]⟩:ByteArray),.s text,dN n,dI mode,.sh 1 (names.map D.s),.sh 3 (ms.map MatD.d),.sh 7 []]),HPow]) mixed J J J J HSub.rfl' J ⟨sa_p J J J (z7 J),sa_p J J J (zc J zeT J),sa_p J J J (ze J (i:=0) J Tryz.isAgg9 J),sa_p J J J (zc J zdC J),sa_p J J J (ze J (i:=0) J Tryz.isAgg3 J),sa_q J J J (zcS J (.cons Cv.rfl' .nil) Tryz.call147 (signp_c x1.op hmk) zbV),sa_p J J J (zao J J (by unfold maxLen;(try simp only[ByteArray.size_append]);(try (have ej:=za0 (sep:=(⟨#[44]⟩:ByteArray)) rfl o));(try simp only[ByteArray.size_append]);have kz:=catz;omega)),sa_p rfl rfl rfl (zc rfl zeS rfl),sa_p rfl rfl rfl (ze rfl (i:=0) rfl Tryz.isAgg9 rfl),sa_q rfl rfl rfl (zcS rfl (.cons Cv.rfl' .nil) Tryz.call148 (Quote_c x1.v (by omega)) zbV),sa_p rfl rfl rfl (zao rfl rfl (by unfold maxLen;(try simp only[ByteArray.size_append]);(try (have ej:=za0 (sep:=(⟨#[44]⟩:ByteArray)) rfl o));(try simp only[ByteArray.size_append]);have kz:=catz;omega)),sa_q rfl rfl rfl (zy [.tmp 37] rfl rfl (.cons CellD.s .nil) rfl Tryz.runUnderlying23 Tryz.sizeOf9 Tryz.zeroValue9 rfl rfl rfl rfl),trivial⟩ ?_
       refine ok [1,2,3,4,6,21,22,23,24,25,26,27,28,29,30,31,32,33,34,35,36,37,38] J (oE J (zan (f:=D.s) (l:=o) (l':=[((x1.n++(zb7 x1.op))++(zaO x1.v))]) (i:=1) J J J (SrcD.sh) und_23 infz_9 J J (by unfold maxLen;(try simp only[la,lc,ln,lm,lt',ld,ls,lr]);omega) (by (try simp only[la,lc,ln,lm,lt',ld,ls,lr]);omega)) ?_)
       rintro _ _ ⟨v7,rfl,rfl⟩
       refine on J (oR 1 J (zr J (zE (zn (zf J (oP J (zbI (c:=((k+1:Nat):Int)) J J (zaL (by omega) (by omega))) (oR 1 rfl (zr rfl (PD.subH (HSub.perm (zd (i:=3) rfl)) (pn rfl (PD.subH (HSub.perm (zd (i:=3) rfl)) (pn rfl (PD.subH (HSub.perm (zd (i:=3) rfl)) (pn rfl (PD.subH (HSub.fst 3 rfl) (pn rfl ?_))))))))))))))))
       exact pl3 (k+1) v7 (o++[((x1.n++(zb7 x1.op))++(zaO x1.v))]) (sa J) HSub.rfl' ⟨by rw[zcL hx1,List.map_append,ho];rfl,by rw[List.length_append,List.length_singleton];omega,by omega⟩ (by omega)
     · skip
       refine zat J (zL (zH (zD (zn (zf J (oR 2 J (oE J (zk [] _ [.sl ov 1 9 (o.map D.s)] J J (.cons (ArgC.own (j:=0) J J) (.cons (ArgC.cv (Cv.str (by first | decide | (unfold maxLen;omega)))) .nil)) (lend_cons (j:=0) rfl zh) Tryz.call149 (Join_c o (⟨#[44]⟩:ByteArray) (by omega) (by omega) (by first | decide | omega) (by first | decide | omega)) (.inr (isR_flat rfl))) ?_)))))))
       rintro _ _ ⟨_,⟨rfl,rfl⟩,rfl⟩
       refine on J (oP J (zao J J (by unfold maxLen;(try simp only[ByteArray.size_append]);(try (have ej:=za0 (sep:=(⟨#[44]⟩:ByteArray)) rfl o));(try simp only[ByteArray.size_append]);have kz:=catz;omega)) (oP rfl (zao rfl rfl (by unfold maxLen;(try simp only[ByteArray.size_append]);(try (have ej:=za0 (sep:=(⟨#[44]⟩:ByteArray)) rfl o));(try simp only[ByteArray.size_append]);have kz:=catz;omega)) (oP rfl (zao rfl rfl (by unfold maxLen;(try simp only[ByteArray.size_append]);(try (have ej:=za0 (sep:=(⟨#[44]⟩:ByteArray)) rfl o));(try simp only[ByteArray.size_append]);have kz:=catz;omega)) (oR 1 rfl (oZ rfl (jk [1,2,3] rfl (jS rfl (jT rfl (oP rfl (zc rfl zdx rfl) (oP rfl (zc rfl zaq rfl) (oP rfl (ze rfl (i:=1) rfl Tryz.isAgg3 rfl) (oP rfl (zbg rfl rfl rfl) (oZ rfl ?_)))))))))))))
       refine jD J (fun hc8=>?_) (fun hc8=>?_)
       · skip
         refine zf J (oR 1 J (oP J (zc J zdx J) (oP J (zc J zaq J) (oP J (ze J (i:=1) J Tryz.isAgg3 J) ?_))))
         have hdz:=zbc h1
         refine OpsD.subH (HSub.perm (zd (i:=2) J)) (on J (oE J (zk [HPow] [.sl ov 1 9 (o.map D.s),.bx g1 126 (.agg [.s (⟨#[115,101,108]⟩:ByteArray),.s text,dN n,dI mode,.sh 1 (names.map D.s),.sh 3 (ms.map MatD.d),.sh 7 []])] [] J J (.cons ArgC.id .nil) zh Tryz.call97 (zej n (by omega)) (.inl rfl)) ?_))
         rintro _ _ ⟨_,⟨rfl,rfl⟩,rfl⟩
         refine on J (oP J (zao J J (by unfold maxLen;(try simp only[ByteArray.size_append]);(try (have ej:=za0 (sep:=(⟨#[44]⟩:ByteArray)) rfl o));(try simp only[ByteArray.size_append]);have kz:=catz;omega)) (oP rfl (zao rfl rfl (by unfold maxLen;(try simp only[ByteArray.size_append]);(try (have ej:=za0 (sep:=(⟨#[44]⟩:ByteArray)) rfl o));(try simp only[ByteArray.size_append]);have kz:=catz;omega)) (oP rfl (zao rfl rfl (by unfold maxLen;(try simp only[ByteArray.size_append]);(try (have ej:=za0 (sep:=(⟨#[44]⟩:ByteArray)) rfl o));(try simp only[ByteArray.size_append]);have kz:=catz;omega)) (oR 1 rfl (oZ rfl (jk [2,3] rfl (jT rfl (oR 2 rfl (oZ rfl (zo rfl (pn rfl ?_)))))))))))
         exact zi Tryz.results102 (.cons (zt (zl rfl) (Cv.eq (congrArg D.s (show ((text++(((⟨#[123]⟩:ByteArray)++(zce (⟨#[44]⟩:ByteArray) o))++(⟨#[125]⟩:ByteArray)))++(((⟨#[91]⟩:ByteArray)++(digB n))++(⟨#[115,93]⟩:ByteArray)))=selP text n ms from(by unfold selP selA;rw[if_pos (by have:=hc8;omega),if_pos (by have h:=hc4;rcases h with h | h;exact .inl h;exact .inr (by omega))];rw[ho,List.take_of_length_le (by omega)]))))) .nil) rfl (HSub.fst 1 rfl) ⟨rfl,rfl⟩
       · skip
         refine zp J (zn (jT J (oR 2 J (oZ J (zo J (PD.subH (HSub.perm (zd (i:=2) J)) (pn J (pn J ?_))))))))
         exact zi Tryz.results102 (.cons (zt (zl rfl) (Cv.eq (congrArg D.s (show (text++(((⟨#[123]⟩:ByteArray)++(zce (⟨#[44]⟩:ByteArray) o))++(⟨#[125]⟩:ByteArray)))=selP text n ms from(by unfold selP selA;rw[if_neg (by have:=hc8;omega),if_pos (by have h:=hc4;rcases h with h | h;exact .inl h;exact .inr (by omega))];rw[ho,List.take_of_length_le (by omega)]))))) .nil) rfl (HSub.fst 1 rfl) ⟨rfl,rfl⟩
   · simp only[bA,bB,bC,bD,bE,bF,bG,bH,bI,bJ] at hc4
     refine zp J (zn (jS J (jT J (oP J (zc J zdx J) (oP J (zc J zaq J) (oP J (ze J (i:=0) J Tryz.isAgg3 J) (oP J (zbg J J J) (oZ J ?_))))))))
     refine jD J (fun hc9=>?_) (fun hc9=>?_)
     · skip
       refine zf J (oR 1 J (oP J (zc J zdx J) (oP J (zc J zaq J) (oP J (ze J (i:=0) J Tryz.isAgg3 J) ?_))))
       have hdz:=zbc h1
       refine OpsD.subH (HSub.perm (zd (i:=1) J)) (on J (oE J (zk [HPow] [.bx g1 126 (.agg [.s (⟨#[115,101,108]⟩:ByteArray),.s text,dN n,dI mode,.sh 1 (names.map D.s),.sh 3 (ms.map MatD.d),.sh 7 []])] [] J J (.cons ArgC.id .nil) zh Tryz.call97 (zej n (by omega)) (.inl rfl)) ?_))
       rintro _ _ ⟨_,⟨rfl,rfl⟩,rfl⟩
       refine on J (oP J (zao J J (by unfold maxLen;(try simp only[ByteArray.size_append]);(try (have ej:=za0 (sep:=(⟨#[44]⟩:ByteArray)) rfl o));(try simp only[ByteArray.size_append]);have kz:=catz;omega)) (oP rfl (zao rfl rfl (by unfold maxLen;(try simp only[ByteArray.size_append]);(try (have ej:=za0 (sep:=(⟨#[44]⟩:ByteArray)) rfl o));(try simp only[ByteArray.size_append]);have kz:=catz;omega)) (oP rfl (zao rfl rfl (by unfold maxLen;(try simp only[ByteArray.size_append]);(try (have ej:=za0 (sep:=(⟨#[44]⟩:ByteArray)) rfl o));(try simp only[ByteArray.size_append]);have kz:=catz;omega)) (oR 1 rfl (oZ rfl (jk [2,3] rfl (jT rfl (oR 2 rfl (oZ rfl (zo rfl (pn rfl ?_)))))))))))
       exact zi Tryz.results102 (.cons (zt (zl rfl) (Cv.eq (congrArg D.s (show (text++(((⟨#[91]⟩:ByteArray)++(digB n))++(⟨#[115,93]⟩:ByteArray)))=selP text n ms from(by unfold selP selA;rw[if_pos (by have:=hc9;omega),if_neg (by have h:=hc4;rintro (k | k);exact h.1 k;(have:=h.2;omega))]))))) .nil) rfl (HSub.fst 1 rfl) ⟨rfl,rfl⟩
     · skip
       refine zp J (zn (jT J (oR 2 J (oZ J (zo J (PD.subH (HSub.perm (zd (i:=1) J)) (pn J (pn J ?_))))))))
       exact zi Tryz.results102 (.cons (zt (zl rfl) (Cv.eq (congrArg D.s (show text=selP text n ms from(by unfold selP selA;rw[if_neg (by have:=hc9;omega),if_neg (by have h:=hc4;rintro (k | k);exact h.1 k;(have:=h.2;omega))]))))) .nil) rfl (HSub.fst 1 rfl) ⟨rfl,rfl⟩
theorem node_num (text:ByteArray) (n:Nat) (mode:Int) (names:List ByteArray) (ms:List MatD) (h1:n≤1000000000000):
 CD Tryz.prog 34 [HPow] [.agg [.s (⟨#[110,117,109]⟩:ByteArray),.s text,dN n,dI mode,.sh 1 (names.map D.s),.sh 3 (ms.map MatD.d),.sh 7 []]] (PrT (digB n)):=by
 refine zq Tryz.func34 J (N:=79) J J (fun C=>?_)
 refine jk [0] J ?_
 refine JD.bd 0 J (fun bd0=>?_)
 refine jT J (oE J (zaD J (CellD.agg)) ?_)
 rintro _ _ ⟨g1,rfl,rfl⟩
 refine oR 1 J (oZ J (jT J (oP J (zx (d:=.agg [.s (⟨#[110,117,109]⟩:ByteArray),.s text,dN n,dI mode,.sh 1 (names.map D.s),.sh 3 (ms.map MatD.d),.sh 7 []]) J (i:=0) J Tryz.isAgg27 Tryz.sizeOf27 J J) (oE J (zk [] [.bx g1 27 (.agg [.s (⟨#[110,117,109]⟩:ByteArray),.s text,dN n,dI mode,.sh 1 (names.map D.s),.sh 3 (ms.map MatD.d),.sh 7 []]),HPow] [] J J (.cons ArgC.id .nil) zh Tryz.call98 (lift_num text n mode names ms) (.inl J)) ?_))))
 rintro _ _ ⟨_,⟨rfl,rfl⟩,rfl⟩
 refine on J (oR 1 J (oZ J (jS J (jT J (oR 1 J (oP J (zbn J (fun _ _=>by kernel_rfl)) (oR 3 rfl (oE rfl (zw (zv:=(.agg #[(.int .i64 0)])) Tryz.zeroValue113 ⟨rfl,trivial⟩ (Cv.vagg (by decide))) ?_))))))))
 rintro _ _ ⟨g2,rfl,rfl⟩
 refine oE J (zg (i:=0) (X':=.agg [dN n]) J J J (CellD.agg) Tryz.sizeOf113 J J J) ?_
 rintro _ _ ⟨rfl,rfl⟩
 refine on J (oR 1 J (oZ J (jk [2,3,4,5] J (jT J (oR 1 J (oZ J (jCt J (jT J (oP J (zc J fa_113_0 J) (oP J (ze J (i:=0) J Tryz.isAgg3 J) ?_))))))))))
 have hdz:=zbc h1
 refine OpsD.subH (HSub.perm (zd (i:=2) J)) (on J (oE J (zk [HPow] [.bx g2 113 (.agg [dN n]),.bx g1 27 (.agg [.s (⟨#[110,117,109]⟩:ByteArray),.s text,dN n,dI mode,.sh 1 (names.map D.s),.sh 3 (ms.map MatD.d),.sh 7 []])] [] J J (.cons ArgC.id .nil) zh Tryz.call97 (zej n (by omega)) (.inl rfl)) ?_))
 rintro _ _ ⟨_,⟨rfl,rfl⟩,rfl⟩
 refine on J (oR 1 J (oZ J (zo J (zj (pn J ?_)))))
 exact zi Tryz.results34 (.cons (zt (zl J) (Cv.eq (congrArg D.s (show (digB n)=digB n from(by rfl))))) .nil) rfl (HSub.fst 1 rfl) ⟨rfl,rfl⟩
theorem node_neg (text:ByteArray) (n:Nat) (mode:Int) (names:List ByteArray) (ms:List MatD) (xa xb:ByteArray) (xc xd:Int) (xe:List ByteArray) (xf:List MatD) (xg:List Nd) (ta:ByteArray) (hxt:ta.size≤10000000) (hx:CD Tryz.prog 99 [HPow] [.agg [.s xa,.s xb,dI xc,dI xd,.sh 1 (xe.map D.s),.sh 3 (xf.map MatD.d),.sh 7 (Nd.ds xg)]] (PrT ta)):
 CD Tryz.prog 34 [HPow] [.agg [.s (⟨#[110,101,103]⟩:ByteArray),.s text,dN n,dI mode,.sh 1 (names.map D.s),.sh 3 (ms.map MatD.d),.sh 7 [.agg [.s xa,.s xb,dI xc,dI xd,.sh 1 (xe.map D.s),.sh 3 (xf.map MatD.d),.sh 7 (Nd.ds xg)]]]] (PrT (zaz++ta)):=by
 refine zq Tryz.func34 J (N:=79) J J (fun C=>?_)
 refine jk [0] J ?_
 refine JD.bd 0 J (fun bd0=>?_)
 refine jT J (oE J (zaD J (CellD.agg)) ?_)
 rintro _ _ ⟨g1,rfl,rfl⟩
 refine oR 1 J (oZ J (jT J (oP J (zx (d:=.agg [.s (⟨#[110,101,103]⟩:ByteArray),.s text,dN n,dI mode,.sh 1 (names.map D.s),.sh 3 (ms.map MatD.d),.sh 7 [.agg [.s xa,.s xb,dI xc,dI xd,.sh 1 (xe.map D.s),.sh 3 (xf.map MatD.d),.sh 7 (Nd.ds xg)]]]) J (i:=0) J Tryz.isAgg27 Tryz.sizeOf27 J J) (oE J (zk [] [.bx g1 27 (.agg [.s (⟨#[110,101,103]⟩:ByteArray),.s text,dN n,dI mode,.sh 1 (names.map D.s),.sh 3 (ms.map MatD.d),.sh 7 [.agg [.s xa,.s xb,dI xc,dI xd,.sh 1 (xe.map D.s),.sh 3 (xf.map MatD.d),.sh 7 (Nd.ds xg)]]]),HPow] [] J J (.cons ArgC.id .nil) zh Tryz.call98 (lift_neg text n mode names ms xa xb xc xd xe xf xg) (.inl J)) ?_))))
 rintro _ _ ⟨_,⟨rfl,rfl⟩,rfl⟩
 refine on J (oR 1 J (oZ J (jS J (jT J (oR 1 J (oP J ((zO (zv:=(.agg #[(.int .i64 0)])) J (fun _ _=>by kernel_rfl)).cv (Cv.tup (.cons (Cv.vagg (by decide)) (.cons Cv.rfl' .nil)))) (oR 3 rfl (oE rfl (zw (zv:=(.agg #[(.int .i64 0)])) Tryz.zeroValue113 ⟨rfl,trivial⟩ (Cv.vagg (by decide))) ?_))))))))
 rintro _ _ ⟨g2,rfl,rfl⟩
 refine oE J (zg (i:=0) (X':=.agg [dI 0]) J J J (CellD.agg) Tryz.sizeOf113 J J J) ?_
 rintro _ _ ⟨rfl,rfl⟩
 refine on J (oR 1 J (oZ J (jk [2,3,4,5] J (jT J (oR 1 J (oZ J (jCf J (zp J (zn (jS J (jT J (oR 1 J (oP J (zbn J (fun _ _=>by kernel_rfl)) (oR 3 rfl (oE rfl (zw (zv:=(.agg #[(.string ByteArray.empty),(.string ByteArray.empty),(.int .i64 0),(.int .i64 0),(.slice none 0 0),(.slice none 0 0),(.slice none 0 0)])) Tryz.zeroValue116 ⟨rfl,rfl,rfl,rfl,rfl,rfl,rfl,trivial⟩ (Cv.vagg (by decide))) ?_)))))))))))))))
 rintro _ _ ⟨g3,rfl,rfl⟩
 refine oE J (zg (i:=0) (X':=.agg [.s xa,.s xb,dI xc,dI xd,.sh 1 (xe.map D.s),.sh 3 (xf.map MatD.d),.sh 7 (Nd.ds xg)]) J J J (CellD.agg) Tryz.sizeOf116 J J J) ?_
 rintro _ _ ⟨rfl,rfl⟩
 refine on J (oR 1 J (oZ J (jT J (oR 1 J (oZ J (jk [2,3,6,32] J (jCt J (jT J (oP J (zc J fa_116_0 J) (oP J (zx (d:=.agg [.s xa,.s xb,dI xc,dI xd,.sh 1 (xe.map D.s),.sh 3 (xf.map MatD.d),.sh 7 (Nd.ds xg)]) J (i:=0) J Tryz.isAgg27 Tryz.sizeOf27 J J) (OpsD.subH (HSub.perm (zd (i:=3) J)) (on J (oE J (zk [HPow] [.bx g3 116 (.agg [.s xa,.s xb,dI xc,dI xd,.sh 1 (xe.map D.s),.sh 3 (xf.map MatD.d),.sh 7 (Nd.ds xg)]),.bx g2 113 (.agg [dI 0]),.bx g1 27 (.agg [.s (⟨#[110,101,103]⟩:ByteArray),.s text,dN n,dI mode,.sh 1 (names.map D.s),.sh 3 (ms.map MatD.d),.sh 7 [.agg [.s xa,.s xb,dI xc,dI xd,.sh 1 (xe.map D.s),.sh 3 (xf.map MatD.d),.sh 7 (Nd.ds xg)]]])] [] J J (.cons ArgC.id .nil) zh Tryz.call99 (hx) (.inl J)) ?_)))))))))))))
 rintro _ _ ⟨_,⟨rfl,rfl⟩,rfl⟩
 refine on J (oP J (zao J J (by unfold maxLen;(try simp only[ByteArray.size_append]);(try simp only[ByteArray.size_append]);have kz:=catz;omega)) (oR 1 rfl (oZ rfl (zo rfl (zj (pn rfl ?_))))))
 exact zi Tryz.results34 (.cons (zt (zl J) (Cv.eq (congrArg D.s (show ((⟨#[45]⟩:ByteArray)++ta)=zaz++ta from(by rfl))))) .nil) rfl (HSub.fst 1 rfl) ⟨rfl,rfl⟩
theorem node_bin (text:ByteArray) (n:Nat) (mode:Int) (names:List ByteArray) (ms:List MatD) (xa xb:ByteArray) (xc xd:Int) (xe:List ByteArray) (xf:List MatD) (xg:List Nd) (ya yb:ByteArray) (yc yd:Int) (ye:List ByteArray) (yf:List MatD) (yg:List Nd) (ta tb:ByteArray) (hw:wtOf text names ms≤10000000) (hxt:ta.size≤10000000) (hx:CD Tryz.prog 99 [HPow] [.agg [.s xa,.s xb,dI xc,dI xd,.sh 1 (xe.map D.s),.sh 3 (xf.map MatD.d),.sh 7 (Nd.ds xg)]] (PrT ta)) (hyt:tb.size≤10000000) (hy:CD Tryz.prog 99 [HPow] [.agg [.s ya,.s yb,dI yc,dI yd,.sh 1 (ye.map D.s),.sh 3 (yf.map MatD.d),.sh 7 (Nd.ds yg)]] (PrT tb)):
 CD Tryz.prog 34 [HPow] [.agg [.s (⟨#[98,105,110]⟩:ByteArray),.s text,dN n,dI mode,.sh 1 (names.map D.s),.sh 3 (ms.map MatD.d),.sh 7 [.agg [.s xa,.s xb,dI xc,dI xd,.sh 1 (xe.map D.s),.sh 3 (xf.map MatD.d),.sh 7 (Nd.ds xg)],.agg [.s ya,.s yb,dI yc,dI yd,.sh 1 (ye.map D.s),.sh 3 (yf.map MatD.d),.sh 7 (Nd.ds yg)]]]] (PrT (binP text mode names ta tb)):=by
 refine zq Tryz.func34 J (N:=79) J J (fun C=>?_)
 refine jk [0] J ?_
 refine JD.bd 0 J (fun bd0=>?_)
 refine jT J (oE J (zaD J (CellD.agg)) ?_)
 rintro _ _ ⟨g1,rfl,rfl⟩
 refine oR 1 J (oZ J (jT J (oP J (zx (d:=.agg [.s (⟨#[98,105,110]⟩:ByteArray),.s text,dN n,dI mode,.sh 1 (names.map D.s),.sh 3 (ms.map MatD.d),.sh 7 [.agg [.s xa,.s xb,dI xc,dI xd,.sh 1 (xe.map D.s),.sh 3 (xf.map MatD.d),.sh 7 (Nd.ds xg)],.agg [.s ya,.s yb,dI yc,dI yd,.sh 1 (ye.map D.s),.sh 3 (yf.map MatD.d),.sh 7 (Nd.ds yg)]]]) J (i:=0) J Tryz.isAgg27 Tryz.sizeOf27 J J) (oE J (zk [] [.bx g1 27 (.agg [.s (⟨#[98,105,110]⟩:ByteArray),.s text,dN n,dI mode,.sh 1 (names.map D.s),.sh 3 (ms.map MatD.d),.sh 7 [.agg [.s xa,.s xb,dI xc,dI xd,.sh 1 (xe.map D.s),.sh 3 (xf.map MatD.d),.sh 7 (Nd.ds xg)],.agg [.s ya,.s yb,dI yc,dI yd,.sh 1 (ye.map D.s),.sh 3 (yf.map MatD.d),.sh 7 (Nd.ds yg)]]]),HPow] [] J J (.cons ArgC.id .nil) zh Tryz.call98 (lift_bin text n mode names ms xa xb xc xd xe xf xg ya yb yc yd ye yf yg) (.inl J)) ?_))))
 rintro _ _ ⟨_,⟨rfl,rfl⟩,rfl⟩
 refine on J (oR 1 J (oZ J (jS J (jT J (oR 1 J (oP J ((zO (zv:=(.agg #[(.int .i64 0)])) J (fun _ _=>by kernel_rfl)).cv (Cv.tup (.cons (Cv.vagg (by decide)) (.cons Cv.rfl' .nil)))) (oR 3 rfl (oE rfl (zw (zv:=(.agg #[(.int .i64 0)])) Tryz.zeroValue113 ⟨rfl,trivial⟩ (Cv.vagg (by decide))) ?_))))))))
 rintro _ _ ⟨g2,rfl,rfl⟩
 refine oE J (zg (i:=0) (X':=.agg [dI 0]) J J J (CellD.agg) Tryz.sizeOf113 J J J) ?_
 rintro _ _ ⟨rfl,rfl⟩
 refine on J (oR 1 J (oZ J (jk [2,3,4,5] J (jT J (oR 1 J (oZ J (jCf J (zp J (zn (jS J (jT J (oR 1 J (oP J ((zO (zv:=(.agg #[(.string ByteArray.empty),(.string ByteArray.empty),(.int .i64 0),(.int .i64 0),(.slice none 0 0),(.slice none 0 0),(.slice none 0 0)])) J (fun _ _=>by kernel_rfl)).cv (Cv.tup (.cons (Cv.vagg (by decide)) (.cons Cv.rfl' .nil)))) (oR 3 rfl (oE rfl (zw (zv:=(.agg #[(.string ByteArray.empty),(.string ByteArray.empty),(.int .i64 0),(.int .i64 0),(.slice none 0 0),(.slice none 0 0),(.slice none 0 0)])) Tryz.zeroValue116 ⟨rfl,rfl,rfl,rfl,rfl,rfl,rfl,trivial⟩ (Cv.vagg (by decide))) ?_)))))))))))))))
 rintro _ _ ⟨g3,rfl,rfl⟩
 refine oE J (zg (i:=0) (X':=.agg [.v (.string ByteArray.empty),.v (.string ByteArray.empty),dI 0,dI 0,dZ,dZ,dZ]) J J J (CellD.agg) Tryz.sizeOf116 J J J) ?_
 rintro _ _ ⟨rfl,rfl⟩
 refine on J (oR 1 J (oZ J (jT J (oR 1 J (oZ J (jk [2,3,6,32] J (jCf J (zp J (zn (jS J (jT J (oR 1 J (oP J (zbn J (fun _ _=>by kernel_rfl)) (oR 3 rfl (oE rfl (zw (zv:=(.agg #[(.string ByteArray.empty),(.string ByteArray.empty),(.int .i64 0),(.int .i64 0),(.slice none 0 0),(.slice none 0 0),(.slice none 0 0)])) Tryz.zeroValue119 ⟨rfl,rfl,rfl,rfl,rfl,rfl,rfl,trivial⟩ (Cv.vagg (by decide))) ?_)))))))))))))))
 rintro _ _ ⟨g4,rfl,rfl⟩
 refine oE J (zg (i:=0) (X':=.agg [.s (⟨#[98,105,110]⟩:ByteArray),.s text,dN n,dI mode,.sh 1 (names.map D.s),.sh 3 (ms.map MatD.d),.sh 7 [.agg [.s xa,.s xb,dI xc,dI xd,.sh 1 (xe.map D.s),.sh 3 (xf.map MatD.d),.sh 7 (Nd.ds xg)],.agg [.s ya,.s yb,dI yc,dI yd,.sh 1 (ye.map D.s),.sh 3 (yf.map MatD.d),.sh 7 (Nd.ds yg)]]]) J J J (CellD.agg) Tryz.sizeOf119 J J J) ?_
 rintro _ _ ⟨rfl,rfl⟩
 refine on J (oR 1 J (oZ J (jT J (oR 1 J (oZ J (jCt J (jT J (oP J (zx (d:=.agg [.s (⟨#[98,105,110]⟩:ByteArray),.s text,dN n,dI mode,.sh 1 (names.map D.s),.sh 3 (ms.map MatD.d),.sh 7 [.agg [.s xa,.s xb,dI xc,dI xd,.sh 1 (xe.map D.s),.sh 3 (xf.map MatD.d),.sh 7 (Nd.ds xg)],.agg [.s ya,.s yb,dI yc,dI yd,.sh 1 (ye.map D.s),.sh 3 (yf.map MatD.d),.sh 7 (Nd.ds yg)]]]) J (i:=0) J Tryz.isAgg119 Tryz.sizeOf119 J J) (OpsD.subH (HSub.perm (zd (i:=4) J)) (on J ?_))))))))))
 refine oE J (zk [HPow] [.bx g4 119 (.agg [.s (⟨#[98,105,110]⟩:ByteArray),.s text,dN n,dI mode,.sh 1 (names.map D.s),.sh 3 (ms.map MatD.d),.sh 7 [.agg [.s xa,.s xb,dI xc,dI xd,.sh 1 (xe.map D.s),.sh 3 (xf.map MatD.d),.sh 7 (Nd.ds xg)],.agg [.s ya,.s yb,dI yc,dI yd,.sh 1 (ye.map D.s),.sh 3 (yf.map MatD.d),.sh 7 (Nd.ds yg)]]]),.bx g3 116 (.agg [.v (.string ByteArray.empty),.v (.string ByteArray.empty),dI 0,dI 0,dZ,dZ,dZ]),.bx g2 113 (.agg [dI 0]),.bx g1 27 (.agg [.s (⟨#[98,105,110]⟩:ByteArray),.s text,dN n,dI mode,.sh 1 (names.map D.s),.sh 3 (ms.map MatD.d),.sh 7 [.agg [.s xa,.s xb,dI xc,dI xd,.sh 1 (xe.map D.s),.sh 3 (xf.map MatD.d),.sh 7 (Nd.ds xg)],.agg [.s ya,.s yb,dI yc,dI yd,.sh 1 (ye.map D.s),.sh 3 (yf.map MatD.d),.sh 7 (Nd.ds yg)]]])] [] J J (.cons ArgC.id .nil) zh Tryz.call100 (bintext_c text n mode names ms xa xb xc xd xe xf xg ya yb yc yd ye yf yg ta tb hw hxt hx hyt hy) (.inl J)) ?_
 rintro _ _ ⟨_,⟨rfl,rfl⟩,rfl⟩
 refine on J (oR 1 J (oZ J (jk [2,3] J (zo J (zj (pn J ?_))))))
 exact zi Tryz.results34 (.cons (zt (zl J) (Cv.eq (congrArg D.s (show (binP text mode names ta tb)=binP text mode names ta tb from(by rfl))))) .nil) rfl (HSub.fst 1 rfl) ⟨rfl,rfl⟩
theorem node_agg (text:ByteArray) (n:Nat) (mode:Int) (names:List ByteArray) (ms:List MatD) (xa xb:ByteArray) (xc xd:Int) (xe:List ByteArray) (xf:List MatD) (xg:List Nd) (ta:ByteArray) (h1:n≤1000000000000) (hw:wtOf text names ms≤10000000) (hxt:ta.size≤10000000) (hx:CD Tryz.prog 34 [HPow] [.agg [.s xa,.s xb,dI xc,dI xd,.sh 1 (xe.map D.s),.sh 3 (xf.map MatD.d),.sh 7 (Nd.ds xg)]] (PrT ta)):
 CD Tryz.prog 34 [HPow] [.agg [.s (⟨#[97,103,103]⟩:ByteArray),.s text,dN n,dI mode,.sh 1 (names.map D.s),.sh 3 (ms.map MatD.d),.sh 7 [.agg [.s xa,.s xb,dI xc,dI xd,.sh 1 (xe.map D.s),.sh 3 (xf.map MatD.d),.sh 7 (Nd.ds xg)]]]] (PrT (aggP text n mode names ta)):=by
 refine zq Tryz.func34 J (N:=79) J J (fun C=>?_)
 refine jk [0] J ?_
 refine JD.bd 0 J (fun bd0=>?_)
 refine jT J (oE J (zaD J (CellD.agg)) ?_)
 rintro _ _ ⟨g1,rfl,rfl⟩
 refine oR 1 J (oZ J (jT J (oP J (zx (d:=.agg [.s (⟨#[97,103,103]⟩:ByteArray),.s text,dN n,dI mode,.sh 1 (names.map D.s),.sh 3 (ms.map MatD.d),.sh 7 [.agg [.s xa,.s xb,dI xc,dI xd,.sh 1 (xe.map D.s),.sh 3 (xf.map MatD.d),.sh 7 (Nd.ds xg)]]]) J (i:=0) J Tryz.isAgg27 Tryz.sizeOf27 J J) (oE J (zk [] [.bx g1 27 (.agg [.s (⟨#[97,103,103]⟩:ByteArray),.s text,dN n,dI mode,.sh 1 (names.map D.s),.sh 3 (ms.map MatD.d),.sh 7 [.agg [.s xa,.s xb,dI xc,dI xd,.sh 1 (xe.map D.s),.sh 3 (xf.map MatD.d),.sh 7 (Nd.ds xg)]]]),HPow] [] J J (.cons ArgC.id .nil) zh Tryz.call98 (lift_agg text n mode names ms xa xb xc xd xe xf xg) (.inl J)) ?_))))
 rintro _ _ ⟨_,⟨rfl,rfl⟩,rfl⟩
 refine on J (oR 1 J (oZ J (jS J (jT J (oR 1 J (oP J ((zO (zv:=(.agg #[(.int .i64 0)])) J (fun _ _=>by kernel_rfl)).cv (Cv.tup (.cons (Cv.vagg (by decide)) (.cons Cv.rfl' .nil)))) (oR 3 rfl (oE rfl (zw (zv:=(.agg #[(.int .i64 0)])) Tryz.zeroValue113 ⟨rfl,trivial⟩ (Cv.vagg (by decide))) ?_))))))))
 rintro _ _ ⟨g2,rfl,rfl⟩
 refine oE J (zg (i:=0) (X':=.agg [dI 0]) J J J (CellD.agg) Tryz.sizeOf113 J J J) ?_
 rintro _ _ ⟨rfl,rfl⟩
 refine on J (oR 1 J (oZ J (jk [2,3,4,5] J (jT J (oR 1 J (oZ J (jCf J (zp J (zn (jS J (jT J (oR 1 J (oP J ((zO (zv:=(.agg #[(.string ByteArray.empty),(.string ByteArray.empty),(.int .i64 0),(.int .i64 0),(.slice none 0 0),(.slice none 0 0),(.slice none 0 0)])) J (fun _ _=>by kernel_rfl)).cv (Cv.tup (.cons (Cv.vagg (by decide)) (.cons Cv.rfl' .nil)))) (oR 3 rfl (oE rfl (zw (zv:=(.agg #[(.string ByteArray.empty),(.string ByteArray.empty),(.int .i64 0),(.int .i64 0),(.slice none 0 0),(.slice none 0 0),(.slice none 0 0)])) Tryz.zeroValue116 ⟨rfl,rfl,rfl,rfl,rfl,rfl,rfl,trivial⟩ (Cv.vagg (by decide))) ?_)))))))))))))))
 rintro _ _ ⟨g3,rfl,rfl⟩
 refine oE J (zg (i:=0) (X':=.agg [.v (.string ByteArray.empty),.v (.string ByteArray.empty),dI 0,dI 0,dZ,dZ,dZ]) J J J (CellD.agg) Tryz.sizeOf116 J J J) ?_
 rintro _ _ ⟨rfl,rfl⟩
 refine on J (oR 1 J (oZ J (jT J (oR 1 J (oZ J (jk [2,3,6,32] J (jCf J (zp J (zn (jS J (jT J (oR 1 J (oP J ((zO (zv:=(.agg #[(.string ByteArray.empty),(.string ByteArray.empty),(.int .i64 0),(.int .i64 0),(.slice none 0 0),(.slice none 0 0),(.slice none 0 0)])) J (fun _ _=>by kernel_rfl)).cv (Cv.tup (.cons (Cv.vagg (by decide)) (.cons Cv.rfl' .nil)))) (oR 3 rfl (oE rfl (zw (zv:=(.agg #[(.string ByteArray.empty),(.string ByteArray.empty),(.int .i64 0),(.int .i64 0),(.slice none 0 0),(.slice none 0 0),(.slice none 0 0)])) Tryz.zeroValue119 ⟨rfl,rfl,rfl,rfl,rfl,rfl,rfl,trivial⟩ (Cv.vagg (by decide))) ?_)))))))))))))))
 rintro _ _ ⟨g4,rfl,rfl⟩
 refine oE J (zg (i:=0) (X':=.agg [.v (.string ByteArray.empty),.v (.string ByteArray.empty),dI 0,dI 0,dZ,dZ,dZ]) J J J (CellD.agg) Tryz.sizeOf119 J J J) ?_
 rintro _ _ ⟨rfl,rfl⟩
 refine on J (oR 1 J (oZ J (jT J (oR 1 J (oZ J (jCf J (zp J (zn (jk [2,3] J (jS J (jT J (oR 1 J (oP J (zbn J (fun _ _=>by kernel_rfl)) (oR 3 rfl (oE rfl (zw (zv:=(.agg #[(.string ByteArray.empty),(.string ByteArray.empty),(.int .i64 0),(.int .i64 0),(.slice none 0 0),(.slice none 0 0),(.slice none 0 0)])) Tryz.zeroValue122 ⟨rfl,rfl,rfl,rfl,rfl,rfl,rfl,trivial⟩ (Cv.vagg (by decide))) ?_)))))))))))))))
 rintro _ _ ⟨g5,rfl,rfl⟩
 refine oE J (zg (i:=0) (X':=.agg [.s (⟨#[97,103,103]⟩:ByteArray),.s text,dN n,dI mode,.sh 1 (names.map D.s),.sh 3 (ms.map MatD.d),.sh 7 [.agg [.s xa,.s xb,dI xc,dI xd,.sh 1 (xe.map D.s),.sh 3 (xf.map MatD.d),.sh 7 (Nd.ds xg)]]]) J J J (CellD.agg) Tryz.sizeOf122 J J J) ?_
 rintro _ _ ⟨rfl,rfl⟩
 refine on J (oR 1 J (oZ J (jT J (oR 1 J (oZ J (jCt J (jT J (oP J (zx (d:=.agg [.s (⟨#[97,103,103]⟩:ByteArray),.s text,dN n,dI mode,.sh 1 (names.map D.s),.sh 3 (ms.map MatD.d),.sh 7 [.agg [.s xa,.s xb,dI xc,dI xd,.sh 1 (xe.map D.s),.sh 3 (xf.map MatD.d),.sh 7 (Nd.ds xg)]]]) J (i:=0) J Tryz.isAgg122 Tryz.sizeOf122 J J) (OpsD.subH (HSub.perm (zd (i:=5) J)) (on J ?_))))))))))
 refine oE J (zk [HPow] [.bx g5 122 (.agg [.s (⟨#[97,103,103]⟩:ByteArray),.s text,dN n,dI mode,.sh 1 (names.map D.s),.sh 3 (ms.map MatD.d),.sh 7 [.agg [.s xa,.s xb,dI xc,dI xd,.sh 1 (xe.map D.s),.sh 3 (xf.map MatD.d),.sh 7 (Nd.ds xg)]]]),.bx g4 119 (.agg [.v (.string ByteArray.empty),.v (.string ByteArray.empty),dI 0,dI 0,dZ,dZ,dZ]),.bx g3 116 (.agg [.v (.string ByteArray.empty),.v (.string ByteArray.empty),dI 0,dI 0,dZ,dZ,dZ]),.bx g2 113 (.agg [dI 0]),.bx g1 27 (.agg [.s (⟨#[97,103,103]⟩:ByteArray),.s text,dN n,dI mode,.sh 1 (names.map D.s),.sh 3 (ms.map MatD.d),.sh 7 [.agg [.s xa,.s xb,dI xc,dI xd,.sh 1 (xe.map D.s),.sh 3 (xf.map MatD.d),.sh 7 (Nd.ds xg)]]])] [] J J (.cons ArgC.id .nil) zh Tryz.call101 (aggtext_c text n mode names ms xa xb xc xd xe xf xg ta h1 hw hxt hx) (.inl J)) ?_
 rintro _ _ ⟨_,⟨rfl,rfl⟩,rfl⟩
 refine on J (oR 1 J (oZ J (jk [2,3] J (zo J (zj (pn J ?_))))))
 exact zi Tryz.results34 (.cons (zt (zl J) (Cv.eq (congrArg D.s (show (aggP text n mode names ta)=aggP text n mode names ta from(by rfl))))) .nil) rfl (HSub.fst 1 rfl) ⟨rfl,rfl⟩
theorem node_fn (text:ByteArray) (n:Nat) (mode:Int) (names:List ByteArray) (ms:List MatD) (xa xb:ByteArray) (xc xd:Int) (xe:List ByteArray) (xf:List MatD) (xg:List Nd) (ta:ByteArray) (hw:wtOf text names ms≤10000000) (hxt:ta.size≤10000000) (hx:CD Tryz.prog 34 [HPow] [.agg [.s xa,.s xb,dI xc,dI xd,.sh 1 (xe.map D.s),.sh 3 (xf.map MatD.d),.sh 7 (Nd.ds xg)]] (PrT ta)):
 CD Tryz.prog 34 [HPow] [.agg [.s (⟨#[102,110]⟩:ByteArray),.s text,dN n,dI mode,.sh 1 (names.map D.s),.sh 3 (ms.map MatD.d),.sh 7 [.agg [.s xa,.s xb,dI xc,dI xd,.sh 1 (xe.map D.s),.sh 3 (xf.map MatD.d),.sh 7 (Nd.ds xg)]]]] (PrT (fnP text ta)):=by
 refine zq Tryz.func34 J (N:=79) J J (fun C=>?_)
 refine jk [0] J ?_
 refine JD.bd 0 J (fun bd0=>?_)
 have hwt:=hw
 unfold wtOf at hwt
 refine jT J (oE J (zaD J (CellD.agg)) ?_)
 rintro _ _ ⟨g1,rfl,rfl⟩
 refine oR 1 J (oZ J (jT J (oP J (zx (d:=.agg [.s (⟨#[102,110]⟩:ByteArray),.s text,dN n,dI mode,.sh 1 (names.map D.s),.sh 3 (ms.map MatD.d),.sh 7 [.agg [.s xa,.s xb,dI xc,dI xd,.sh 1 (xe.map D.s),.sh 3 (xf.map MatD.d),.sh 7 (Nd.ds xg)]]]) J (i:=0) J Tryz.isAgg27 Tryz.sizeOf27 J J) (oE J (zk [] [.bx g1 27 (.agg [.s (⟨#[102,110]⟩:ByteArray),.s text,dN n,dI mode,.sh 1 (names.map D.s),.sh 3 (ms.map MatD.d),.sh 7 [.agg [.s xa,.s xb,dI xc,dI xd,.sh 1 (xe.map D.s),.sh 3 (xf.map MatD.d),.sh 7 (Nd.ds xg)]]]),HPow] [] J J (.cons ArgC.id .nil) zh Tryz.call98 (lift_fn text n mode names ms xa xb xc xd xe xf xg) (.inl J)) ?_))))
 rintro _ _ ⟨_,⟨rfl,rfl⟩,rfl⟩
 refine on J (oR 1 J (oZ J (jS J (jT J (oR 1 J (oP J ((zO (zv:=(.agg #[(.int .i64 0)])) J (fun _ _=>by kernel_rfl)).cv (Cv.tup (.cons (Cv.vagg (by decide)) (.cons Cv.rfl' .nil)))) (oR 3 rfl (oE rfl (zw (zv:=(.agg #[(.int .i64 0)])) Tryz.zeroValue113 ⟨rfl,trivial⟩ (Cv.vagg (by decide))) ?_))))))))
 rintro _ _ ⟨g2,rfl,rfl⟩
 refine oE J (zg (i:=0) (X':=.agg [dI 0]) J J J (CellD.agg) Tryz.sizeOf113 J J J) ?_
 rintro _ _ ⟨rfl,rfl⟩
 refine on J (oR 1 J (oZ J (jk [2,3,4,5] J (jT J (oR 1 J (oZ J (jCf J (zp J (zn (jS J (jT J (oR 1 J (oP J ((zO (zv:=(.agg #[(.string ByteArray.empty),(.string ByteArray.empty),(.int .i64 0),(.int .i64 0),(.slice none 0 0),(.slice none 0 0),(.slice none 0 0)])) J (fun _ _=>by kernel_rfl)).cv (Cv.tup (.cons (Cv.vagg (by decide)) (.cons Cv.rfl' .nil)))) (oR 3 rfl (oE rfl (zw (zv:=(.agg #[(.string ByteArray.empty),(.string ByteArray.empty),(.int .i64 0),(.int .i64 0),(.slice none 0 0),(.slice none 0 0),(.slice none 0 0)])) Tryz.zeroValue116 ⟨rfl,rfl,rfl,rfl,rfl,rfl,rfl,trivial⟩ (Cv.vagg (by decide))) ?_)))))))))))))))
 rintro _ _ ⟨g3,rfl,rfl⟩
 refine oE J (zg (i:=0) (X':=.agg [.v (.string ByteArray.empty),.v (.string ByteArray.empty),dI 0,dI 0,dZ,dZ,dZ]) J J J (CellD.agg) Tryz.sizeOf116 J J J) ?_
 rintro _ _ ⟨rfl,rfl⟩
 refine on J (oR 1 J (oZ J (jT J (oR 1 J (oZ J (jk [2,3,6,32] J (jCf J (zp J (zn (jS J (jT J (oR 1 J (oP J ((zO (zv:=(.agg #[(.string ByteArray.empty),(.string ByteArray.empty),(.int .i64 0),(.int .i64 0),(.slice none 0 0),(.slice none 0 0),(.slice none 0 0)])) J (fun _ _=>by kernel_rfl)).cv (Cv.tup (.cons (Cv.vagg (by decide)) (.cons Cv.rfl' .nil)))) (oR 3 rfl (oE rfl (zw (zv:=(.agg #[(.string ByteArray.empty),(.string ByteArray.empty),(.int .i64 0),(.int .i64 0),(.slice none 0 0),(.slice none 0 0),(.slice none 0 0)])) Tryz.zeroValue119 ⟨rfl,rfl,rfl,rfl,rfl,rfl,rfl,trivial⟩ (Cv.vagg (by decide))) ?_)))))))))))))))
 rintro _ _ ⟨g4,rfl,rfl⟩
 refine oE J (zg (i:=0) (X':=.agg [.v (.string ByteArray.empty),.v (.string ByteArray.empty),dI 0,dI 0,dZ,dZ,dZ]) J J J (CellD.agg) Tryz.sizeOf119 J J J) ?_
 rintro _ _ ⟨rfl,rfl⟩
 refine on J (oR 1 J (oZ J (jT J (oR 1 J (oZ J (jCf J (zp J (zn (jk [2,3] J (jS J (jT J (oR 1 J (oP J ((zO (zv:=(.agg #[(.string ByteArray.empty),(.string ByteArray.empty),(.int .i64 0),(.int .i64 0),(.slice none 0 0),(.slice none 0 0),(.slice none 0 0)])) J (fun _ _=>by kernel_rfl)).cv (Cv.tup (.cons (Cv.vagg (by decide)) (.cons Cv.rfl' .nil)))) (oR 3 rfl (oE rfl (zw (zv:=(.agg #[(.string ByteArray.empty),(.string ByteArray.empty),(.int .i64 0),(.int .i64 0),(.slice none 0 0),(.slice none 0 0),(.slice none 0 0)])) Tryz.zeroValue122 ⟨rfl,rfl,rfl,rfl,rfl,rfl,rfl,trivial⟩ (Cv.vagg (by decide))) ?_)))))))))))))))
 rintro _ _ ⟨g5,rfl,rfl⟩
 refine oE J (zg (i:=0) (X':=.agg [.v (.string ByteArray.empty),.v (.string ByteArray.empty),dI 0,dI 0,dZ,dZ,dZ]) J J J (CellD.agg) Tryz.sizeOf122 J J J) ?_
 rintro _ _ ⟨rfl,rfl⟩
 refine on J (oR 1 J (oZ J (jT J (oR 1 J (oZ J (jCf J (zp J (zn (jS J (jT J (oR 1 J (oP J (zbn J (fun _ _=>by kernel_rfl)) (oR 3 rfl (oE rfl (zw (zv:=(.agg #[(.string ByteArray.empty),(.string ByteArray.empty),(.int .i64 0),(.int .i64 0),(.slice none 0 0),(.slice none 0 0),(.slice none 0 0)])) Tryz.zeroValue124 ⟨rfl,rfl,rfl,rfl,rfl,rfl,rfl,trivial⟩ (Cv.vagg (by decide))) ?_))))))))))))))
 rintro _ _ ⟨g6,rfl,rfl⟩
 refine oE J (zg (i:=0) (X':=.agg [.s (⟨#[102,110]⟩:ByteArray),.s text,dN n,dI mode,.sh 1 (names.map D.s),.sh 3 (ms.map MatD.d),.sh 7 [.agg [.s xa,.s xb,dI xc,dI xd,.sh 1 (xe.map D.s),.sh 3 (xf.map MatD.d),.sh 7 (Nd.ds xg)]]]) J J J (CellD.agg) Tryz.sizeOf124 J J J) ?_
 rintro _ _ ⟨rfl,rfl⟩
 refine on J (oR 1 J (oZ J (jk [2,3,12,13] J (jT J (oR 1 J (oZ J (jCt J (jS J (JD.subH (HSub.perm (zd (i:=6) J)) (jn J (jk [2,3,12,13,58] J (jn J ?_))))))))))))
 refine za4 10 [(59,dP g6 0,none),(60,dP g6 1,none),(61,.s text,none),(62,.s (text++(⟨#[40]⟩:ByteArray)),none),(63,dP g6 0,none),(64,dP g6 6,none),(65,.sh 7 [.agg [.s xa,.s xb,dI xc,dI xd,.sh 1 (xe.map D.s),.sh 3 (xf.map MatD.d),.sh 7 (Nd.ds xg)]],none),(66,.el (.agg [.s xa,.s xb,dI xc,dI xd,.sh 1 (xe.map D.s),.sh 3 (xf.map MatD.d),.sh 7 (Nd.ds xg)]) 0,none),(67,.agg [.s xa,.s xb,dI xc,dI xd,.sh 1 (xe.map D.s),.sh 3 (xf.map MatD.d),.sh 7 (Nd.ds xg)],none),(68,.s ta,some [HPow,.bx g6 124 (.agg [.s (⟨#[102,110]⟩:ByteArray),.s text,dN n,dI mode,.sh 1 (names.map D.s),.sh 3 (ms.map MatD.d),.sh 7 [.agg [.s xa,.s xb,dI xc,dI xd,.sh 1 (xe.map D.s),.sh 3 (xf.map MatD.d),.sh 7 (Nd.ds xg)]]]),.bx g5 122 (.agg [.v (.string ByteArray.empty),.v (.string ByteArray.empty),dI 0,dI 0,dZ,dZ,dZ]),.bx g4 119 (.agg [.v (.string ByteArray.empty),.v (.string ByteArray.empty),dI 0,dI 0,dZ,dZ,dZ]),.bx g3 116 (.agg [.v (.string ByteArray.empty),.v (.string ByteArray.empty),dI 0,dI 0,dZ,dZ,dZ]),.bx g2 113 (.agg [dI 0]),.bx g1 27 (.agg [.s (⟨#[102,110]⟩:ByteArray),.s text,dN n,dI mode,.sh 1 (names.map D.s),.sh 3 (ms.map MatD.d),.sh 7 [.agg [.s xa,.s xb,dI xc,dI xd,.sh 1 (xe.map D.s),.sh 3 (xf.map MatD.d),.sh 7 (Nd.ds xg)]]])])] [.bx g6 124 (.agg [.s (⟨#[102,110]⟩:ByteArray),.s text,dN n,dI mode,.sh 1 (names.map D.s),.sh 3 (ms.map MatD.d),.sh 7 [.agg [.s xa,.s xb,dI xc,dI xd,.sh 1 (xe.map D.s),.sh 3 (xf.map MatD.d),.sh 7 (Nd.ds xg)]]]),.bx g5 122 (.agg [.v (.string ByteArray.empty),.v (.string ByteArray.empty),dI 0,dI 0,dZ,dZ,dZ]),.bx g4 119 (.agg [.v (.string ByteArray.empty),.v (.string ByteArray.empty),dI 0,dI 0,dZ,dZ,dZ]),.bx g3 116 (.agg [.v (.string ByteArray.empty),.v (.string ByteArray.empty),dI 0,dI 0,dZ,dZ,dZ]),.bx g2 113 (.agg [dI 0]),.bx g1 27 (.agg [.s (⟨#[102,110]⟩:ByteArray),.s text,dN n,dI mode,.sh 1 (names.map D.s),.sh 3 (ms.map MatD.d),.sh 7 [.agg [.s xa,.s xb,dI xc,dI xd,.sh 1 (xe.map D.s),.sh 3 (xf.map MatD.d),.sh 7 (Nd.ds xg)]]])] (Hn:=[HPow,.bx g6 124 (.agg [.s (⟨#[102,110]⟩:ByteArray),.s text,dN n,dI mode,.sh 1 (names.map D.s),.sh 3 (ms.map MatD.d),.sh 7 [.agg [.s xa,.s xb,dI xc,dI xd,.sh 1 (xe.map D.s),.sh 3 (xf.map MatD.d),.sh 7 (Nd.ds xg)]]]),.bx g5 122 (.agg [.v (.string ByteArray.empty),.v (.string ByteArray.empty),dI 0,dI 0,dZ,dZ,dZ]),.bx g4 119 (.agg [.v (.string ByteArray.empty),.v (.string ByteArray.empty),dI 0,dI 0,dZ,dZ,dZ]),.bx g3 116 (.agg [.v (.string ByteArray.empty),.v (.string ByteArray.empty),dI 0,dI 0,dZ,dZ,dZ]),.bx g2 113 (.agg [dI 0]),.bx g1 27 (.agg [.s (⟨#[102,110]⟩:ByteArray),.s text,dN n,dI mode,.sh 1 (names.map D.s),.sh 3 (ms.map MatD.d),.sh 7 [.agg [.s xa,.s xb,dI xc,dI xd,.sh 1 (xe.map D.s),.sh 3 (xf.map MatD.d),.sh 7 (Nd.ds xg)]]])]) mixed rfl rfl rfl rfl (HSub.lst 1 rfl) rfl ⟨sa_p rfl rfl rfl (zc rfl fa_124_0 rfl),sa_p rfl rfl rfl (zc rfl zad rfl),sa_p rfl rfl rfl (ze rfl (i:=0) rfl Tryz.isAgg9 rfl),sa_p rfl rfl rfl (zao rfl rfl (by unfold maxLen;(try simp only[ByteArray.size_append]);(try simp only[ByteArray.size_append]);have kz:=catz;omega)),sa_p rfl rfl rfl (zc rfl fa_124_0 rfl),sa_p rfl rfl rfl (zc rfl zaI rfl),sa_p rfl rfl rfl (ze rfl (i:=0) rfl Tryz.isAgg25 rfl),sa_p rfl rfl rfl (zA (k:=0) rfl rfl Tryz.runUnderlying25 Tryz.sizeOf27 (by first | rfl | omega) rfl),sa_p rfl rfl rfl (zau (d:=.agg [.s xa,.s xb,dI xc,dI xd,.sh 1 (xe.map D.s),.sh 3 (xf.map MatD.d),.sh 7 (Nd.ds xg)]) rfl Tryz.isAgg27 Tryz.sizeOf27 rfl rfl),sa_e rfl rfl rfl rfl (((zk [HPow] [.bx g6 124 (.agg [.s (⟨#[102,110]⟩:ByteArray),.s text,dN n,dI mode,.sh 1 (names.map D.s),.sh 3 (ms.map MatD.d),.sh 7 [.agg [.s xa,.s xb,dI xc,dI xd,.sh 1 (xe.map D.s),.sh 3 (xf.map MatD.d),.sh 7 (Nd.ds xg)]]]),.bx g5 122 (.agg [.v (.string ByteArray.empty),.v (.string ByteArray.empty),dI 0,dI 0,dZ,dZ,dZ]),.bx g4 119 (.agg [.v (.string ByteArray.empty),.v (.string ByteArray.empty),dI 0,dI 0,dZ,dZ,dZ]),.bx g3 116 (.agg [.v (.string ByteArray.empty),.v (.string ByteArray.empty),dI 0,dI 0,dZ,dZ,dZ]),.bx g2 113 (.agg [dI 0]),.bx g1 27 (.agg [.s (⟨#[102,110]⟩:ByteArray),.s text,dN n,dI mode,.sh 1 (names.map D.s),.sh 3 (ms.map MatD.d),.sh 7 [.agg [.s xa,.s xb,dI xc,dI xd,.sh 1 (xe.map D.s),.sh 3 (xf.map MatD.d),.sh 7 (Nd.ds xg)]]])] [] rfl rfl (.cons ArgC.id .nil) zh Tryz.call34 (hx) (.inl rfl))).mono (by rintro _ _ ⟨_,⟨rfl,rfl⟩,rfl⟩;exact⟨rfl,rfl⟩)) (HSub.lst 1 rfl),trivial⟩ ?_
 refine ok [2,3,12,13,58,59,60,61,62,63,64,65,66,67,68] J (oP J (zao J J (by unfold maxLen;(try simp only[ByteArray.size_append]);(try simp only[ByteArray.size_append]);have kz:=catz;omega)) (oP rfl (zao rfl rfl (by unfold maxLen;(try simp only[ByteArray.size_append]);(try simp only[ByteArray.size_append]);have kz:=catz;omega)) (oR 1 rfl (oZ rfl (jk [2,3] rfl (zo rfl (zj (pn rfl ?_))))))))
 exact zi Tryz.results34 (.cons (zt (zl J) (Cv.eq (congrArg D.s (show (((text++(⟨#[40]⟩:ByteArray))++ta)++(⟨#[41]⟩:ByteArray))=fnP text ta from(by rfl))))) .nil) rfl (HSub.fst 1 rfl) ⟨rfl,rfl⟩
theorem node_sel (text:ByteArray) (n:Nat) (mode:Int) (names:List ByteArray) (ms:List MatD) (h1:n≤1000000000000) (hw:wtOf text names ms≤10000000) (hm:∀ m∈ms,1≤m.op∧m.op≤4):
 CD Tryz.prog 34 [HPow] [.agg [.s (⟨#[115,101,108]⟩:ByteArray),.s text,dN n,dI mode,.sh 1 (names.map D.s),.sh 3 (ms.map MatD.d),.sh 7 []]] (PrT (selP text n ms)):=by
 refine zq Tryz.func34 J (N:=79) J J (fun C=>?_)
 refine jk [0] J ?_
 refine JD.bd 0 J (fun bd0=>?_)
 refine jT J (oE J (zaD J (CellD.agg)) ?_)
 rintro _ _ ⟨g1,rfl,rfl⟩
 refine oR 1 J (oZ J (jT J (oP J (zx (d:=.agg [.s (⟨#[115,101,108]⟩:ByteArray),.s text,dN n,dI mode,.sh 1 (names.map D.s),.sh 3 (ms.map MatD.d),.sh 7 []]) J (i:=0) J Tryz.isAgg27 Tryz.sizeOf27 J J) (oE J (zk [] [.bx g1 27 (.agg [.s (⟨#[115,101,108]⟩:ByteArray),.s text,dN n,dI mode,.sh 1 (names.map D.s),.sh 3 (ms.map MatD.d),.sh 7 []]),HPow] [] J J (.cons ArgC.id .nil) zh Tryz.call98 (lift_sel text n mode names ms) (.inl J)) ?_))))
 rintro _ _ ⟨_,⟨rfl,rfl⟩,rfl⟩
 refine on J (oR 1 J (oZ J (jS J (jT J (oR 1 J (oP J ((zO (zv:=(.agg #[(.int .i64 0)])) J (fun _ _=>by kernel_rfl)).cv (Cv.tup (.cons (Cv.vagg (by decide)) (.cons Cv.rfl' .nil)))) (oR 3 rfl (oE rfl (zw (zv:=(.agg #[(.int .i64 0)])) Tryz.zeroValue113 ⟨rfl,trivial⟩ (Cv.vagg (by decide))) ?_))))))))
 rintro _ _ ⟨g2,rfl,rfl⟩
 refine oE J (zg (i:=0) (X':=.agg [dI 0]) J J J (CellD.agg) Tryz.sizeOf113 J J J) ?_
 rintro _ _ ⟨rfl,rfl⟩
 refine on J (oR 1 J (oZ J (jk [2,3,4,5] J (jT J (oR 1 J (oZ J (jCf J (zp J (zn (jS J (jT J (oR 1 J (oP J ((zO (zv:=(.agg #[(.string ByteArray.empty),(.string ByteArray.empty),(.int .i64 0),(.int .i64 0),(.slice none 0 0),(.slice none 0 0),(.slice none 0 0)])) J (fun _ _=>by kernel_rfl)).cv (Cv.tup (.cons (Cv.vagg (by decide)) (.cons Cv.rfl' .nil)))) (oR 3 rfl (oE rfl (zw (zv:=(.agg #[(.string ByteArray.empty),(.string ByteArray.empty),(.int .i64 0),(.int .i64 0),(.slice none 0 0),(.slice none 0 0),(.slice none 0 0)])) Tryz.zeroValue116 ⟨rfl,rfl,rfl,rfl,rfl,rfl,rfl,trivial⟩ (Cv.vagg (by decide))) ?_)))))))))))))))
 rintro _ _ ⟨g3,rfl,rfl⟩
 refine oE J (zg (i:=0) (X':=.agg [.v (.string ByteArray.empty),.v (.string ByteArray.empty),dI 0,dI 0,dZ,dZ,dZ]) J J J (CellD.agg) Tryz.sizeOf116 J J J) ?_
 rintro _ _ ⟨rfl,rfl⟩
 refine on J (oR 1 J (oZ J (jT J (oR 1 J (oZ J (jk [2,3,6,32] J (jCf J (zp J (zn (jS J (jT J (oR 1 J (oP J ((zO (zv:=(.agg #[(.string ByteArray.empty),(.string ByteArray.empty),(.int .i64 0),(.int .i64 0),(.slice none 0 0),(.slice none 0 0),(.slice none 0 0)])) J (fun _ _=>by kernel_rfl)).cv (Cv.tup (.cons (Cv.vagg (by decide)) (.cons Cv.rfl' .nil)))) (oR 3 rfl (oE rfl (zw (zv:=(.agg #[(.string ByteArray.empty),(.string ByteArray.empty),(.int .i64 0),(.int .i64 0),(.slice none 0 0),(.slice none 0 0),(.slice none 0 0)])) Tryz.zeroValue119 ⟨rfl,rfl,rfl,rfl,rfl,rfl,rfl,trivial⟩ (Cv.vagg (by decide))) ?_)))))))))))))))
 rintro _ _ ⟨g4,rfl,rfl⟩
 refine oE J (zg (i:=0) (X':=.agg [.v (.string ByteArray.empty),.v (.string ByteArray.empty),dI 0,dI 0,dZ,dZ,dZ]) J J J (CellD.agg) Tryz.sizeOf119 J J J) ?_
 rintro _ _ ⟨rfl,rfl⟩
 refine on J (oR 1 J (oZ J (jT J (oR 1 J (oZ J (jCf J (zp J (zn (jk [2,3] J (jS J (jT J (oR 1 J (oP J ((zO (zv:=(.agg #[(.string ByteArray.empty),(.string ByteArray.empty),(.int .i64 0),(.int .i64 0),(.slice none 0 0),(.slice none 0 0),(.slice none 0 0)])) J (fun _ _=>by kernel_rfl)).cv (Cv.tup (.cons (Cv.vagg (by decide)) (.cons Cv.rfl' .nil)))) (oR 3 rfl (oE rfl (zw (zv:=(.agg #[(.string ByteArray.empty),(.string ByteArray.empty),(.int .i64 0),(.int .i64 0),(.slice none 0 0),(.slice none 0 0),(.slice none 0 0)])) Tryz.zeroValue122 ⟨rfl,rfl,rfl,rfl,rfl,rfl,rfl,trivial⟩ (Cv.vagg (by decide))) ?_)))))))))))))))
 rintro _ _ ⟨g5,rfl,rfl⟩
 refine oE J (zg (i:=0) (X':=.agg [.v (.string ByteArray.empty),.v (.string ByteArray.empty),dI 0,dI 0,dZ,dZ,dZ]) J J J (CellD.agg) Tryz.sizeOf122 J J J) ?_
 rintro _ _ ⟨rfl,rfl⟩
 refine on J (oR 1 J (oZ J (jT J (oR 1 J (oZ J (jCf J (zp J (zn (jS J (jT J (oR 1 J (oP J ((zO (zv:=(.agg #[(.string ByteArray.empty),(.string ByteArray.empty),(.int .i64 0),(.int .i64 0),(.slice none 0 0),(.slice none 0 0),(.slice none 0 0)])) J (fun _ _=>by kernel_rfl)).cv (Cv.tup (.cons (Cv.vagg (by decide)) (.cons Cv.rfl' .nil)))) (oR 3 rfl (oE rfl (zw (zv:=(.agg #[(.string ByteArray.empty),(.string ByteArray.empty),(.int .i64 0),(.int .i64 0),(.slice none 0 0),(.slice none 0 0),(.slice none 0 0)])) Tryz.zeroValue124 ⟨rfl,rfl,rfl,rfl,rfl,rfl,rfl,trivial⟩ (Cv.vagg (by decide))) ?_))))))))))))))
 rintro _ _ ⟨g6,rfl,rfl⟩
 refine oE J (zg (i:=0) (X':=.agg [.v (.string ByteArray.empty),.v (.string ByteArray.empty),dI 0,dI 0,dZ,dZ,dZ]) J J J (CellD.agg) Tryz.sizeOf124 J J J) ?_
 rintro _ _ ⟨rfl,rfl⟩
 refine on J (oR 1 J (oZ J (jk [2,3,12,13] J (jT J (oR 1 J (oZ J (jCf J (zp J (zn (jS J (jT J (oR 1 J (oP J (zbn J (fun _ _=>by kernel_rfl)) (oR 3 rfl (oE rfl (zw (zv:=(.agg #[(.string ByteArray.empty),(.string ByteArray.empty),(.int .i64 0),(.int .i64 0),(.slice none 0 0),(.slice none 0 0),(.slice none 0 0)])) Tryz.zeroValue126 ⟨rfl,rfl,rfl,rfl,rfl,rfl,rfl,trivial⟩ (Cv.vagg (by decide))) ?_)))))))))))))))
 rintro _ _ ⟨g7,rfl,rfl⟩
 refine oE J (zg (i:=0) (X':=.agg [.s (⟨#[115,101,108]⟩:ByteArray),.s text,dN n,dI mode,.sh 1 (names.map D.s),.sh 3 (ms.map MatD.d),.sh 7 []]) J J J (CellD.agg) Tryz.sizeOf126 J J J) ?_
 rintro _ _ ⟨rfl,rfl⟩
 refine on J (oR 1 J (oZ J (jk [2,14,15] J (jT J (oR 1 J (oZ J (jCt J (jT J (oP J (zx (d:=.agg [.s (⟨#[115,101,108]⟩:ByteArray),.s text,dN n,dI mode,.sh 1 (names.map D.s),.sh 3 (ms.map MatD.d),.sh 7 []]) J (i:=0) J Tryz.isAgg126 Tryz.sizeOf126 J J) (OpsD.subH (HSub.perm (zd (i:=7) J)) (on J ?_)))))))))))
 refine oE J (zk [HPow] [.bx g7 126 (.agg [.s (⟨#[115,101,108]⟩:ByteArray),.s text,dN n,dI mode,.sh 1 (names.map D.s),.sh 3 (ms.map MatD.d),.sh 7 []]),.bx g6 124 (.agg [.v (.string ByteArray.empty),.v (.string ByteArray.empty),dI 0,dI 0,dZ,dZ,dZ]),.bx g5 122 (.agg [.v (.string ByteArray.empty),.v (.string ByteArray.empty),dI 0,dI 0,dZ,dZ,dZ]),.bx g4 119 (.agg [.v (.string ByteArray.empty),.v (.string ByteArray.empty),dI 0,dI 0,dZ,dZ,dZ]),.bx g3 116 (.agg [.v (.string ByteArray.empty),.v (.string ByteArray.empty),dI 0,dI 0,dZ,dZ,dZ]),.bx g2 113 (.agg [dI 0]),.bx g1 27 (.agg [.s (⟨#[115,101,108]⟩:ByteArray),.s text,dN n,dI mode,.sh 1 (names.map D.s),.sh 3 (ms.map MatD.d),.sh 7 []])] [] J J (.cons ArgC.id .nil) zh Tryz.call102 (seltext_c text n mode names ms h1 hw hm) (.inl J)) ?_
 rintro _ _ ⟨_,⟨rfl,rfl⟩,rfl⟩
 refine on J (oR 1 J (oZ J (zo J (zj (pn J ?_)))))
 exact zi Tryz.results34 (.cons (zt (zl J) (Cv.eq (congrArg D.s (show (selP text n ms)=selP text n ms from(by rfl))))) .nil) rfl (HSub.fst 1 rfl) ⟨rfl,rfl⟩
theorem inner_of {q:Nd} (h:Wf q) (t:ByteArray) (ht:t.size≤100000000) (hn:CD Tryz.prog 34 [HPow] [Nd.d q] (PrT t)):CD Tryz.prog 99 [HPow] [Nd.d q] (PrT (zcG q.two t)):=by
 cases h with
 | num h=>exact inner_num _ _ _ _ _ t ht hn
 | @neg x h=>obtain ⟨xa,xb,xc,xd,xe,xf,xg⟩:=x;exact inner_neg ByteArray.empty 0 0 [] [] xa xb xc xd xe xf xg t ht hn
 | @bin text mode names x y h h1 h2=>obtain ⟨xa,xb,xc,xd,xe,xf,xg⟩:=x;obtain ⟨ya,yb,yc,yd,ye,yf,yg⟩:=y;exact inner_bin text 0 mode names [] xa xb xc xd xe xf xg ya yb yc yd ye yf yg t ht hn
 | @agg text n mode names x h hn' hm h2=>obtain ⟨xa,xb,xc,xd,xe,xf,xg⟩:=x;exact inner_agg text n mode names [] xa xb xc xd xe xf xg t ht hn
 | @fn text x h=>obtain ⟨xa,xb,xc,xd,xe,xf,xg⟩:=x;exact inner_fn text 0 0 [] [] xa xb xc xd xe xf xg t ht hn
 | @sel text n ms h hm=>exact inner_sel text n 0 [] ms t ht hn
theorem node_p {q:Nd} (h:Wf q):q.wt≤10000000→CD Tryz.prog 34 [HPow] [Nd.d q] (PrT q.pr):=by
 induction h with
 | @num n h=>intro _;rw[pr_num];exact node_num ByteArray.empty n 0 [] [] h
 | @neg x h ih=>
  intro hw
  have hx:x.wt≤9999900:=by simp only[Nd.wt,wtOf,Nd.wtL] at hw;omega
  have h2:=zfx h;have h3:=zdF x.two x.pr
  rw[show (Nd.mk tNeg ByteArray.empty 0 0 [] [] [x]).pr=_ from pr_neg (n:=0)]
  have h4:=inner_of h x.pr (by omega) (ih (by omega))
  generalize zcG x.two x.pr=ta at h3 h4 ⊢
  obtain ⟨xa,xb,xc,xd,xe,xf,xg⟩:=x
  exact node_neg ByteArray.empty 0 0 [] [] xa xb xc xd xe xf xg ta (by omega) h4
 | @bin text mode names x y hm h1 h2 ih1 ih2=>
  intro hw
  have hx:x.wt+y.wt≤9999900∧wtOf text names []≤10000000:=by simp only[Nd.wt,Nd.wtL] at hw;exact⟨by unfold wtOf at hw;omega,by omega⟩
  have k1:=zfx h1;have k2:=zfx h2;have k3:=zdF x.two x.pr;have k4:=zdF y.two y.pr
  rw[show (Nd.mk tBin text 0 mode names [] [x,y]).pr=_ from pr_bin (n:=0)]
  have k5:=inner_of h1 x.pr (by omega) (ih1 (by omega));have k6:=inner_of h2 y.pr (by omega) (ih2 (by omega))
  generalize zcG x.two x.pr=ta at k3 k5 ⊢
  generalize zcG y.two y.pr=tb at k4 k6 ⊢
  obtain ⟨xa,xb,xc,xd,xe,xf,xg⟩:=x
  obtain ⟨ya,yb,yc,yd,ye,yf,yg⟩:=y
  exact node_bin text 0 mode names [] xa xb xc xd xe xf xg ya yb yc yd ye yf yg ta tb hx.2 (by omega) k5 (by omega) k6
 | @agg text n mode names x h1 hn hm h ih=>
  intro hw
  have hx:x.wt≤9999900∧wtOf text names []≤10000000:=by simp only[Nd.wt,Nd.wtL] at hw;exact⟨by unfold wtOf at hw;omega,by omega⟩
  have k1:=zfx h;have k5:=ih (by omega)
  rw[pr_agg]
  generalize x.pr=ta at k1 k5 ⊢
  obtain ⟨xa,xb,xc,xd,xe,xf,xg⟩:=x
  exact node_agg text n mode names [] xa xb xc xd xe xf xg ta h1 hx.2 (by omega) k5
 | @fn text x h ih=>
  intro hw
  have hx:x.wt≤9999900∧wtOf text [] []≤10000000:=by simp only[Nd.wt,Nd.wtL] at hw;exact⟨by unfold wtOf at hw;omega,by omega⟩
  have k1:=zfx h;have k5:=ih (by omega)
  rw[show (Nd.mk tFn text 0 0 [] [] [x]).pr=_ from pr_fn (n:=0)]
  generalize x.pr=ta at k1 k5 ⊢
  obtain ⟨xa,xb,xc,xd,xe,xf,xg⟩:=x
  exact node_fn text 0 0 [] [] xa xb xc xd xe xf xg ta hx.2 (by omega) k5
 | @sel text n ms h hm=>
  intro hw
  rw[pr_sel]
  exact node_sel text n 0 [] ms h (by simp only[Nd.wt,Nd.wtL] at hw;omega) hm
end Lp
