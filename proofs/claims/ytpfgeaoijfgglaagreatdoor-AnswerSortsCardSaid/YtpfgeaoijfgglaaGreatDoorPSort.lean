import Derived.Test.YtpfgeaoijfgglaaGreatDoorV15
set_option linter.unusedSimpArgs false
set_option linter.unusedVariables false
set_option maxHeartbeats 4000000
set_option maxRecDepth 100000
namespace Lp
open Go Go.RowKit Go.Proofs
theorem bd_130:BdP Tryz.prog #[⟨"s",26,0,false, "", "leporello/answer",0⟩,⟨"t",3,1,false, "", "leporello/answer",8⟩] [(0,1),(1,1)]:=λ_=>by kernel_rfl
theorem fa_64_2:FaP Tryz.prog 64 2 2:=λ_ _ _=>by kernel_rfl
theorem fa_64_3:FaP Tryz.prog 64 3 3:=λ_ _ _=>by kernel_rfl
theorem fa_64_4:FaP Tryz.prog 64 4 4:=λ_ _ _=>by kernel_rfl
theorem agg_c (S:List SerD) (t:Int) (n mode:Int) (names:List ByteArray) (kids:List Nd) (ka:Nd) (l:List RowD) (hkl:1<=kids.length) (hka:kids[0]?=some ka) (iha:CD Tryz.prog 79 [] [.agg [.el (.agg [.sh 2 (S.map SerD.d)]) 0,dI t],Nd.d ka] (isR (.tup [.ifc 32 (.sh 2 (l.map RowD.d)),dI 0]))) (hll:l.length<=1000000):
 CD Tryz.prog 124 [] [.agg [.el (.agg [.sh 2 (S.map SerD.d)]) 0,dI t],.agg [.s tAgg,.s bSum,dI n,dI mode,.sh 1 (names.map D.s),.sh 3 (([]:List MatD).map MatD.d),.sh 7 (kids.map Nd.d)]] (isR (.tup [.ifc 32 (.sh 2 ((gdL (Way.sums false) mode names l).map RowD.d)),dI (gdE (Way.sums false) mode names l)])):=by
 refine tZ Tryz.func124 O O (λC=>?_);refine T.bd 0 O (λbd0=>?_);refine T.bd 1 O (λbd1=>?_);refine g' 2 O ?_;refine tA O (λg1=>?_);refine tA O (λg2=>?_);refine g' 5 O (T.keep [0,1,2,3,4,5] O ?_);obtain ⟨x1,hx1⟩:=zj kids 0 (by omega);have ex1:x1=ka:=jU (hx1.symm.trans hka);subst ex1;obtain ⟨yax1,ybx1,ycx1,ydx1,yex1,yfx1,ygx1⟩:=x1;refine tDr 10 [(9,.agg [.el (.agg [.sh 2 (S.map SerD.d)]) 0,dI t],none),(10,dP g2 6,none),(11,.sh 7 (kids.map Nd.d),none),(12,.el (.agg [.s yax1,.s ybx1,dI ycx1,dI ydx1,.sh 1 (yex1.map D.s),.sh 3 (yfx1.map MatD.d),.sh 7 (Nd.ds ygx1)]) 0,none),(13,.agg [.s yax1,.s ybx1,dI ycx1,dI ydx1,.sh 1 (yex1.map D.s),.sh 3 (yfx1.map MatD.d),.sh 7 (Nd.ds ygx1)],none),(14,.tup [.ifc 32 (.sh 2 (l.map RowD.d)),dI 0],none),(8,.tup [.ifc 32 (.sh 2 (l.map RowD.d)),dI 0],none),(15,.ifc 32 (.sh 2 (l.map RowD.d)),none),(16,dI 0,none),(6,.ifc 32 (.sh 2 (l.map RowD.d)),none)] [.bx g2 64 (.agg [.s tAgg,.s bSum,dI n,dI mode,.sh 1 (names.map D.s),.sh 3 (([]:List MatD).map MatD.d),.sh 7 (kids.map Nd.d)]),.bx g1 130 (.agg [.el (.agg [.sh 2 (S.map SerD.d)]) 0,dI t])] (Hn:=[.bx g2 64 (.agg [.s tAgg,.s bSum,dI n,dI mode,.sh 1 (names.map D.s),.sh 3 (([]:List MatD).map MatD.d),.sh 7 (kids.map Nd.d)]),.bx g1 130 (.agg [.el (.agg [.sh 2 (S.map SerD.d)]) 0,dI t])]) mixed O O O O wQ O ⟨sa_p O O O (zaS (d:=.agg [.el (.agg [.sh 2 (S.map SerD.d)]) 0,dI t]) O (i:=1) O Tryz.isAgg130 Tryz.sizeOf130 O O),sa_p O O O (zo O fa_64_6 O),sa_p O O O (zp O (i:=0) O Tryz.isAgg62 O),sa_p O O O (zi (k:=0) O O Tryz.runUnderlying62 Tryz.sizeOf64 (by first | rfl | omega) (ze hx1)),sa_p O O O (zL (d:=.agg [.s yax1,.s ybx1,dI ycx1,dI ydx1,.sh 1 (yex1.map D.s),.sh 3 (yfx1.map MatD.d),.sh 7 (Nd.ds ygx1)]) O Tryz.isAgg64 Tryz.sizeOf64 O O),sa_q O O O (zU O (gc (gc .nil)) Tryz.call79 (iha) zN),sa_p O O O (zc O),sa_p O O O (zaT O O),sa_p O O O (zaT O O),sa_p O O O (p_assign O),trivial⟩ ?_;refine tK O (g' 10 O ?_);refine tD O (λhc3=>?_) (λhc3=>?_)
 · exfalso;omega
 refine g' 3 O (T.keep [0,1,2,3,4,5,6,7,8,9,10,11,12,13,14,15,16,17,18] O ?_);refine tDr 16 [(20,dP g2 1,none),(21,.s bSum,none),(22,dP g2 2,none),(23,dI n,none),(24,dP g2 3,none),(25,dI mode,none),(26,dP g2 4,none),(27,.sh 1 (names.map D.s),none),(28,.ifc 32 (.sh 2 (l.map RowD.d)),none),(29,.sh 2 (l.map RowD.d),none),(30,.tup [.sh 2 ((gdL (Way.sums false) mode names l).map RowD.d),dI (gdE (Way.sums false) mode names l)],none),(31,.sh 2 ((gdL (Way.sums false) mode names l).map RowD.d),none),(32,dI (gdE (Way.sums false) mode names l),none),(33,.tup [.ifc 32 (.sh 2 ((gdL (Way.sums false) mode names l).map RowD.d)),dI (gdE (Way.sums false) mode names l)],none),(34,.ifc 32 (.sh 2 ((gdL (Way.sums false) mode names l).map RowD.d)),none),(35,dI (gdE (Way.sums false) mode names l),none)] [.bx g2 64 (.agg [.s tAgg,.s bSum,dI n,dI mode,.sh 1 (names.map D.s),.sh 3 (([]:List MatD).map MatD.d),.sh 7 (kids.map Nd.d)]),.bx g1 130 (.agg [.el (.agg [.sh 2 (S.map SerD.d)]) 0,dI t])] (Hn:=[.bx g2 64 (.agg [.s tAgg,.s bSum,dI n,dI mode,.sh 1 (names.map D.s),.sh 3 (([]:List MatD).map MatD.d),.sh 7 (kids.map Nd.d)]),.bx g1 130 (.agg [.el (.agg [.sh 2 (S.map SerD.d)]) 0,dI t])]) mixed O O O O wQ O ⟨sa_p O O O (zo O fa_64_1 O),sa_p O O O (zp O (i:=0) O Tryz.isAgg9 O),sa_p O O O (zo O fa_64_2 O),sa_p O O O (zp O (i:=0) O Tryz.isAgg3 O),sa_p O O O (zo O fa_64_3 O),sa_p O O O (zp O (i:=0) O Tryz.isAgg3 O),sa_p O O O (zo O fa_64_4 O),sa_p O O O (zp O (i:=0) O Tryz.isAgg56 O),sa_p O O O (zc O),sa_p O O O (p_assert_1 O (λ_ _=>by kernel_rfl)),sa_q O O O (zU O (gc (gc (gc (gc (gc .nil))))) Tryz.call171 (doF_c n mode names l (by omega)) zN),sa_p O O O (zaT O O),sa_p O O O (zaT O O),sa_q O O O (zU O (gc (gc .nil)) Tryz.call119 (rows_c (gdL (Way.sums false) mode names l) (gdE (Way.sums false) mode names l)) zN),sa_p O O O (zaT O O),sa_p O O O (zaT O O),trivial⟩ ?_;refine tK O (g' 5 O ?_);exact tR O HSub.none ⟨O,O⟩
theorem of_agg (S:List SerD) (t:Int) (n mode:Int) (names:List ByteArray) (kids:List Nd) (ka:Nd) (l:List RowD) (hkl:1<=kids.length) (hka:kids[0]?=some ka) (iha:CD Tryz.prog 79 [] [.agg [.el (.agg [.sh 2 (S.map SerD.d)]) 0,dI t],Nd.d ka] (isR (.tup [.ifc 32 (.sh 2 (l.map RowD.d)),dI 0]))) (hll:l.length<=1000000):
 CD Tryz.prog 79 [] [.agg [.el (.agg [.sh 2 (S.map SerD.d)]) 0,dI t],.agg [.s tAgg,.s bSum,dI n,dI mode,.sh 1 (names.map D.s),.sh 3 (([]:List MatD).map MatD.d),.sh 7 (kids.map Nd.d)]] (isR (.tup [.ifc 32 (.sh 2 ((gdL (Way.sums false) mode names l).map RowD.d)),dI (gdE (Way.sums false) mode names l)])):=by
 refine tZ Tryz.func79 O O (λC=>?_);refine T.bd 0 O (λbd0=>?_);refine T.bd 1 O (λbd1=>?_);refine g' 2 O ?_;refine tA O (λg1=>?_);refine tA O (λg2=>?_);refine gQ 14 [0] O O (tP O (zbI (q:=false) O O (by decide)) (g' 6 O (tP O (zbI (q:=false) O O (by decide)) (g' 6 O (tP O (zbI (q:=false) O O (by decide)) (g' 6 O (tP O (zbI (q:=false) O O (by decide)) (g' 6 O (tP O (zbI (q:=false) O O (by decide)) (gQ 11 [1,0] O O (tW O acs (agg_c S t n mode names kids ka l hkl hka iha hll) (g' 7 O ?_))))))))))));exact tR O HSub.none ⟨O,O⟩
theorem of_bin (S:List SerD) (t:Int) (text:ByteArray) (n mode:Int) (names:List ByteArray) (kids:List Nd) (ka kb:Nd) (va vb:Int) (hkl:2<=kids.length) (hka:kids[0]?=some ka) (hkb:kids[1]?=some kb) (iha:CD Tryz.prog 79 [] [.agg [.el (.agg [.sh 2 (S.map SerD.d)]) 0,dI t],Nd.d ka] (isR (.tup [.ifc 133 (.agg [dI va]),dI 0]))) (ihb:CD Tryz.prog 79 [] [.agg [.el (.agg [.sh 2 (S.map SerD.d)]) 0,dI t],Nd.d kb] (isR (.tup [.ifc 133 (.agg [dI vb]),dI 0]))):
 CD Tryz.prog 79 [] [.agg [.el (.agg [.sh 2 (S.map SerD.d)]) 0,dI t],.agg [.s tBin,.s text,dI n,dI mode,.sh 1 (names.map D.s),.sh 3 (([]:List MatD).map MatD.d),.sh 7 (kids.map Nd.d)]] (isR (.tup [.ifc 133 (.agg [dI ((doE text va vb).1)]),dI ((doE text va vb).2)])):=by
 refine tZ Tryz.func79 O O (λC=>?_);refine T.bd 0 O (λbd0=>?_);refine T.bd 1 O (λbd1=>?_);refine g' 2 O ?_;refine tA O (λg1=>?_);refine tA O (λg2=>?_);refine gQ 14 [0] O O (tP O (zbI (q:=false) O O (by decide)) (g' 6 O (tP O (zbI (q:=false) O O (by decide)) (g' 6 O (tP O (zbI (q:=false) O O (by decide)) (g' 6 O (tP O (zbI (q:=false) O O (by decide)) (g' 6 O (tP O (zbI (q:=true) O O (by decide)) (gQ 8 [1,0] O O (tW O acs (bin_c S t text n mode names kids ka kb va vb hkl hka hkb iha ihb) (g' 9 O ?_))))))))))));exact tR O HSub.none ⟨O,O⟩
theorem evalN_c (S:List SerD) (t:Int) (op text:ByteArray) (n mode:Int) (names:List ByteArray) (ms:List MatD) (kids:List Nd) (v:Int) (ht0:0<=t) (ht1:t<=1000000000) (hc:Nd.cntL kids<=10000) (hk:(Nd.mk op text n mode names ms kids).kind=1) (iho:CD Tryz.prog 79 [] [.agg [.el (.agg [.sh 2 (S.map SerD.d)]) 0,dI t],.agg [.s op,.s text,dI n,dI mode,.sh 1 (names.map D.s),.sh 3 (ms.map MatD.d),.sh 7 (Nd.ds kids)]] (isR (.tup [.ifc 133 (.agg [dI v]),dI 0]))):
 CD Tryz.prog 52 [] [.el (.agg [.sh 2 (S.map SerD.d)]) 0,.agg [.s op,.s text,dI n,dI mode,.sh 1 (names.map D.s),.sh 3 (ms.map MatD.d),.sh 7 (Nd.ds kids)],dI t] (isR (.tup [(D.ls 2 RowD.d) [⟨[],v⟩],dI 0])):=by
 refine tZ Tryz.func52 O O (λC=>?_);refine T.bd 0 O (λbd0=>?_);refine T.bd 1 O (λbd1=>?_);have hke:(Nd.mk op text n mode names ms kids).kindE=0:=by unfold Nd.kindE;rw[hk];rfl
 refine g' 2 O ?_;refine tA O (λg1=>?_);refine g' 10 O ?_;refine tOr 2 2 (c:=decide ((1000000000:Int)<t)) O O O O O O (λhb2 nx3=>?_) ?_
 · have hf4:=of_decide_eq_false hb2;refine g' 2 O ?_;exact nx3 _ O O (kx 2 O O)
 refine g' 2 O ?_;refine tC O (λhc5=>?_) (λhc5=>?_)
 · simp only[bX,bJ] at hc5;exfalso;omega
 simp only[bX,bJ] at hc5;refine gQ 5 [0] O O (tW O acs (of_c (Nd.mk op text n mode names ms kids) (by simp only[Nd.cnt];omega)) (g' 16 O ?_));refine tD O (λhc6=>?_) (λhc6=>?_)
 · exfalso;exact hc6 hke
 refine g' 7 O ?_;refine tD O (λhc7=>?_) (λhc7=>?_)
 · exfalso;omega
 refine g' 3 O (tP O (p_elnil O O zc8) (g' 11 O (tP O (zr [0,1] [.tmp 37,.tmp 38] (zv:=(.agg #[(.pointer none),(.int .i64 0)])) O O (.cons CellD.el (.cons (CellD.v O) .nil)) (Tryz.runUnderlying130) Tryz.zeroValue130 bd_130 ⟨O,O,trivial⟩ O) (gQ 1 [0] O O (tW O acs (iho) (g' 14 O ?_))))));refine tD O (λhc8=>?_) (λhc8=>?_)
 · exfalso;omega
 refine g' 6 O (tP O (zaG O (λ_ _=>by kernel_rfl)) (g' 3 O ?_));refine tA O (λg9=>?_);refine gQ 14 [0,0] O O (tP O (zr [1] [.tmp 54] (zv:=(.agg #[(.slice none 0 0),(.int .i64 0)])) O O (.cons (CellD.v O) .nil) (Tryz.runUnderlying45) Tryz.zeroValue45 zfl ⟨O,O,trivial⟩ O) (tE O (zt [.tmp 55] O O (.cons CellD.agg .nil) O Tryz.runUnderlying32 Tryz.sizeOf45 Tryz.zeroValue45 O O O O) ?_));rintro _ _ ⟨g10,rfl,rfl⟩;refine g' 6 O (mP (wT (h':=.sl (vS g10 1 1) 2 45 ([(RowD.mk [] v)].map RowD.d)) O (w9 (.cons (Cv.agg (.cons (Cv.nil) (gc .nil))) .nil))) ?_);refine mO (Mv.freeze (K':=[(0,.el (.agg [.sh 2 (S.map SerD.d)]) 0),(1,.agg [.s op,.s text,dI n,dI mode,.sh 1 (names.map D.s),.sh 3 (ms.map MatD.d),.sh 7 (Nd.ds kids)]),(2,dI t),(4,dP g1 0),(6,.sh 2 ([(RowD.mk [] v)].map RowD.d)),(7,dI 0),(8,dI ((Nd.mk op text n mode names ms kids).kind)),(9,dI 0),(10,.ifc 133 (.agg [dI v])),(11,dP g9 0),(12,dB true),(13,dI t),(14,dB (decide (t<(0:Int)))),(15,dB (decide (t<(0:Int)))),(18,dB (decide (t<(0:Int))||decide ((1000000000:Int)<t))),(19,.tup [dI ((Nd.mk op text n mode names ms kids).kind),dI ((Nd.mk op text n mode names ms kids).kindE)]),(20,.agg [.s op,.s text,dI n,dI mode,.sh 1 (names.map D.s),.sh 3 (ms.map MatD.d),.sh 7 (Nd.ds kids)]),(21,.tup [dI ((Nd.mk op text n mode names ms kids).kind),dI ((Nd.mk op text n mode names ms kids).kindE)]),(22,dI ((Nd.mk op text n mode names ms kids).kind)),(23,dI ((Nd.mk op text n mode names ms kids).kindE)),(24,dB (decide ((Nd.mk op text n mode names ms kids).kindE≠(0:Int)))),(25,dI ((Nd.mk op text n mode names ms kids).kindE)),(26,dB (decide ((Nd.mk op text n mode names ms kids).kindE≠(0:Int)))),(28,dB (decide ((Nd.mk op text n mode names ms kids).kind=(3:Int)))),(29,dI ((Nd.mk op text n mode names ms kids).kind)),(30,dB (decide ((Nd.mk op text n mode names ms kids).kind=(3:Int)))),(31,dB false),(32,.el (.agg [.sh 2 (S.map SerD.d)]) 0),(33,dB false),(36,.tup [.ifc 133 (.agg [dI v]),dI 0]),(37,.el (.agg [.sh 2 (S.map SerD.d)]) 0),(38,dI t),(39,.agg [.el (.agg [.sh 2 (S.map SerD.d)]) 0,dI t]),(40,.agg [.s op,.s text,dI n,dI mode,.sh 1 (names.map D.s),.sh 3 (ms.map MatD.d),.sh 7 (Nd.ds kids)]),(41,.tup [.ifc 133 (.agg [dI v]),dI 0]),(42,.ifc 133 (.agg [dI v])),(43,dI 0),(44,dI 0),(45,dB (decide (0≠(0:Int)))),(47,.tup [.agg [dI v],dB true]),(48,.ifc 133 (.agg [dI v])),(49,.tup [.agg [dI v],dB true]),(50,.agg [dI v]),(51,dB true),(52,dB true),(53,dP g9 0),(54,dI v),(55,.agg [dZ,dI v]),(56,.sh 2 ([(RowD.mk [] v)].map RowD.d))]) [.sl (vS g10 1 1) 2 45 ([(RowD.mk [] v)].map RowD.d)] (H1:=[.bx g9 133 (.agg [dI v]),.bx g1 64 (.agg [.s op,.s text,dI n,dI mode,.sh 1 (names.map D.s),.sh 3 (ms.map MatD.d),.sh 7 (Nd.ds kids)])]) (H1':=[.bx g9 133 (.agg [dI v]),.bx g1 64 (.agg [.s op,.s text,dI n,dI mode,.sh 1 (names.map D.s),.sh 3 (ms.map MatD.d),.sh 7 (Nd.ds kids)])]) ⟨⟨_,O,w6⟩,⟨_,O,w6⟩,⟨_,O,w6⟩,⟨_,O,w6⟩,⟨_,O,w7 (j:=0) O O⟩,⟨_,O,w6⟩,⟨_,O,w6⟩,⟨_,O,w6⟩,⟨_,O,w6⟩,⟨_,O,w6⟩,⟨_,O,w6⟩,⟨_,O,w6⟩,⟨_,O,w6⟩,⟨_,O,w6⟩,⟨_,O,w6⟩,⟨_,O,w6⟩,⟨_,O,w6⟩,⟨_,O,w6⟩,⟨_,O,w6⟩,⟨_,O,w6⟩,⟨_,O,w6⟩,⟨_,O,w6⟩,⟨_,O,w6⟩,⟨_,O,w6⟩,⟨_,O,w6⟩,⟨_,O,w6⟩,⟨_,O,w6⟩,⟨_,O,w6⟩,⟨_,O,w6⟩,⟨_,O,w6⟩,⟨_,O,w6⟩,⟨_,O,w6⟩,⟨_,O,w6⟩,⟨_,O,w6⟩,⟨_,O,w6⟩,⟨_,O,w6⟩,⟨_,O,w6⟩,⟨_,O,w6⟩,⟨_,O,w6⟩,⟨_,O,w6⟩,⟨_,O,w6⟩,⟨_,O,w6⟩,⟨_,O,w6⟩,⟨_,O,w6⟩,⟨_,O,w6⟩,⟨_,O,w6⟩,⟨_,O,w6⟩,⟨_,O,w6⟩,⟨_,O,w7 (j:=0) O O⟩,trivial⟩ (.same (.same .nil))) ?_;exact tRs O Tryz.results52 (.cons (zf (zd O) (wO (congrArg (D.ls 2 RowD.d) (show [(RowD.mk [] v)]=[⟨[],v⟩] from(by rfl))))) (.cons (zd O) .nil)) O HSub.none ⟨O,O⟩
theorem evalV_c (S:List SerD) (t:Int) (op text:ByteArray) (n mode:Int) (names:List ByteArray) (ms:List MatD) (kids:List Nd) (l:List RowD) (ht0:0<=t) (ht1:t<=1000000000) (hc:Nd.cntL kids<=10000) (hk:(Nd.mk op text n mode names ms kids).kind=2) (iho:CD Tryz.prog 79 [] [.agg [.el (.agg [.sh 2 (S.map SerD.d)]) 0,dI t],.agg [.s op,.s text,dI n,dI mode,.sh 1 (names.map D.s),.sh 3 (ms.map MatD.d),.sh 7 (Nd.ds kids)]] (isR (.tup [.ifc 32 (.sh 2 (l.map RowD.d)),dI 0]))):
 CD Tryz.prog 52 [] [.el (.agg [.sh 2 (S.map SerD.d)]) 0,.agg [.s op,.s text,dI n,dI mode,.sh 1 (names.map D.s),.sh 3 (ms.map MatD.d),.sh 7 (Nd.ds kids)],dI t] (isR (.tup [(D.ls 2 RowD.d) l,dI 0])):=by
 refine tZ Tryz.func52 O O (λC=>?_);refine T.bd 0 O (λbd0=>?_);refine T.bd 1 O (λbd1=>?_);have hke:(Nd.mk op text n mode names ms kids).kindE=0:=by unfold Nd.kindE;rw[hk];rfl
 refine g' 2 O ?_;refine tA O (λg1=>?_);refine g' 10 O ?_;refine tOr 2 2 (c:=decide ((1000000000:Int)<t)) O O O O O O (λhb2 nx3=>?_) ?_
 · have hf4:=of_decide_eq_false hb2;refine g' 2 O ?_;exact nx3 _ O O (kx 2 O O)
 refine g' 2 O ?_;refine tC O (λhc5=>?_) (λhc5=>?_)
 · simp only[bX,bJ] at hc5;exfalso;omega
 simp only[bX,bJ] at hc5;refine gQ 5 [0] O O (tW O acs (of_c (Nd.mk op text n mode names ms kids) (by simp only[Nd.cnt];omega)) (g' 16 O ?_));refine tD O (λhc6=>?_) (λhc6=>?_)
 · exfalso;exact hc6 hke
 refine g' 7 O ?_;refine tD O (λhc7=>?_) (λhc7=>?_)
 · exfalso;omega
 refine g' 3 O (tP O (p_elnil O O zc8) (g' 11 O (tP O (zr [0,1] [.tmp 37,.tmp 38] (zv:=(.agg #[(.pointer none),(.int .i64 0)])) O O (.cons CellD.el (.cons (CellD.v O) .nil)) (Tryz.runUnderlying130) Tryz.zeroValue130 bd_130 ⟨O,O,trivial⟩ O) (gQ 1 [0] O O (tW O acs (iho) (g' 14 O ?_))))));refine tD O (λhc8=>?_) (λhc8=>?_)
 · exfalso;omega
 refine g' 6 O (tP O ((zam (zv:=(.agg #[(.int .i64 0)])) O (λ_ _=>by kernel_rfl)).cv (Cv.tup (.cons (wP (by decide)) (gc .nil)))) (g' 3 O ?_));refine tA O (λg9=>?_);refine gQ 15 [0] O O (tP O (p_assert_1 O (λ_ _=>by kernel_rfl)) (g' 5 O ?_));exact tR O HSub.none ⟨O,O⟩
theorem query0_c (S:List SerD) (t:Int) (op text:ByteArray) (n mode:Int) (names:List ByteArray) (ms:List MatD) (kids:List Nd) (l:List RowD) (hc:Nd.cntL kids<=10000) (hck:(Nd.mk op text n mode names ms kids).checkE=0) (hev:CD Tryz.prog 52 [] [.el (.agg [.sh 2 (S.map SerD.d)]) 0,.agg [.s op,.s text,dI n,dI mode,.sh 1 (names.map D.s),.sh 3 (ms.map MatD.d),.sh 7 (Nd.ds kids)],dI t] (isR (.tup [(D.ls 2 RowD.d) l,dI 0]))):
 CD Tryz.prog 26 [] [.el (.agg [.sh 2 (S.map SerD.d)]) 0,.agg [.s op,.s text,dI n,dI mode,.sh 1 (names.map D.s),.sh 3 (ms.map MatD.d),.sh 7 (Nd.ds kids),dI 0,dI (-1),dI (-1)],dI t] (isR (.tup [(D.ls 2 RowD.d) l,dI 0])):=by
 refine tZ Tryz.func26 O O (λC=>?_);refine T.bd 0 O (λbd0=>?_);refine T.bd 1 O (λbd1=>?_);refine g' 2 O ?_;refine tA O (λg1=>?_);refine gQ 8 [0] O O (tW O acs (check_c op text n mode names ms kids 0 (-1) (-1) (by omega)) (g' 9 O ?_));refine tD O (λhc2=>?_) (λhc2=>?_)
 · exfalso;exact hc2 hck
 refine gQ 8 [0] O O (tW O acs (hev) (g' 14 O ?_));refine tD O (λhc3=>?_) (λhc3=>?_)
 · exfalso;omega
 refine gQ 10 [0] O O ?_;refine tD O (λhc4=>?_) (λhc4=>?_)
 · exfalso;omega
 refine gQ 7 [0] O O (tP O (zfq O O O) (g' 1 O (tP O (zJ (n:=l.length) O Tryz.runUnderlying32 (by simp only[lm,lc,ln])) (tP O (p_min O O O) (tP O ((zdd (a:=((min (max ((-1):Int) (0:Int)) ((l.length:Nat):Int))).toNat) (b:=l.length) O O O (by first | rfl | (show _=_;(try simp only[lm]);omega) | exact cP _) (by first | rfl | (show _=_;(try simp only[lm]);omega) | exact cP _) Tryz.runUnderlying32 Tryz.sizeOf45 (by omega) (by simp only[lm];omega)).cv (wO (by rw[<-jF,<-jJ]))) (gQ 11 [0] O O ?_))))));refine tD O (λhc5=>?_) (λhc5=>?_)
 · exfalso;omega
 refine g' 10 O ?_;exact tRs O Tryz.results26 (.cons (zf (zd O) (wO (congrArg (D.ls 2 RowD.d) (show ((l.take l.length).drop (((min (max ((-1):Int) (0:Int)) ((l.length:Nat):Int))).toNat))=l from(by rw[jK,show (min (max ((-1):Int) (0:Int)) ((l.length:Nat):Int)).toNat=0 by omega];rfl))))) (.cons (zd O) .nil)) O HSub.none ⟨O,O⟩
theorem q2_take (x:List RowD):(((((x.take x.length).drop (min (max ((-1):Int) (0:Int)) ((x.length:Nat):Int)).toNat).take (min (1:Int) (((((x.take x.length).drop (min (max ((-1):Int) (0:Int)) ((x.length:Nat):Int)).toNat).length:Nat)):Int)).toNat)).drop 0)=x.take 1:=by
 have e:(min (max ((-1):Int) (0:Int)) ((x.length:Nat):Int)).toNat=0:=by omega
 rw[jK,e,jW,jW];cases x with
 | nil=>simp
 | cons a r=>rw[show (min (1:Int) (((a::r).length:Nat):Int)).toNat=1 by simp only[lc];omega]
theorem query2_c (S:List SerD) (t:Int) (op text:ByteArray) (n mode:Int) (names:List ByteArray) (ms:List MatD) (kids:List Nd) (l:List RowD) (hc:Nd.cntL kids<=10000) (hck:(Nd.mk op text n mode names ms kids).checkE=0) (hev:CD Tryz.prog 52 [] [.el (.agg [.sh 2 (S.map SerD.d)]) 0,.agg [.s op,.s text,dI n,dI mode,.sh 1 (names.map D.s),.sh 3 (ms.map MatD.d),.sh 7 (Nd.ds kids)],dI t] (isR (.tup [(D.ls 2 RowD.d) l,dI 0]))) (hll:l.length<=1000000) (hl0:0<l.length):
 CD Tryz.prog 26 [] [.el (.agg [.sh 2 (S.map SerD.d)]) 0,.agg [.s op,.s text,dI n,dI mode,.sh 1 (names.map D.s),.sh 3 (ms.map MatD.d),.sh 7 (Nd.ds kids),dI 2,dI 1,dI (-1)],dI t] (isR (.tup [(D.ls 2 RowD.d) ((zu (zh 2) l).take 1),dI 0])):=by
 refine tZ Tryz.func26 O O (λC=>?_);refine T.bd 0 O (λbd0=>?_);refine T.bd 1 O (λbd1=>?_);refine g' 2 O ?_;refine tA O (λg1=>?_);refine gQ 8 [0] O O (tW O acs (check_c op text n mode names ms kids 2 1 (-1) (by omega)) (g' 9 O ?_));refine tD O (λhc2=>?_) (λhc2=>?_)
 · exfalso;exact hc2 hck
 refine gQ 8 [0] O O (tW O acs (hev) (g' 14 O ?_));refine tD O (λhc3=>?_) (λhc3=>?_)
 · exfalso;omega
 refine gQ 10 [0] O O ?_;refine tD O (λhc4=>?_) (λhc4=>?_)
 · refine gQ 4 [0] O O (tX [] O O acs (SortR_c 2 l (by omega)) ?_);rintro _ _ ⟨v5,rfl,rfl⟩;refine g' 4 O ?_;refine mO (Mv.freeze (K':=[(0,.el (.agg [.sh 2 (S.map SerD.d)]) 0),(1,.agg [.s op,.s text,dI n,dI mode,.sh 1 (names.map D.s),.sh 3 (ms.map MatD.d),.sh 7 (Nd.ds kids),dI 2,dI 1,dI (-1)]),(2,dI t),(4,dP g1 0),(6,dZ),(7,dI 0),(8,dI ((Nd.mk op text n mode names ms kids).checkE)),(9,.sh 2 ((zu (zh 2) l).map RowD.d)),(10,dI 0),(11,.agg [.s op,.s text,dI n,dI mode,.sh 1 (names.map D.s),.sh 3 (ms.map MatD.d),.sh 7 (Nd.ds kids),dI 2,dI 1,dI (-1)]),(12,dI ((Nd.mk op text n mode names ms kids).checkE)),(13,dI ((Nd.mk op text n mode names ms kids).checkE)),(14,dB (decide ((Nd.mk op text n mode names ms kids).checkE≠(0:Int)))),(16,.tup [.sh 2 (l.map RowD.d),dI 0]),(17,.el (.agg [.sh 2 (S.map SerD.d)]) 0),(18,dP g1 0),(19,.agg [.s op,.s text,dI n,dI mode,.sh 1 (names.map D.s),.sh 3 (ms.map MatD.d),.sh 7 (Nd.ds kids)]),(20,dI t),(21,.tup [.sh 2 (l.map RowD.d),dI 0]),(22,.sh 2 (l.map RowD.d)),(23,dI 0),(24,dI 0),(25,dB (decide (0≠(0:Int)))),(27,dP g1 7),(28,dI 2),(29,dB (decide ((2:Int)≠(0:Int)))),(30,dP g1 7),(31,dI 2),(32,.sh 2 (l.map RowD.d)),(33,.sh 2 ((zu (zh 2) l).map RowD.d))]) [.sl v5 2 45 ((zu (zh 2) l).map RowD.d)] (H1:=[.bx g1 66 (.agg [.s op,.s text,dI n,dI mode,.sh 1 (names.map D.s),.sh 3 (ms.map MatD.d),.sh 7 (Nd.ds kids),dI 2,dI 1,dI (-1)])]) (H1':=[.bx g1 66 (.agg [.s op,.s text,dI n,dI mode,.sh 1 (names.map D.s),.sh 3 (ms.map MatD.d),.sh 7 (Nd.ds kids),dI 2,dI 1,dI (-1)])]) ⟨⟨_,O,w6⟩,⟨_,O,w6⟩,⟨_,O,w6⟩,⟨_,O,w6⟩,⟨_,O,w6⟩,⟨_,O,w6⟩,⟨_,O,w6⟩,⟨_,O,w7 (j:=0) O O⟩,⟨_,O,w6⟩,⟨_,O,w6⟩,⟨_,O,w6⟩,⟨_,O,w6⟩,⟨_,O,w6⟩,⟨_,O,w6⟩,⟨_,O,w6⟩,⟨_,O,w6⟩,⟨_,O,w6⟩,⟨_,O,w6⟩,⟨_,O,w6⟩,⟨_,O,w6⟩,⟨_,O,w6⟩,⟨_,O,w6⟩,⟨_,O,w6⟩,⟨_,O,w6⟩,⟨_,O,w6⟩,⟨_,O,w6⟩,⟨_,O,w6⟩,⟨_,O,w6⟩,⟨_,O,w6⟩,⟨_,O,w7 (j:=0) O O⟩,trivial⟩ (.same .nil)) ?_;refine gQ 4 [0] O O (tP O (zfq O O O) (g' 1 O (tP O (zJ (n:=(zu (zh 2) l).length) O Tryz.runUnderlying32 (by simp only[lm,lc,ln])) (tP O (p_min O O O) (tP O ((zdd (a:=((min (max ((-1):Int) (0:Int)) (((zu (zh 2) l).length:Nat):Int))).toNat) (b:=(zu (zh 2) l).length) O O O (by first | rfl | (show _=_;(try simp only[lm]);omega) | exact cP _) (by first | rfl | (show _=_;(try simp only[lm]);omega) | exact cP _) Tryz.runUnderlying32 Tryz.sizeOf45 (by omega) (by simp only[lm];omega)).cv (wO (by rw[<-jF,<-jJ]))) (gQ 11 [0] O O ?_))))));refine tD O (λhc6=>?_) (λhc6=>?_)
   · refine gQ 5 [0] O O (tP O (zJ (n:=(((zu (zh 2) l).take ((zu (zh 2) l).length)).drop (((min (max ((-1):Int) (0:Int)) (((zu (zh 2) l).length:Nat):Int))).toNat)).length) O Tryz.runUnderlying32 (by simp only[lm,lc,ln])) (tP O (p_min O O O) (tP O ((zdd (a:=0) (b:=((min (1:Int) (((((zu (zh 2) l).take ((zu (zh 2) l).length)).drop (((min (max ((-1):Int) (0:Int)) (((zu (zh 2) l).length:Nat):Int))).toNat)).length:Nat):Int))).toNat) O O O (by first | rfl | (show _=_;(try simp only[lm]);omega) | exact cP _) (by first | rfl | (show _=_;(try simp only[lm]);omega) | exact cP _) Tryz.runUnderlying32 Tryz.sizeOf45 (by omega) (by simp only[lm];omega)).cv (wO (by rw[<-jF,<-jJ]))) (g' 11 O ?_))));exact tRs O Tryz.results26 (.cons (zf (zd O) (wO (congrArg (D.ls 2 RowD.d) (show (((((zu (zh 2) l).take ((zu (zh 2) l).length)).drop (((min (max ((-1):Int) (0:Int)) (((zu (zh 2) l).length:Nat):Int))).toNat)).take (((min (1:Int) (((((zu (zh 2) l).take ((zu (zh 2) l).length)).drop (((min (max ((-1):Int) (0:Int)) (((zu (zh 2) l).length:Nat):Int))).toNat)).length:Nat):Int))).toNat)).drop 0)=(zu (zh 2) l).take 1 from(by exact q2_take _))))) (.cons (zd O) .nil)) O HSub.none ⟨O,O⟩
   exfalso;omega
 exfalso;omega
theorem read12_1 (ev es:Value) (hev:EvOk ev) (hes:EvOk es):CD Tryz.prog 25 [HPow,HErr ev,HSyn es] [.v (.string zff)] (λr H'=>r=.tup [.agg [.s tAgg,.s bSum,dI 0,dI 1,.sh 1 ([zdg].map D.s),.sh 3 (([]:List MatD).map MatD.d),.sh 7 (Nd.ds [a12C]),dI 2,dI 1,dI (-1)],dI 0]/\H'=[HPow,HErr ev,HSyn es]):=by
 have h:=Read_c zff ev es hev hes;rw[al12_r1.1,al12_r1.2] at h;refine CD.to ⟨λw F vs hvs hF hH=>h.out w F vs (by obtain ⟨u,us,e,hu,hus⟩:=hvs;exact⟨u,us,e,⟨hu,by decide⟩,hus⟩) hF hH⟩ ?_;rintro r H' ⟨op,text,n,mode,names,ms,kids,o,a,b,e,rfl,rfl⟩;injection e with e1 e2 e3 e4;subst e2;subst e3;subst e4;injection e1 with a1 a2 a3 a4 a5 a6 a7;subst a1;subst a2;subst a3;subst a4;subst a5;subst a6;subst a7;exact⟨O,O⟩
theorem read12_2 (ev es:Value) (hev:EvOk ev) (hes:EvOk es):CD Tryz.prog 25 [HPow,HErr ev,HSyn es] [.v (.string zfe)] (λr H'=>r=.tup [.agg [.s tBin,.s zeQ,dI 0,dI 0,.sh 1 (([]:List ByteArray).map D.s),.sh 3 (([]:List MatD).map MatD.d),.sh 7 (Nd.ds [numN 1,a12P]),dI 0,dI (-1),dI (-1)],dI 0]/\H'=[HPow,HErr ev,HSyn es]):=by
 have h:=Read_c zfe ev es hev hes;rw[al12_r2.1,al12_r2.2] at h;refine CD.to ⟨λw F vs hvs hF hH=>h.out w F vs (by obtain ⟨u,us,e,hu,hus⟩:=hvs;exact⟨u,us,e,⟨hu,by decide⟩,hus⟩) hF hH⟩ ?_;rintro r H' ⟨op,text,n,mode,names,ms,kids,o,a,b,e,rfl,rfl⟩;injection e with e1 e2 e3 e4;subst e2;subst e3;subst e4;injection e1 with a1 a2 a3 a4 a5 a6 a7;subst a1;subst a2;subst a3;subst a4;subst a5;subst a6;subst a7;exact⟨O,O⟩
theorem al_c:CD Tryz.prog 79 [] [.agg [.el (.agg [.sh 2 (alS.map SerD.d)]) 0,dI 20],Nd.d a12C] (isR (.tup [.ifc 32 (.sh 2 (alV.map RowD.d)),dI 0])):=by
 have h:=of_sel alS 20 bCpu 0 0 [] [] (by decide) alS_len;rw[al_rt.1,al_rt.2] at h;exact h
theorem al_a:CD Tryz.prog 79 [] [.agg [.el (.agg [.sh 2 (alS.map SerD.d)]) 0,dI 20],Nd.d a12A] (isR (.tup [.ifc 32 (.sh 2 (alG.map RowD.d)),dI 0])):=by
 have h:=of_agg alS 20 0 1 [zdg] [a12C] a12C alV (by decide) O al_c (by decide);rw[al_gd.1,al_gd.2] at h;exact h
theorem al_n1:CD Tryz.prog 79 [] [.agg [.el (.agg [.sh 2 (alS.map SerD.d)]) 0,dI 0],Nd.d (numN 1)] (isR (.tup [.ifc 133 (.agg [dI 1]),dI 0])):=by
 have h:=of_num alS 0 ByteArray.empty 1 0 [] [] [];exact h
theorem al_n2:CD Tryz.prog 79 [] [.agg [.el (.agg [.sh 2 (alS.map SerD.d)]) 0,dI 0],Nd.d (numN 2)] (isR (.tup [.ifc 133 (.agg [dI 2]),dI 0])):=by
 have h:=of_num alS 0 ByteArray.empty 2 0 [] [] [];exact h
theorem al_n3:CD Tryz.prog 79 [] [.agg [.el (.agg [.sh 2 (alS.map SerD.d)]) 0,dI 0],Nd.d (numN 3)] (isR (.tup [.ifc 133 (.agg [dI 3]),dI 0])):=by
 have h:=of_num alS 0 ByteArray.empty 3 0 [] [] [];exact h
theorem al_p:CD Tryz.prog 79 [] [.agg [.el (.agg [.sh 2 (alS.map SerD.d)]) 0,dI 0],Nd.d a12P] (isR (.tup [.ifc 133 (.agg [dI 6]),dI 0])):=by
 have h:=of_bin alS 0 tTimes 0 0 [] [numN 2,numN 3] (numN 2) (numN 3) 2 3 (by decide) O O al_n2 al_n3;rw[show doE tTimes 2 3=(6,0) from by decide] at h;exact h
theorem al_b:CD Tryz.prog 79 [] [.agg [.el (.agg [.sh 2 (alS.map SerD.d)]) 0,dI 0],Nd.d a12B] (isR (.tup [.ifc 133 (.agg [dI 7]),dI 0])):=by
 have h:=of_bin alS 0 zeQ 0 0 [] [numN 1,a12P] (numN 1) a12P 1 6 (by decide) O O al_n1 al_p;rw[show doE zeQ 1 6=(7,0) from by decide] at h;exact h
theorem al_q1:CD Tryz.prog 26 [] [.el (.agg [.sh 2 (alS.map SerD.d)]) 0,.agg [.s tAgg,.s bSum,dI 0,dI 1,.sh 1 ([zdg].map D.s),.sh 3 (([]:List MatD).map MatD.d),.sh 7 (Nd.ds [a12C]),dI 2,dI 1,dI (-1)],dI 20] (isR (.tup [(D.ls 2 RowD.d) alR,dI 0])):=al_qs ▸ query2_c alS 20 tAgg bSum 0 1 [zdg] [] [a12C] alG (by decide) (by kernel_rfl) (evalV_c alS 20 tAgg bSum 0 1 [zdg] [] [a12C] alG (by decide) (by decide) (by decide) (by kernel_rfl) al_a) (by decide) (by decide)
theorem al_q2:CD Tryz.prog 26 [] [.el (.agg [.sh 2 (alS.map SerD.d)]) 0,.agg [.s tBin,.s zeQ,dI 0,dI 0,.sh 1 (([]:List ByteArray).map D.s),.sh 3 (([]:List MatD).map MatD.d),.sh 7 (Nd.ds [numN 1,a12P]),dI 0,dI (-1),dI (-1)],dI 0] (isR (.tup [(D.ls 2 RowD.d) [⟨[],7⟩],dI 0])):=query0_c alS 0 tBin zeQ 0 0 [] [] [numN 1,a12P] [⟨[],7⟩] (by decide) (by kernel_rfl) (evalN_c alS 0 tBin zeQ 0 0 [] [] [numN 1,a12P] 7 (by decide) (by decide) (by decide) (by kernel_rfl) al_b)
theorem ask1_c (ev es:Value) (hev:EvOk ev) (hes:EvOk es):
 CD Tryz.prog 11 [HPow,HErr ev,HSyn es] [.el (.agg [.sh 2 (alS.map SerD.d)]) 0,.v (.string zff),dI 20] (λr H'=>r=.tup [(D.ls 2 RowD.d) alR,dI 0]/\H'=[HPow,HErr ev,HSyn es]):=by
 refine tZ Tryz.func11 O O (λC=>?_);refine T.bd 0 O (λbd0=>?_);refine g' 9 O (tX [0,0,0] O O acs (read12_1 ev es hev hes) ?_);rintro _ _ ⟨rfl,rfl⟩;refine g' 3 O ?_;refine tA O (λg1=>?_);refine gQ 11 [0] O O ?_;refine tD O (λhc2=>?_) (λhc2=>?_)
 · exfalso;omega
 refine gQ 7 [0] O O (tW O acs (al_q1) (g' 7 O (mR 3 O (mR 3 O (mR 3 O ?_)))));exact tR O (mB 3 O) ⟨O,O⟩
theorem ask2_c (ev es:Value) (hev:EvOk ev) (hes:EvOk es):
 CD Tryz.prog 11 [HPow,HErr ev,HSyn es] [.el (.agg [.sh 2 (alS.map SerD.d)]) 0,.v (.string zfe),dI 0] (λr H'=>r=.tup [(D.ls 2 RowD.d) alM,dI 0]/\H'=[HPow,HErr ev,HSyn es]):=by
 refine tZ Tryz.func11 O O (λC=>?_);refine T.bd 0 O (λbd0=>?_);refine g' 9 O (tX [0,0,0] O O acs (read12_2 ev es hev hes) ?_);rintro _ _ ⟨rfl,rfl⟩;refine g' 3 O ?_;refine tA O (λg1=>?_);refine gQ 11 [0] O O ?_;refine tD O (λhc2=>?_) (λhc2=>?_)
 · exfalso;omega
 refine gQ 7 [0] O O (tW O acs (al_q2) (g' 7 O (mR 3 O (mR 3 O (mR 3 O ?_)))));exact tR O (mB 3 O) ⟨O,O⟩
theorem bd_40:BdP Tryz.prog #[⟨"Name",9,0,false, "", "",0⟩,⟨"Value",9,1,false, "", "",16⟩] [(0,1),(1,1)]:=λ_=>by kernel_rfl
theorem bd_55:BdP Tryz.prog #[⟨"l",27,0,false, "", "leporello/store",0⟩] [(0,1)]:=λ_=>by kernel_rfl
theorem alive12_c (ev es:Value) (hev:EvOk ev) (hes:EvOk es):
 CD Tryz.prog 8 [HPow,HErr ev,HSyn es] [] (λr H'=>r=dB true/\H'=[HPow,HErr ev,HSyn es]):=by
 refine tZ Tryz.func8 O O (λC=>?_);have haR0:alR[0]?=some aR0:=rfl;have haM0:alM[0]?=some aM0:=rfl;refine g' 7 O (tP O (zr [] [] (zv:=(.agg #[(.slice none 0 0)])) O O (.nil) (Tryz.runUnderlying55) Tryz.zeroValue55 bd_55 ⟨O,trivial⟩ O) ?_);refine tA O (λg1=>?_);refine g' 6 O (tE O (zt [.const (.string ⟨#[97]⟩),.const (.string ⟨#[98]⟩)] O O (.cons (CellD.v O) (.cons (CellD.v O) .nil)) O Tryz.runUnderlying56 Tryz.sizeOf9 Tryz.zeroValue9 O O O O) ?_);rintro _ _ ⟨g2,rfl,rfl⟩;refine tP O (zQ (n:=2) (j:=0) O O Tryz.runUnderlying56 O) (g' 4 O (mP (wT (h':=.sl (vS g2 2 2) 1 9 ([(⟨#[97]⟩:ByteArray),(⟨#[98]⟩:ByteArray)].map D.s)) O (w9 (.cons cS (.cons cS .nil)))) (mO (Mv.freeze (K':=[(0,dB false),(1,dP g1 0),(8,.agg [dZ]),(9,dP g1 0),(10,.sh 1 ([(⟨#[97]⟩:ByteArray),(⟨#[98]⟩:ByteArray)].map D.s)),(11,dN 2),(12,dI 0)]) [.sl (vS g2 2 2) 1 9 ([(⟨#[97]⟩:ByteArray),(⟨#[98]⟩:ByteArray)].map D.s)] (H1:=[.bx g1 55 (.agg [dZ]),HPow,HErr ev,HSyn es]) (H1':=[.bx g1 55 (.agg [dZ]),HPow,HErr ev,HSyn es]) ⟨⟨_,O,w6⟩,⟨_,O,w6⟩,⟨_,O,w6⟩,⟨_,O,w6⟩,⟨_,O,w7 (j:=0) O O⟩,⟨_,O,w6⟩,⟨_,O,w6⟩,trivial⟩ (.same (.same (.same (.same .nil))))) (mP (wT (h':=.bx g1 55 (.agg [.ov (.slice none 0 0)])) O (wU (Cv.agg (.cons (Cv.ov O) .nil)))) (mP (HSub.nil 2 81) (mR 1 O ?_))))));refine tl2 (λ(a_:Nat) (b_:Value)=>[(1,dP g1 0),(10,.sh 1 ([(⟨#[97]⟩:ByteArray),(⟨#[98]⟩:ByteArray)].map D.s)),(11,dN 2),(12,dN a_)]) (λa_ b_=>[.bx g1 55 (.agg [.ov b_]),.sl b_ 2 81 ((alS.take a_).map SerD.d),HPow,HErr ev,HSyn es]) (λa_ b_=>(a_<=2)) (λa_ b_=>2-a_) 0 (.slice none 0 0) O (sa O) wQ (cU _) ?_;rintro k ov hk;have hl2:[(⟨#[97]⟩:ByteArray),(⟨#[98]⟩:ByteArray)].length=2:=rfl;refine g' 6 O ?_;refine tD O (λhc3=>?_) (λhc3=>?_)
 · refine g' 7 O ?_;obtain ⟨x3,hx3⟩:=zj [(⟨#[97]⟩:ByteArray),(⟨#[98]⟩:ByteArray)] k (by omega);obtain ⟨hpa,hpb,hpc,hpd⟩:=al_step hx3;have hpl:=al_take k;refine tP O (zi (k:=k) O O Tryz.runUnderlying56 Tryz.sizeOf9 (by first | rfl | omega) (ze hx3)) (g' 9 O (tP O (zr [0,1] [.const (.string ⟨#[104,111,115,116]⟩),.tmp 18] (zv:=(.agg #[(.string ByteArray.empty),(.string ByteArray.empty)])) O O (.cons (CellD.v O) (.cons CellD.s .nil)) (Tryz.runUnderlying40) Tryz.zeroValue40 bd_40 ⟨O,O,trivial⟩ O) (tP O (zr [0,1] [.const (.string ⟨#[109,101,116,114,105,99]⟩),.const (.string ⟨#[99,112,117]⟩)] (zv:=(.agg #[(.string ByteArray.empty),(.string ByteArray.empty)])) O O (.cons (CellD.v O) (.cons (CellD.v O) .nil)) (Tryz.runUnderlying40) Tryz.zeroValue40 bd_40 ⟨O,O,trivial⟩ O) (tE O (zt [.tmp 19,.tmp 20] O O (.cons CellD.agg (.cons CellD.agg .nil)) O Tryz.runUnderlying41 Tryz.sizeOf40 Tryz.zeroValue40 O O O O) ?_))));rintro _ _ ⟨g4,rfl,rfl⟩;refine g' 1 O (tP O (zw (c:=((5+k:Nat):Int)) O O (zk (by omega) (by omega))) (mP (wT (h':=.sl (vS g4 2 2) 2 40 ([(Lbl.mk (⟨#[104,111,115,116]⟩:ByteArray) x3),(Lbl.mk (⟨#[109,101,116,114,105,99]⟩:ByteArray) (⟨#[99,112,117]⟩:ByteArray))].map Lbl.d)) O (w9 (.cons (Cv.agg (.cons (cS) (gc .nil))) (.cons (Cv.agg (.cons (cS) (.cons (cS) .nil))) .nil)))) ?_));refine mO (Mv.freeze (K':=[(1,dP g1 0),(2,dN k),(3,.s x3),(10,.sh 1 ([(⟨#[97]⟩:ByteArray),(⟨#[98]⟩:ByteArray)].map D.s)),(11,dN 2),(12,dN k),(13,dB (decide (((k:Nat):Int)<((2:Nat):Int)))),(14,dN k),(15,.el (.s x3) 0),(16,.s x3),(17,dP g1 0),(18,.s x3),(19,.agg [.v (.string ⟨#[104,111,115,116]⟩),.s x3]),(20,.agg [.v (.string ⟨#[109,101,116,114,105,99]⟩),.v (.string ⟨#[99,112,117]⟩)]),(21,.sh 2 ([(Lbl.mk (⟨#[104,111,115,116]⟩:ByteArray) x3),(Lbl.mk (⟨#[109,101,116,114,105,99]⟩:ByteArray) (⟨#[99,112,117]⟩:ByteArray))].map Lbl.d)),(22,dN k),(23,dN (5+k))]) [.sl (vS g4 2 2) 2 40 ([(Lbl.mk (⟨#[104,111,115,116]⟩:ByteArray) x3),(Lbl.mk (⟨#[109,101,116,114,105,99]⟩:ByteArray) (⟨#[99,112,117]⟩:ByteArray))].map Lbl.d)] (H1:=[.bx g1 55 (.agg [.ov ov]),.sl ov 2 81 ((alS.take k).map SerD.d),HPow,HErr ev,HSyn es]) (H1':=[.bx g1 55 (.agg [.ov ov]),.sl ov 2 81 ((alS.take k).map SerD.d),HPow,HErr ev,HSyn es]) ⟨⟨_,O,w6⟩,⟨_,O,w6⟩,⟨_,O,w6⟩,⟨_,O,w6⟩,⟨_,O,w6⟩,⟨_,O,w6⟩,⟨_,O,w6⟩,⟨_,O,w6⟩,⟨_,O,w6⟩,⟨_,O,w6⟩,⟨_,O,w6⟩,⟨_,O,w6⟩,⟨_,O,w6⟩,⟨_,O,w6⟩,⟨_,O,w7 (j:=0) O O⟩,⟨_,O,w6⟩,⟨_,O,w6⟩,trivial⟩ (.same (.same (.same (.same (.same .nil)))))) ?_;refine tX [0,0] O O acs (put_c g1 ov (alS.take k) [(Lbl.mk (⟨#[104,111,115,116]⟩:ByteArray) x3),(Lbl.mk (⟨#[109,101,116,114,105,99]⟩:ByteArray) (⟨#[99,112,117]⟩:ByteArray))] 10 ((5+k:Nat):Int) hpa (by decide) (by decide) hpc hpb (by omega) (dL O)) ?_;rintro _ _ ⟨nv5,rfl,rfl⟩;refine mQ [.bx g1 55 (.agg [.ov nv5]),.sl nv5 2 81 ((alS.take (k+1)).map SerD.d),HPow,HErr ev,HSyn es] (congrArg (λq:List SerD=>([.bx g1 55 (.agg [.ov nv5]),.sl nv5 2 81 (q.map SerD.d),HPow,HErr ev,HSyn es]:List Hp)) hpd) (g' 3 O ?_);refine tD O (λhc6=>?_) (λhc6=>?_)
   · exfalso;omega
   refine g' 4 O (tP O (zw (c:=((k+1:Nat):Int)) O O (zk (by omega) (by omega))) (g' 2 O ?_));exact tp2 (k+1) nv5 (sa O) wQ (by show k+1<=2;omega) (by omega)
 obtain rfl:k=2:=by omega
 refine mO (Mv.subH (wS (perm_front (i:=1) O))) (mO (Mv.freeze (K':=[(1,dP g1 0),(10,.sh 1 ([(⟨#[97]⟩:ByteArray),(⟨#[98]⟩:ByteArray)].map D.s)),(11,dN 2)]) [.sl ov 2 81 (alS.map SerD.d)] (H1:=[.bx g1 55 (.agg [.ov ov]),HPow,HErr ev,HSyn es]) (H1':=[.bx g1 55 (.agg [.sh 2 (alS.map SerD.d)]),HPow,HErr ev,HSyn es]) ⟨⟨_,O,w6⟩,⟨_,O,w6⟩,⟨_,O,w6⟩,trivial⟩ (.bx (ArgC.agg (.cons (w7 (j:=0) O O) .nil)) (.same (.same (.same .nil))))) (mO (Mv.freeze (K':=[(1,.el (.agg [.sh 2 (alS.map SerD.d)]) 0),(10,.sh 1 ([(⟨#[97]⟩:ByteArray),(⟨#[98]⟩:ByteArray)].map D.s)),(11,dN 2)]) [.bx g1 55 (.agg [.sh 2 (alS.map SerD.d)])] (H1:=[HPow,HErr ev,HSyn es]) (H1':=[HPow,HErr ev,HSyn es]) ⟨⟨_,O,mD (j:=0) O w6⟩,⟨_,O,w6⟩,⟨_,O,w6⟩,trivial⟩ (.same (.same (.same .nil)))) (g' 8 O (tX [0,0,0] O O acs (ask1_c ev es hev hes) ?_))));rintro _ _ ⟨rfl,rfl⟩;refine g' 10 O (tX [0,0,0] O O acs (ask2_c ev es hev hes) ?_);rintro _ _ ⟨rfl,rfl⟩;refine g' 8 O ?_;refine tS 0 ((decide ((0:Int)=(0:Int))&&decide ((0:Int)=(0:Int)))) (λ_ hQ7=>?_) ?_
 · by_cases hg8:(0:Int)=(0:Int)
   · refine g' 2 O (tP O (zbT O O (decide_eq_true hg8)) (g' 2 O (tG O (zJ (n:=alR.length) O Tryz.runUnderlying32 (by simp only[lm,lc,ln])) (tG O (zbT O O (decide_eq_true O)) (g' 3 O (tG O (zi (k:=0) O O Tryz.runUnderlying32 Tryz.sizeOf45 (by first | rfl | omega) (ze haR0)) (g' 2 O (tG O (zbT O O (decide_eq_true O)) (g' 3 O (tG O (zi (k:=0) O O Tryz.runUnderlying32 Tryz.sizeOf45 (by first | rfl | omega) (ze haR0)) (g' 2 O (tG O (zJ (n:=aR0.ls.length) O Tryz.runUnderlying41 (by simp only[lm,lc,ln])) (tG O (zbT O O (decide_eq_true O)) (g' 3 O (tG O (zbT O O (decide_eq_true hg8)) (g' 3 O (tG O (zJ (n:=alM.length) O Tryz.runUnderlying32 (by simp only[lm,lc,ln])) (tG O (zbT O O (decide_eq_true O)) (g' 3 O (tG O (zi (k:=0) O O Tryz.runUnderlying32 Tryz.sizeOf45 (by first | rfl | omega) (ze haM0)) (g' 2 O (tG O (zbT O O (decide_eq_true O)) (g' 3 O ?_)))))))))))))))))))))));exact tQ hQ7 O O (by first | (simp[hc3,hg8,O];done) | (simp_all;done))
   refine g' 2 O (tP O (zbT O O (decide_eq_false hg8)) (g' 38 O ?_));exact tQ hQ7 O O (by first | (simp[hc3,hg8,O];done) | (simp_all;done))
 refine g' 2 O ?_;exact tR O (mB 3 O) ⟨O,O⟩
end Lp
namespace Lp
open Go
variable {o:Int}
def leR (o:Int) (a b:RowD):Prop:=zh o a b<=0
theorem leR.trans {a b c:RowD} (h:leR o a b) (k:leR o b c):leR o a c:=(cmpRow_tr o a b c).le h k
theorem leR.refl (o:Int) (a:RowD):leR o a a:=by unfold leR;have:=cmpRow_neg o a a;omega
theorem leR_iff {a b:RowD}:leR o a b↔less o b a=false:=less_false.symm
theorem leR_of_less {a b:RowD} (h:less o a b=true):leR o a b:=by rw[less_iff] at h;unfold leR;omega
def eqR (o:Int) (a b:RowD):Bool:=decide (zh o a b=0)
theorem eqR_iff {a b:RowD}:eqR o a b=true↔leR o a b/\leR o b a:=by
 unfold eqR leR;rw[decide_eq_true_eq,cmpRow_neg o a b];omega
def zaz (o:Int):List RowD->Prop
 | []=>True
 | a::r=>(∀ b∈r,leR o a b)/\zaz o r
structure Stable (o:Int) (l rs:List RowD):Prop where
 sorted:zaz o rs
 same:∀ c,rs.filter (eqR o c)=l.filter (eqR o c)
theorem Stable.nil (o:Int):Stable o [] []:=⟨trivial,λ_=>rfl⟩
def posR (o:Int) (x:RowD) (out:List RowD):Nat->Nat
 | 0=>0
 | n+1=>match out[n]? with
  | some y=>if less o x y=true then posR o x out n else n+1
  | none=>n+1
def insR (o:Int) (x:RowD) (out:List RowD):List RowD:=out.take (posR o x out out.length)++[x]++out.drop (posR o x out out.length)
def zcn (o:Int) (l:List RowD):List RowD:=l.foldl (λout x=>insR o x out) []
theorem posR_le (o:Int) (x:RowD) (out:List RowD):∀ n,posR o x out n<=n
 | 0=>cX _
 | n+1=>by
  unfold posR;split
  · split
    · have:=posR_le o x out n;omega
    exact cX _
  exact cX _
theorem posR_right {o:Int} {x:RowD} {out:List RowD}:∀ {n:Nat},∀ j,posR o x out n<=j->j<n->∀ y,out[j]?=some y->less o x y=true
 | 0,j,_,h,_,_=>absurd h (Nat.not_lt_zero _)
 | n+1,j,h1,h2,y,hy=>by
  unfold posR at h1;split at h1
  · rename_i z hz;split at h1
    · rename_i hl;rcases c6 j n with h | h
      · exact posR_right j h1 h y hy
      have:j=n:=(by omega);subst this;rw[hz] at hy;injection hy with e;subst e;exact hl
    omega
  omega
theorem posR_left {o:Int} {x:RowD} {out:List RowD}:∀ {n:Nat},n<=out.length->0<posR o x out n->∃ y,out[posR o x out n-1]?=some y/\less o x y=false
 | 0,_,h=>by unfold posR at h;omega
 | n+1,hn,h=>by
  unfold posR at h ⊢;obtain ⟨z,hz⟩:=zj out n (by omega);simp only[hz] at h ⊢;by_cases hl:less o x z=true
  · rw[if_pos hl] at h ⊢;exact posR_left (by omega) h
  rw[if_neg hl] at h ⊢;exact⟨z,by simpa using hz,by simpa using hl⟩
theorem zaz.append {o:Int}:∀ {a b:List RowD},zaz o a->zaz o b->(∀ x∈a,∀ y∈b,leR o x y)->zaz o (a++b)
 | [],_,_,hb,_=>hb
 | x::a,b,ha,hb,h=>⟨λy hy=>by
  rcases d7.1 hy with hy | hy
  · exact ha.1 y hy
  exact h x cQ y hy,zaz.append ha.2 hb (λu hu y hy=>h u (cW _ hu) y hy)⟩
theorem zaz.get {o:Int}:∀ {a:List RowD},zaz o a->∀ {i j:Nat} {x y:RowD},i<=j->a[i]?=some x->a[j]?=some y->leR o x y
 | [],_,_,_,_,_,_,h,_=>by cases h
 | u::a,ha,0,0,x,y,_,h1,h2=>by rw[h1] at h2;injection h2 with e;subst e;exact leR.refl o x
 | u::a,ha,0,j+1,x,y,_,h1,h2=>by
  simp at h1 h2;subst h1;exact ha.1 y (dW h2)
 | u::a,ha,i+1,j+1,x,y,h,h1,h2=>by simp at h1 h2;exact zaz.get ha.2 (by omega) h1 h2
 | u::a,ha,i+1,0,x,y,h,_,_=>by omega
theorem zaz.take {o:Int}:∀ {a:List RowD} (n:Nat),zaz o a->zaz o (a.take n)
 | [],n,_=>by simp[zaz]
 | x::a,0,_=>trivial
 | x::a,n+1,h=>⟨λy hy=>h.1 y (uF hy),zaz.take n h.2⟩
theorem zaz.drop {o:Int}:∀ {a:List RowD} (n:Nat),zaz o a->zaz o (a.drop n)
 | [],n,_=>by simp[zaz]
 | x::a,0,h=>h
 | x::a,n+1,h=>zaz.drop n h.2
theorem insR_stable {x:RowD} {l out:List RowD} (h:Stable o l out):Stable o (l++[x]) (insR o x out):=by
 have hle:=posR_le o x out out.length;have hleft:∀ u∈out.take (posR o x out out.length),leR o u x:=by
  intro u hu;obtain ⟨i,hi⟩:=List.getElem?_of_mem hu;rw[jO] at hi;split at hi
  · rename_i hlt;obtain ⟨y,hy,hl⟩:=posR_left (o:=o) (x:=x) (out:=out) (n:=out.length) (cX _) (by omega);exact(h.sorted.get (by omega) hi hy).trans (leR_iff.2 hl)
  cases hi
 have hright:∀ u∈out.drop (posR o x out out.length),less o x u=true:=by
  intro u hu;obtain ⟨i,hi⟩:=List.getElem?_of_mem hu;rw[jV] at hi;exact posR_right _ (by omega) (get_lt hi) u hi
 refine⟨?_,λc=>?_⟩
 · unfold insR;refine zaz.append (zaz.append (h.sorted.take _) ⟨by simp,trivial⟩ ?_) (h.sorted.drop _) ?_
   · intro u hu y hy;simp at hy;subst hy;exact hleft u hu
   intro u hu y hy;have hxy:=leR_of_less (hright y hy);rcases d7.1 hu with hu | hu
   · exact(hleft u hu).trans hxy
   simp at hu;subst hu;exact hxy
 unfold insR;rw[List.filter_append,List.filter_append,List.filter_append,<-h.same c]
 conv=>rhs;rw[<-dH (posR o x out out.length) out,List.filter_append]
 by_cases ec:eqR o c x=true
 · have h0:(out.drop (posR o x out out.length)).filter (eqR o c)=[]:=by
    rw[List.filter_eq_nil_iff];intro y hy hcy;have:=hright y hy;rw[eqR_iff] at ec hcy;have k:=leR.trans hcy.2 ec.1;rw[leR_iff] at k;rw[k] at this;cases this
   rw[h0];simp
 simp[List.filter_cons_of_neg ec]
theorem sortR_stable (o:Int) (l:List RowD):Stable o l (zcn o l):=by
 have:∀ (l done_ out:List RowD),Stable o done_ out->Stable o (done_++l) (l.foldl (λout x=>insR o x out) out):=by
  intro l
  induction l with
  | nil=>intro d out h;simpa using h
  | cons x r ih=>
   intro d out h;have:=ih (d++[x]) _ (insR_stable (x:=x) h);simpa using this
 have:=this l [] [] (Stable.nil o);unfold zcn;simpa using this
theorem sortR_snoc (o:Int) (l:List RowD) (x:RowD):zcn o (l++[x])=insR o x (zcn o l):=by unfold zcn;rw[uL];rfl
theorem sortR_length (o:Int) (l:List RowD):(zcn o l).length=l.length:=by
 have:∀ (l out:List RowD),(l.foldl (λout x=>insR o x out) out).length=out.length+l.length:=by
  intro l
  induction l with
  | nil=>intro out;simp
  | cons x r ih=>
   intro out;rw[jT,ih];have:=posR_le o x out out.length;simp[insR];omega
 simpa [zcn] using this l []
theorem posR_next {x y:RowD} {out:List RowD} {k m n:Nat} (hy:out[k]?=some y) (hk:k+1=n) (hm:m+1=n) (hl:less o x y=true):posR o x out n=posR o x out m:=by
 subst hk;obtain rfl:m=k:=by omega
 conv=>lhs;unfold posR
 simp only[hy,hl,if_true]
theorem posR_stop {x y:RowD} {out:List RowD} {k n:Nat} (hy:out[k]?=some y) (hk:k+1=n) (hl:less o x y=false):posR o x out n=n:=by
 subst hk
 conv=>lhs;unfold posR
 simp[hy,hl]
theorem sort_eq {x:RowD} {l out:List RowD} {n k:Nat} (hx:l[k]?=some x) (hout:out=zcn o (l.take k)) (hp:posR o x out out.length=n):(((out.take n).drop 0++[x])++(out.take out.length).drop n)=zcn o (l.take (k+1)):=by
 rw[zT hx,sortR_snoc,<-hout];unfold insR;rw[hp,jW,jK]
end Lp
