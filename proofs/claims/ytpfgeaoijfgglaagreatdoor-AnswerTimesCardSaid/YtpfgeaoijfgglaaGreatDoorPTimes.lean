import Derived.Test.YtpfgeaoijfgglaaGreatDoorV15
set_option linter.unusedSimpArgs false
set_option linter.unusedVariables false
set_option maxHeartbeats 4000000
set_option maxRecDepth 100000
namespace Lp
open Go Go.RowKit Go.Proofs
theorem bd_130:BdP Tryz.prog #[⟨"s",26,0,false, "", "leporello/answer",0⟩,⟨"t",3,1,false, "", "leporello/answer",8⟩] [(0,1),(1,1)]:=λ_=>by kernel_rfl
theorem fa_64_2:FaP Tryz.prog 64 2 2:=λ_ _ _=>by kernel_rfl
theorem fa_64_3:FaP Tryz.prog 64 3 3:=λ_ _ _=>by kernel_rfl
theorem fa_64_4:FaP Tryz.prog 64 4 4:=λ_ _ _=>by kernel_rfl
theorem agg_c (S:List SerD) (t:Int) (n mode:Int) (names:List ByteArray) (kids:List Nd) (ka:Nd) (l:List RowD) (hkl:1<=kids.length) (hka:kids[0]?=some ka) (iha:CD Tryz.prog 79 [] [.agg [.el (.agg [.sh 2 (S.map SerD.d)]) 0,dI t],Nd.d ka] (isR (.tup [.ifc 32 (.sh 2 (l.map RowD.d)),dI 0]))) (hll:l.length<=1000000):
 CD Tryz.prog 124 [] [.agg [.el (.agg [.sh 2 (S.map SerD.d)]) 0,dI t],.agg [.s tAgg,.s bSum,dI n,dI mode,.sh 1 (names.map D.s),.sh 3 (([]:List MatD).map MatD.d),.sh 7 (kids.map Nd.d)]] (isR (.tup [.ifc 32 (.sh 2 ((gdL (Way.sums false) mode names l).map RowD.d)),dI (gdE (Way.sums false) mode names l)])):=by
 refine tZ Tryz.func124 O O (λC=>?_);refine T.bd 0 O (λbd0=>?_);refine T.bd 1 O (λbd1=>?_);refine g' 2 O ?_;refine tA O (λg1=>?_);refine tA O (λg2=>?_);refine g' 5 O (T.keep [0,1,2,3,4,5] O ?_);obtain ⟨x1,hx1⟩:=zj kids 0 (by omega);have ex1:x1=ka:=jW (hx1.symm.trans hka);subst ex1;obtain ⟨yax1,ybx1,ycx1,ydx1,yex1,yfx1,ygx1⟩:=x1;refine tDr 10 [(9,.agg [.el (.agg [.sh 2 (S.map SerD.d)]) 0,dI t],none),(10,dP g2 6,none),(11,.sh 7 (kids.map Nd.d),none),(12,.el (.agg [.s yax1,.s ybx1,dI ycx1,dI ydx1,.sh 1 (yex1.map D.s),.sh 3 (yfx1.map MatD.d),.sh 7 (Nd.ds ygx1)]) 0,none),(13,.agg [.s yax1,.s ybx1,dI ycx1,dI ydx1,.sh 1 (yex1.map D.s),.sh 3 (yfx1.map MatD.d),.sh 7 (Nd.ds ygx1)],none),(14,.tup [.ifc 32 (.sh 2 (l.map RowD.d)),dI 0],none),(8,.tup [.ifc 32 (.sh 2 (l.map RowD.d)),dI 0],none),(15,.ifc 32 (.sh 2 (l.map RowD.d)),none),(16,dI 0,none),(6,.ifc 32 (.sh 2 (l.map RowD.d)),none)] [.bx g2 64 (.agg [.s tAgg,.s bSum,dI n,dI mode,.sh 1 (names.map D.s),.sh 3 (([]:List MatD).map MatD.d),.sh 7 (kids.map Nd.d)]),.bx g1 130 (.agg [.el (.agg [.sh 2 (S.map SerD.d)]) 0,dI t])] (Hn:=[.bx g2 64 (.agg [.s tAgg,.s bSum,dI n,dI mode,.sh 1 (names.map D.s),.sh 3 (([]:List MatD).map MatD.d),.sh 7 (kids.map Nd.d)]),.bx g1 130 (.agg [.el (.agg [.sh 2 (S.map SerD.d)]) 0,dI t])]) mixed O O O O wV O ⟨sa_p O O O (zaT (d:=.agg [.el (.agg [.sh 2 (S.map SerD.d)]) 0,dI t]) O (i:=1) O Tryz.isAgg130 Tryz.sizeOf130 O O),sa_p O O O (zl O fa_64_6 O),sa_p O O O (zo O (i:=0) O Tryz.isAgg62 O),sa_p O O O (zh (k:=0) O O Tryz.runUnderlying62 Tryz.sizeOf64 (by first | rfl | omega) (ze hx1)),sa_p O O O (zcq (d:=.agg [.s yax1,.s ybx1,dI ycx1,dI ydx1,.sh 1 (yex1.map D.s),.sh 3 (yfx1.map MatD.d),.sh 7 (Nd.ds ygx1)]) O Tryz.isAgg64 Tryz.sizeOf64 O O),sa_q O O O (zaf O (gc (gc .nil)) Tryz.call79 (iha) z8),sa_p O O O (zd O),sa_p O O O (zau O O),sa_p O O O (zau O O),sa_p O O O (zdd O),trivial⟩ ?_;refine tK O (g' 10 O ?_);refine tD O (λhc3=>?_) (λhc3=>?_)
 · exfalso;omega
 refine g' 3 O (T.keep [0,1,2,3,4,5,6,7,8,9,10,11,12,13,14,15,16,17,18] O ?_);refine tDr 16 [(20,dP g2 1,none),(21,.s bSum,none),(22,dP g2 2,none),(23,dI n,none),(24,dP g2 3,none),(25,dI mode,none),(26,dP g2 4,none),(27,.sh 1 (names.map D.s),none),(28,.ifc 32 (.sh 2 (l.map RowD.d)),none),(29,.sh 2 (l.map RowD.d),none),(30,.tup [.sh 2 ((gdL (Way.sums false) mode names l).map RowD.d),dI (gdE (Way.sums false) mode names l)],none),(31,.sh 2 ((gdL (Way.sums false) mode names l).map RowD.d),none),(32,dI (gdE (Way.sums false) mode names l),none),(33,.tup [.ifc 32 (.sh 2 ((gdL (Way.sums false) mode names l).map RowD.d)),dI (gdE (Way.sums false) mode names l)],none),(34,.ifc 32 (.sh 2 ((gdL (Way.sums false) mode names l).map RowD.d)),none),(35,dI (gdE (Way.sums false) mode names l),none)] [.bx g2 64 (.agg [.s tAgg,.s bSum,dI n,dI mode,.sh 1 (names.map D.s),.sh 3 (([]:List MatD).map MatD.d),.sh 7 (kids.map Nd.d)]),.bx g1 130 (.agg [.el (.agg [.sh 2 (S.map SerD.d)]) 0,dI t])] (Hn:=[.bx g2 64 (.agg [.s tAgg,.s bSum,dI n,dI mode,.sh 1 (names.map D.s),.sh 3 (([]:List MatD).map MatD.d),.sh 7 (kids.map Nd.d)]),.bx g1 130 (.agg [.el (.agg [.sh 2 (S.map SerD.d)]) 0,dI t])]) mixed O O O O wV O ⟨sa_p O O O (zl O fa_64_1 O),sa_p O O O (zo O (i:=0) O Tryz.isAgg9 O),sa_p O O O (zl O fa_64_2 O),sa_p O O O (zo O (i:=0) O Tryz.isAgg3 O),sa_p O O O (zl O fa_64_3 O),sa_p O O O (zo O (i:=0) O Tryz.isAgg3 O),sa_p O O O (zl O fa_64_4 O),sa_p O O O (zo O (i:=0) O Tryz.isAgg56 O),sa_p O O O (zd O),sa_p O O O (p_assert_1 O (λ_ _=>by kernel_rfl)),sa_q O O O (zaf O (gc (gc (gc (gc (gc .nil))))) Tryz.call171 (doF_c n mode names l (by omega)) z8),sa_p O O O (zau O O),sa_p O O O (zau O O),sa_q O O O (zaf O (gc (gc .nil)) Tryz.call119 (rows_c (gdL (Way.sums false) mode names l) (gdE (Way.sums false) mode names l)) z8),sa_p O O O (zau O O),sa_p O O O (zau O O),trivial⟩ ?_;refine tK O (g' 5 O ?_);exact tR O HSub.none ⟨O,O⟩
theorem of_agg (S:List SerD) (t:Int) (n mode:Int) (names:List ByteArray) (kids:List Nd) (ka:Nd) (l:List RowD) (hkl:1<=kids.length) (hka:kids[0]?=some ka) (iha:CD Tryz.prog 79 [] [.agg [.el (.agg [.sh 2 (S.map SerD.d)]) 0,dI t],Nd.d ka] (isR (.tup [.ifc 32 (.sh 2 (l.map RowD.d)),dI 0]))) (hll:l.length<=1000000):
 CD Tryz.prog 79 [] [.agg [.el (.agg [.sh 2 (S.map SerD.d)]) 0,dI t],.agg [.s tAgg,.s bSum,dI n,dI mode,.sh 1 (names.map D.s),.sh 3 (([]:List MatD).map MatD.d),.sh 7 (kids.map Nd.d)]] (isR (.tup [.ifc 32 (.sh 2 ((gdL (Way.sums false) mode names l).map RowD.d)),dI (gdE (Way.sums false) mode names l)])):=by
 refine tZ Tryz.func79 O O (λC=>?_);refine T.bd 0 O (λbd0=>?_);refine T.bd 1 O (λbd1=>?_);refine g' 2 O ?_;refine tA O (λg1=>?_);refine tA O (λg2=>?_);refine gQ 14 [0] O O (tP O (zaQ (q:=false) O O (by decide)) (g' 6 O (tP O (zaQ (q:=false) O O (by decide)) (g' 6 O (tP O (zaQ (q:=false) O O (by decide)) (g' 6 O (tP O (zaQ (q:=false) O O (by decide)) (g' 6 O (tP O (zaQ (q:=false) O O (by decide)) (gQ 11 [1,0] O O (tW O acs (agg_c S t n mode names kids ka l hkl hka iha hll) (g' 7 O ?_))))))))))));exact tR O HSub.none ⟨O,O⟩
theorem of_bin (S:List SerD) (t:Int) (text:ByteArray) (n mode:Int) (names:List ByteArray) (kids:List Nd) (ka kb:Nd) (va vb:Int) (hkl:2<=kids.length) (hka:kids[0]?=some ka) (hkb:kids[1]?=some kb) (iha:CD Tryz.prog 79 [] [.agg [.el (.agg [.sh 2 (S.map SerD.d)]) 0,dI t],Nd.d ka] (isR (.tup [.ifc 133 (.agg [dI va]),dI 0]))) (ihb:CD Tryz.prog 79 [] [.agg [.el (.agg [.sh 2 (S.map SerD.d)]) 0,dI t],Nd.d kb] (isR (.tup [.ifc 133 (.agg [dI vb]),dI 0]))):
 CD Tryz.prog 79 [] [.agg [.el (.agg [.sh 2 (S.map SerD.d)]) 0,dI t],.agg [.s tBin,.s text,dI n,dI mode,.sh 1 (names.map D.s),.sh 3 (([]:List MatD).map MatD.d),.sh 7 (kids.map Nd.d)]] (isR (.tup [.ifc 133 (.agg [dI ((doE text va vb).1)]),dI ((doE text va vb).2)])):=by
 refine tZ Tryz.func79 O O (λC=>?_);refine T.bd 0 O (λbd0=>?_);refine T.bd 1 O (λbd1=>?_);refine g' 2 O ?_;refine tA O (λg1=>?_);refine tA O (λg2=>?_);refine gQ 14 [0] O O (tP O (zaQ (q:=false) O O (by decide)) (g' 6 O (tP O (zaQ (q:=false) O O (by decide)) (g' 6 O (tP O (zaQ (q:=false) O O (by decide)) (g' 6 O (tP O (zaQ (q:=false) O O (by decide)) (g' 6 O (tP O (zaQ (q:=true) O O (by decide)) (gQ 8 [1,0] O O (tW O acs (bin_c S t text n mode names kids ka kb va vb hkl hka hkb iha ihb) (g' 9 O ?_))))))))))));exact tR O HSub.none ⟨O,O⟩
theorem evalN_c (S:List SerD) (t:Int) (op text:ByteArray) (n mode:Int) (names:List ByteArray) (ms:List MatD) (kids:List Nd) (v:Int) (ht0:0<=t) (ht1:t<=1000000000) (hc:Nd.cntL kids<=10000) (hk:(Nd.mk op text n mode names ms kids).kind=1) (iho:CD Tryz.prog 79 [] [.agg [.el (.agg [.sh 2 (S.map SerD.d)]) 0,dI t],.agg [.s op,.s text,dI n,dI mode,.sh 1 (names.map D.s),.sh 3 (ms.map MatD.d),.sh 7 (Nd.ds kids)]] (isR (.tup [.ifc 133 (.agg [dI v]),dI 0]))):
 CD Tryz.prog 52 [] [.el (.agg [.sh 2 (S.map SerD.d)]) 0,.agg [.s op,.s text,dI n,dI mode,.sh 1 (names.map D.s),.sh 3 (ms.map MatD.d),.sh 7 (Nd.ds kids)],dI t] (isR (.tup [(D.ls 2 RowD.d) [⟨[],v⟩],dI 0])):=by
 refine tZ Tryz.func52 O O (λC=>?_);refine T.bd 0 O (λbd0=>?_);refine T.bd 1 O (λbd1=>?_);have hke:(Nd.mk op text n mode names ms kids).kindE=0:=by unfold Nd.kindE;rw[hk];rfl
 refine g' 2 O ?_;refine tA O (λg1=>?_);refine g' 10 O ?_;refine tOr 2 2 (c:=decide ((1000000000:Int)<t)) O O O O O O (λhb2 nx3=>?_) ?_
 · have hf4:=of_decide_eq_false hb2;refine g' 2 O ?_;exact nx3 _ O O (kx 2 O O)
 refine g' 2 O ?_;refine tC O (λhc5=>?_) (λhc5=>?_)
 · simp only[bX,bJ] at hc5;exfalso;omega
 simp only[bX,bJ] at hc5;refine gQ 5 [0] O O (tW O acs (of_c (Nd.mk op text n mode names ms kids) (by simp only[Nd.cnt];omega)) (g' 16 O ?_));refine tD O (λhc6=>?_) (λhc6=>?_)
 · exfalso;exact hc6 hke
 refine g' 7 O ?_;refine tD O (λhc7=>?_) (λhc7=>?_)
 · exfalso;omega
 refine g' 3 O (tP O (p_elnil O O zdm) (g' 11 O (tP O (zq [0,1] [.tmp 37,.tmp 38] (zv:=(.agg #[(.pointer none),(.int .i64 0)])) O O (.cons CellD.el (.cons (CellD.v O) .nil)) (Tryz.runUnderlying130) Tryz.zeroValue130 bd_130 ⟨O,O,trivial⟩ O) (gQ 1 [0] O O (tW O acs (iho) (g' 14 O ?_))))));refine tD O (λhc8=>?_) (λhc8=>?_)
 · exfalso;omega
 refine g' 6 O (tP O (zaJ O (λ_ _=>by kernel_rfl)) (g' 3 O ?_));refine tA O (λg9=>?_);refine gQ 14 [0,0] O O (tP O (zq [1] [.tmp 54] (zv:=(.agg #[(.slice none 0 0),(.int .i64 0)])) O O (.cons (CellD.v O) .nil) (Tryz.runUnderlying45) Tryz.zeroValue45 zfy ⟨O,O,trivial⟩ O) (tE O (zp [.tmp 55] O O (.cons CellD.agg .nil) O Tryz.runUnderlying32 Tryz.sizeOf45 Tryz.zeroValue45 O O O O) ?_));rintro _ _ ⟨g10,rfl,rfl⟩;refine g' 6 O (mV (wY (h':=.sl (vS g10 1 1) 2 45 ([(RowD.mk [] v)].map RowD.d)) O (mE (.cons (Cv.agg (.cons (Cv.nil) (gc .nil))) .nil))) ?_);refine mU (Mv.freeze (K':=[(0,.el (.agg [.sh 2 (S.map SerD.d)]) 0),(1,.agg [.s op,.s text,dI n,dI mode,.sh 1 (names.map D.s),.sh 3 (ms.map MatD.d),.sh 7 (Nd.ds kids)]),(2,dI t),(4,dP g1 0),(6,.sh 2 ([(RowD.mk [] v)].map RowD.d)),(7,dI 0),(8,dI ((Nd.mk op text n mode names ms kids).kind)),(9,dI 0),(10,.ifc 133 (.agg [dI v])),(11,dP g9 0),(12,dB true),(13,dI t),(14,dB (decide (t<(0:Int)))),(15,dB (decide (t<(0:Int)))),(18,dB (decide (t<(0:Int))||decide ((1000000000:Int)<t))),(19,.tup [dI ((Nd.mk op text n mode names ms kids).kind),dI ((Nd.mk op text n mode names ms kids).kindE)]),(20,.agg [.s op,.s text,dI n,dI mode,.sh 1 (names.map D.s),.sh 3 (ms.map MatD.d),.sh 7 (Nd.ds kids)]),(21,.tup [dI ((Nd.mk op text n mode names ms kids).kind),dI ((Nd.mk op text n mode names ms kids).kindE)]),(22,dI ((Nd.mk op text n mode names ms kids).kind)),(23,dI ((Nd.mk op text n mode names ms kids).kindE)),(24,dB (decide ((Nd.mk op text n mode names ms kids).kindE≠(0:Int)))),(25,dI ((Nd.mk op text n mode names ms kids).kindE)),(26,dB (decide ((Nd.mk op text n mode names ms kids).kindE≠(0:Int)))),(28,dB (decide ((Nd.mk op text n mode names ms kids).kind=(3:Int)))),(29,dI ((Nd.mk op text n mode names ms kids).kind)),(30,dB (decide ((Nd.mk op text n mode names ms kids).kind=(3:Int)))),(31,dB false),(32,.el (.agg [.sh 2 (S.map SerD.d)]) 0),(33,dB false),(36,.tup [.ifc 133 (.agg [dI v]),dI 0]),(37,.el (.agg [.sh 2 (S.map SerD.d)]) 0),(38,dI t),(39,.agg [.el (.agg [.sh 2 (S.map SerD.d)]) 0,dI t]),(40,.agg [.s op,.s text,dI n,dI mode,.sh 1 (names.map D.s),.sh 3 (ms.map MatD.d),.sh 7 (Nd.ds kids)]),(41,.tup [.ifc 133 (.agg [dI v]),dI 0]),(42,.ifc 133 (.agg [dI v])),(43,dI 0),(44,dI 0),(45,dB (decide (0≠(0:Int)))),(47,.tup [.agg [dI v],dB true]),(48,.ifc 133 (.agg [dI v])),(49,.tup [.agg [dI v],dB true]),(50,.agg [dI v]),(51,dB true),(52,dB true),(53,dP g9 0),(54,dI v),(55,.agg [dZ,dI v]),(56,.sh 2 ([(RowD.mk [] v)].map RowD.d))]) [.sl (vS g10 1 1) 2 45 ([(RowD.mk [] v)].map RowD.d)] (H1:=[.bx g9 133 (.agg [dI v]),.bx g1 64 (.agg [.s op,.s text,dI n,dI mode,.sh 1 (names.map D.s),.sh 3 (ms.map MatD.d),.sh 7 (Nd.ds kids)])]) (H1':=[.bx g9 133 (.agg [dI v]),.bx g1 64 (.agg [.s op,.s text,dI n,dI mode,.sh 1 (names.map D.s),.sh 3 (ms.map MatD.d),.sh 7 (Nd.ds kids)])]) ⟨⟨_,O,mB⟩,⟨_,O,mB⟩,⟨_,O,mB⟩,⟨_,O,mB⟩,⟨_,O,mC (j:=0) O O⟩,⟨_,O,mB⟩,⟨_,O,mB⟩,⟨_,O,mB⟩,⟨_,O,mB⟩,⟨_,O,mB⟩,⟨_,O,mB⟩,⟨_,O,mB⟩,⟨_,O,mB⟩,⟨_,O,mB⟩,⟨_,O,mB⟩,⟨_,O,mB⟩,⟨_,O,mB⟩,⟨_,O,mB⟩,⟨_,O,mB⟩,⟨_,O,mB⟩,⟨_,O,mB⟩,⟨_,O,mB⟩,⟨_,O,mB⟩,⟨_,O,mB⟩,⟨_,O,mB⟩,⟨_,O,mB⟩,⟨_,O,mB⟩,⟨_,O,mB⟩,⟨_,O,mB⟩,⟨_,O,mB⟩,⟨_,O,mB⟩,⟨_,O,mB⟩,⟨_,O,mB⟩,⟨_,O,mB⟩,⟨_,O,mB⟩,⟨_,O,mB⟩,⟨_,O,mB⟩,⟨_,O,mB⟩,⟨_,O,mB⟩,⟨_,O,mB⟩,⟨_,O,mB⟩,⟨_,O,mB⟩,⟨_,O,mB⟩,⟨_,O,mB⟩,⟨_,O,mB⟩,⟨_,O,mB⟩,⟨_,O,mB⟩,⟨_,O,mB⟩,⟨_,O,mC (j:=0) O O⟩,trivial⟩ (.same (.same .nil))) ?_;exact tRs O Tryz.results52 (.cons (zf (zc O) (wT (congrArg (D.ls 2 RowD.d) (show [(RowD.mk [] v)]=[⟨[],v⟩] from(by rfl))))) (.cons (zc O) .nil)) O HSub.none ⟨O,O⟩
theorem evalV_c (S:List SerD) (t:Int) (op text:ByteArray) (n mode:Int) (names:List ByteArray) (ms:List MatD) (kids:List Nd) (l:List RowD) (ht0:0<=t) (ht1:t<=1000000000) (hc:Nd.cntL kids<=10000) (hk:(Nd.mk op text n mode names ms kids).kind=2) (iho:CD Tryz.prog 79 [] [.agg [.el (.agg [.sh 2 (S.map SerD.d)]) 0,dI t],.agg [.s op,.s text,dI n,dI mode,.sh 1 (names.map D.s),.sh 3 (ms.map MatD.d),.sh 7 (Nd.ds kids)]] (isR (.tup [.ifc 32 (.sh 2 (l.map RowD.d)),dI 0]))):
 CD Tryz.prog 52 [] [.el (.agg [.sh 2 (S.map SerD.d)]) 0,.agg [.s op,.s text,dI n,dI mode,.sh 1 (names.map D.s),.sh 3 (ms.map MatD.d),.sh 7 (Nd.ds kids)],dI t] (isR (.tup [(D.ls 2 RowD.d) l,dI 0])):=by
 refine tZ Tryz.func52 O O (λC=>?_);refine T.bd 0 O (λbd0=>?_);refine T.bd 1 O (λbd1=>?_);have hke:(Nd.mk op text n mode names ms kids).kindE=0:=by unfold Nd.kindE;rw[hk];rfl
 refine g' 2 O ?_;refine tA O (λg1=>?_);refine g' 10 O ?_;refine tOr 2 2 (c:=decide ((1000000000:Int)<t)) O O O O O O (λhb2 nx3=>?_) ?_
 · have hf4:=of_decide_eq_false hb2;refine g' 2 O ?_;exact nx3 _ O O (kx 2 O O)
 refine g' 2 O ?_;refine tC O (λhc5=>?_) (λhc5=>?_)
 · simp only[bX,bJ] at hc5;exfalso;omega
 simp only[bX,bJ] at hc5;refine gQ 5 [0] O O (tW O acs (of_c (Nd.mk op text n mode names ms kids) (by simp only[Nd.cnt];omega)) (g' 16 O ?_));refine tD O (λhc6=>?_) (λhc6=>?_)
 · exfalso;exact hc6 hke
 refine g' 7 O ?_;refine tD O (λhc7=>?_) (λhc7=>?_)
 · exfalso;omega
 refine g' 3 O (tP O (p_elnil O O zdm) (g' 11 O (tP O (zq [0,1] [.tmp 37,.tmp 38] (zv:=(.agg #[(.pointer none),(.int .i64 0)])) O O (.cons CellD.el (.cons (CellD.v O) .nil)) (Tryz.runUnderlying130) Tryz.zeroValue130 bd_130 ⟨O,O,trivial⟩ O) (gQ 1 [0] O O (tW O acs (iho) (g' 14 O ?_))))));refine tD O (λhc8=>?_) (λhc8=>?_)
 · exfalso;omega
 refine g' 6 O (tP O ((zak (zv:=(.agg #[(.int .i64 0)])) O (λ_ _=>by kernel_rfl)).cv (Cv.tup (.cons (wU (by decide)) (gc .nil)))) (g' 3 O ?_));refine tA O (λg9=>?_);refine gQ 15 [0] O O (tP O (p_assert_1 O (λ_ _=>by kernel_rfl)) (g' 5 O ?_));exact tR O HSub.none ⟨O,O⟩
theorem query0_c (S:List SerD) (t:Int) (op text:ByteArray) (n mode:Int) (names:List ByteArray) (ms:List MatD) (kids:List Nd) (l:List RowD) (hc:Nd.cntL kids<=10000) (hck:(Nd.mk op text n mode names ms kids).checkE=0) (hev:CD Tryz.prog 52 [] [.el (.agg [.sh 2 (S.map SerD.d)]) 0,.agg [.s op,.s text,dI n,dI mode,.sh 1 (names.map D.s),.sh 3 (ms.map MatD.d),.sh 7 (Nd.ds kids)],dI t] (isR (.tup [(D.ls 2 RowD.d) l,dI 0]))):
 CD Tryz.prog 26 [] [.el (.agg [.sh 2 (S.map SerD.d)]) 0,.agg [.s op,.s text,dI n,dI mode,.sh 1 (names.map D.s),.sh 3 (ms.map MatD.d),.sh 7 (Nd.ds kids),dI 0,dI (-1),dI (-1)],dI t] (isR (.tup [(D.ls 2 RowD.d) l,dI 0])):=by
 refine tZ Tryz.func26 O O (λC=>?_);refine T.bd 0 O (λbd0=>?_);refine T.bd 1 O (λbd1=>?_);refine g' 2 O ?_;refine tA O (λg1=>?_);refine gQ 8 [0] O O (tW O acs (check_c op text n mode names ms kids 0 (-1) (-1) (by omega)) (g' 9 O ?_));refine tD O (λhc2=>?_) (λhc2=>?_)
 · exfalso;exact hc2 hck
 refine gQ 8 [0] O O (tW O acs (hev) (g' 14 O ?_));refine tD O (λhc3=>?_) (λhc3=>?_)
 · exfalso;omega
 refine gQ 10 [0] O O ?_;refine tD O (λhc4=>?_) (λhc4=>?_)
 · exfalso;omega
 refine gQ 7 [0] O O (tP O (zfC O O O) (g' 1 O (tP O (zF (n:=l.length) O Tryz.runUnderlying32 (by simp only[lm,lc,ln])) (tP O (p_min O O O) (tP O ((zcv (a:=((min (max ((-1):Int) (0:Int)) ((l.length:Nat):Int))).toNat) (b:=l.length) O O O (by first | rfl | (show _=_;(try simp only[lm]);omega) | exact cW _) (by first | rfl | (show _=_;(try simp only[lm]);omega) | exact cW _) Tryz.runUnderlying32 Tryz.sizeOf45 (by omega) (by simp only[lm];omega)).cv (wT (by rw[<-jJ,<-jK]))) (gQ 11 [0] O O ?_))))));refine tD O (λhc5=>?_) (λhc5=>?_)
 · exfalso;omega
 refine g' 10 O ?_;exact tRs O Tryz.results26 (.cons (zf (zc O) (wT (congrArg (D.ls 2 RowD.d) (show ((l.take l.length).drop (((min (max ((-1):Int) (0:Int)) ((l.length:Nat):Int))).toNat))=l from(by rw[jQ,show (min (max ((-1):Int) (0:Int)) ((l.length:Nat):Int)).toNat=0 by omega];rfl))))) (.cons (zc O) .nil)) O HSub.none ⟨O,O⟩
theorem q2_take (x:List RowD):(((((x.take x.length).drop (min (max ((-1):Int) (0:Int)) ((x.length:Nat):Int)).toNat).take (min (1:Int) (((((x.take x.length).drop (min (max ((-1):Int) (0:Int)) ((x.length:Nat):Int)).toNat).length:Nat)):Int)).toNat)).drop 0)=x.take 1:=by
 have e:(min (max ((-1):Int) (0:Int)) ((x.length:Nat):Int)).toNat=0:=by omega
 rw[jQ,e,j7,j7];cases x with
 | nil=>simp
 | cons a r=>rw[show (min (1:Int) (((a::r).length:Nat):Int)).toNat=1 by simp only[lc];omega]
theorem query2_c (S:List SerD) (t:Int) (op text:ByteArray) (n mode:Int) (names:List ByteArray) (ms:List MatD) (kids:List Nd) (l:List RowD) (hc:Nd.cntL kids<=10000) (hck:(Nd.mk op text n mode names ms kids).checkE=0) (hev:CD Tryz.prog 52 [] [.el (.agg [.sh 2 (S.map SerD.d)]) 0,.agg [.s op,.s text,dI n,dI mode,.sh 1 (names.map D.s),.sh 3 (ms.map MatD.d),.sh 7 (Nd.ds kids)],dI t] (isR (.tup [(D.ls 2 RowD.d) l,dI 0]))) (hll:l.length<=1000000) (hl0:0<l.length):
 CD Tryz.prog 26 [] [.el (.agg [.sh 2 (S.map SerD.d)]) 0,.agg [.s op,.s text,dI n,dI mode,.sh 1 (names.map D.s),.sh 3 (ms.map MatD.d),.sh 7 (Nd.ds kids),dI 2,dI 1,dI (-1)],dI t] (isR (.tup [(D.ls 2 RowD.d) ((zu (zi 2) l).take 1),dI 0])):=by
 refine tZ Tryz.func26 O O (λC=>?_);refine T.bd 0 O (λbd0=>?_);refine T.bd 1 O (λbd1=>?_);refine g' 2 O ?_;refine tA O (λg1=>?_);refine gQ 8 [0] O O (tW O acs (check_c op text n mode names ms kids 2 1 (-1) (by omega)) (g' 9 O ?_));refine tD O (λhc2=>?_) (λhc2=>?_)
 · exfalso;exact hc2 hck
 refine gQ 8 [0] O O (tW O acs (hev) (g' 14 O ?_));refine tD O (λhc3=>?_) (λhc3=>?_)
 · exfalso;omega
 refine gQ 10 [0] O O ?_;refine tD O (λhc4=>?_) (λhc4=>?_)
 · refine gQ 4 [0] O O (tX [] O O acs (SortR_c 2 l (by omega)) ?_);rintro _ _ ⟨v5,rfl,rfl⟩;refine g' 4 O ?_;refine mU (Mv.freeze (K':=[(0,.el (.agg [.sh 2 (S.map SerD.d)]) 0),(1,.agg [.s op,.s text,dI n,dI mode,.sh 1 (names.map D.s),.sh 3 (ms.map MatD.d),.sh 7 (Nd.ds kids),dI 2,dI 1,dI (-1)]),(2,dI t),(4,dP g1 0),(6,dZ),(7,dI 0),(8,dI ((Nd.mk op text n mode names ms kids).checkE)),(9,.sh 2 ((zu (zi 2) l).map RowD.d)),(10,dI 0),(11,.agg [.s op,.s text,dI n,dI mode,.sh 1 (names.map D.s),.sh 3 (ms.map MatD.d),.sh 7 (Nd.ds kids),dI 2,dI 1,dI (-1)]),(12,dI ((Nd.mk op text n mode names ms kids).checkE)),(13,dI ((Nd.mk op text n mode names ms kids).checkE)),(14,dB (decide ((Nd.mk op text n mode names ms kids).checkE≠(0:Int)))),(16,.tup [.sh 2 (l.map RowD.d),dI 0]),(17,.el (.agg [.sh 2 (S.map SerD.d)]) 0),(18,dP g1 0),(19,.agg [.s op,.s text,dI n,dI mode,.sh 1 (names.map D.s),.sh 3 (ms.map MatD.d),.sh 7 (Nd.ds kids)]),(20,dI t),(21,.tup [.sh 2 (l.map RowD.d),dI 0]),(22,.sh 2 (l.map RowD.d)),(23,dI 0),(24,dI 0),(25,dB (decide (0≠(0:Int)))),(27,dP g1 7),(28,dI 2),(29,dB (decide ((2:Int)≠(0:Int)))),(30,dP g1 7),(31,dI 2),(32,.sh 2 (l.map RowD.d)),(33,.sh 2 ((zu (zi 2) l).map RowD.d))]) [.sl v5 2 45 ((zu (zi 2) l).map RowD.d)] (H1:=[.bx g1 66 (.agg [.s op,.s text,dI n,dI mode,.sh 1 (names.map D.s),.sh 3 (ms.map MatD.d),.sh 7 (Nd.ds kids),dI 2,dI 1,dI (-1)])]) (H1':=[.bx g1 66 (.agg [.s op,.s text,dI n,dI mode,.sh 1 (names.map D.s),.sh 3 (ms.map MatD.d),.sh 7 (Nd.ds kids),dI 2,dI 1,dI (-1)])]) ⟨⟨_,O,mB⟩,⟨_,O,mB⟩,⟨_,O,mB⟩,⟨_,O,mB⟩,⟨_,O,mB⟩,⟨_,O,mB⟩,⟨_,O,mB⟩,⟨_,O,mC (j:=0) O O⟩,⟨_,O,mB⟩,⟨_,O,mB⟩,⟨_,O,mB⟩,⟨_,O,mB⟩,⟨_,O,mB⟩,⟨_,O,mB⟩,⟨_,O,mB⟩,⟨_,O,mB⟩,⟨_,O,mB⟩,⟨_,O,mB⟩,⟨_,O,mB⟩,⟨_,O,mB⟩,⟨_,O,mB⟩,⟨_,O,mB⟩,⟨_,O,mB⟩,⟨_,O,mB⟩,⟨_,O,mB⟩,⟨_,O,mB⟩,⟨_,O,mB⟩,⟨_,O,mB⟩,⟨_,O,mB⟩,⟨_,O,mC (j:=0) O O⟩,trivial⟩ (.same .nil)) ?_;refine gQ 4 [0] O O (tP O (zfC O O O) (g' 1 O (tP O (zF (n:=(zu (zi 2) l).length) O Tryz.runUnderlying32 (by simp only[lm,lc,ln])) (tP O (p_min O O O) (tP O ((zcv (a:=((min (max ((-1):Int) (0:Int)) (((zu (zi 2) l).length:Nat):Int))).toNat) (b:=(zu (zi 2) l).length) O O O (by first | rfl | (show _=_;(try simp only[lm]);omega) | exact cW _) (by first | rfl | (show _=_;(try simp only[lm]);omega) | exact cW _) Tryz.runUnderlying32 Tryz.sizeOf45 (by omega) (by simp only[lm];omega)).cv (wT (by rw[<-jJ,<-jK]))) (gQ 11 [0] O O ?_))))));refine tD O (λhc6=>?_) (λhc6=>?_)
   · refine gQ 5 [0] O O (tP O (zF (n:=(((zu (zi 2) l).take ((zu (zi 2) l).length)).drop (((min (max ((-1):Int) (0:Int)) (((zu (zi 2) l).length:Nat):Int))).toNat)).length) O Tryz.runUnderlying32 (by simp only[lm,lc,ln])) (tP O (p_min O O O) (tP O ((zcv (a:=0) (b:=((min (1:Int) (((((zu (zi 2) l).take ((zu (zi 2) l).length)).drop (((min (max ((-1):Int) (0:Int)) (((zu (zi 2) l).length:Nat):Int))).toNat)).length:Nat):Int))).toNat) O O O (by first | rfl | (show _=_;(try simp only[lm]);omega) | exact cW _) (by first | rfl | (show _=_;(try simp only[lm]);omega) | exact cW _) Tryz.runUnderlying32 Tryz.sizeOf45 (by omega) (by simp only[lm];omega)).cv (wT (by rw[<-jJ,<-jK]))) (g' 11 O ?_))));exact tRs O Tryz.results26 (.cons (zf (zc O) (wT (congrArg (D.ls 2 RowD.d) (show (((((zu (zi 2) l).take ((zu (zi 2) l).length)).drop (((min (max ((-1):Int) (0:Int)) (((zu (zi 2) l).length:Nat):Int))).toNat)).take (((min (1:Int) (((((zu (zi 2) l).take ((zu (zi 2) l).length)).drop (((min (max ((-1):Int) (0:Int)) (((zu (zi 2) l).length:Nat):Int))).toNat)).length:Nat):Int))).toNat)).drop 0)=(zu (zi 2) l).take 1 from(by exact q2_take _))))) (.cons (zc O) .nil)) O HSub.none ⟨O,O⟩
   exfalso;omega
 exfalso;omega
end Lp
namespace Lp
open Go
variable {a v t:Int} {k:Nat}
abbrev bM:ByteArray:=(⟨#[109]⟩:ByteArray)
abbrev zbs:ByteArray:=(⟨#[108,97,115,116,95,111,118,101,114]⟩:ByteArray)
abbrev tmS1:ByteArray:=bM
abbrev tmS2:ByteArray:=(⟨#[108,97,115,116,95,111,118,101,114,40,109,91,54,48,48,115,93,41]⟩:ByteArray)
abbrev tmT1:List TokD:=[⟨1,0,bM⟩]
abbrev tmT2:List TokD:=[⟨1,0,zbs⟩,⟨5,9,(⟨#[40]⟩:ByteArray)⟩,⟨1,10,bM⟩,⟨5,11,(⟨#[91]⟩:ByteArray)⟩,⟨4,12,(⟨#[54,48,48]⟩:ByteArray)⟩,⟨5,16,(⟨#[93]⟩:ByteArray)⟩,⟨5,17,(⟨#[41]⟩:ByteArray)⟩]
theorem tm_1:lexL tmS1=tmT1/\lexE tmS1=0:=lexA_lex (by kernel_rfl) (by decide) (by decide)
def tmA:Nd:=.mk nSel bM 0 0 [] [] []
def tmK:Nd:=.mk nSel bM 600 0 [] [] []
theorem tm_r1:zdF tmS1=0/\zdE tmS1=⟨tmA,0,-1,-1⟩:=rd_is' tm_1 (by kernel_rfl)
abbrev tmL:List Lbl:=[⟨metB,bM⟩]
def tmS (a v:Int):List SerD:=[⟨tmL,[⟨a,v⟩]⟩]
def inT (a t w:Int):Prop:=t-w<a/\a<=t
instance (a t w:Int):Decidable (inT a t w):=inferInstanceAs (Decidable (_/\_))
theorem tm_last {a v t w:Int} (ha:0<=a) (ha2:a<=1000000000) (hv:zW v=true) (ht:0<=t) (ht2:t<=1000000000) (hw:0<=w) (hw2:w<=1000000000):wOf [⟨a,v⟩] t w=if inT a t w then [⟨a,v⟩] else []:=by
 have hr:zbL [(⟨a,v⟩:PtD)]=true:=by
  unfold zbL zck;show (decide (1<=25)&&(okPt ⟨a,v⟩&&(ltT none ⟨a,v⟩&&true)))=true;unfold okPt ltT;simp[ha,ha2,hv]
 unfold wOf;rw[if_pos ⟨hr,ht,ht2,hw,hw2⟩];by_cases h:inT a t w
 · rw[if_pos h];have h':=h;unfold inT at h';simp[inW,h'.1,h'.2]
 rw[if_neg h];unfold inT at h;simp only[List.filter_cons,List.filter_nil];have:inW t w ⟨a,v⟩=false:=by unfold inW;simp;omega
 rw[this];rfl
theorem rt_one {x:RowD} (h:zbq x=true):rtL [x]=[x]/\rtE [x]=0:=by
 have hr:zcC [x]=true:=by unfold zcC;simp only[vT,List.all_nil,Bool.and_true];exact h
 unfold rtL rtE;rw[hr];exact⟨O,O⟩
theorem rt_nil:rtL []=[]/\rtE []=0:=by exact⟨rfl,rfl⟩
theorem tm_2:lexL tmS2=tmT2/\lexE tmS2=0:=lexA_lex (by kernel_rfl) (by decide) (by decide)
def tmB:Nd:=.mk tFn zbs 0 0 [] [] [tmK]
theorem tm_r2:zdF tmS2=0/\zdE tmS2=⟨tmB,0,-1,-1⟩:=rd_is' tm_2 (by kernel_rfl)
def zcQ (l:List PtD):Int:=match l.getLast? with
 | some p=>p.v
 | none=>0
def fnR (S:List SerD) (t w:Int):List RowD:=S.filterMap λs=>if 0<(wOf s.ps t w).length then some ⟨keyL 0 [] s.ls,zcQ (wOf s.ps t w)⟩ else none
def zfE (l:List Int):Int:=match l.getLast? with
 | some x=>x
 | none=>0
theorem lastI_at {l:List Int} {x:Int} (h:l[l.length-1]?=some x):x=zfE l:=by unfold zfE;rw[List.getLast?_eq_getElem?,h]
theorem lastI_map (l:List PtD):zfE (l.map (·.v))=zcQ l:=by
 unfold zfE zcQ;rw[List.getLast?_map];cases l.getLast?<;>rfl
theorem fnR_in {S:List SerD} {t w:Int} {x:SerD} (hx:S[k]?=some x) (h:0<(wOf x.ps t w).length):fnR (S.take (k+1)) t w=fnR (S.take k) t w++[⟨keyL 0 [] x.ls,zcQ (wOf x.ps t w)⟩]:=by
 unfold fnR;rw[zS hx,List.filterMap_append];simp[List.filterMap,h]
theorem fnR_out {S:List SerD} {t w:Int} {x:SerD} (hx:S[k]?=some x) (h:¬0<(wOf x.ps t w).length):fnR (S.take (k+1)) t w=fnR (S.take k) t w:=by
 unfold fnR;rw[zS hx,List.filterMap_append];simp[List.filterMap,h]
theorem fnR_len (S:List SerD) (t w:Int):(fnR S t w).length<=S.length:=by unfold fnR;exact List.length_filterMap_le _ _
theorem wOf_right (l:List PtD) (t w:Int):zbL (wOf l t w)=true:=by
 unfold wOf;split
 · rename_i h;obtain ⟨h,-⟩:=h;unfold zbL at h ⊢;rw[c7,decide_eq_true_eq] at h ⊢;refine⟨jA (List.length_filter_le _ _) h.1,?_⟩;have key:∀ (l:List PtD) (p:Option PtD),ascP p l=true->(∀ q,p=some q->∀ r∈l,q.t<r.t)/\∀ p':Option PtD,(∀ q,p'=some q->∀ r∈l,q.t<r.t)->ascP p' (l.filter (inW t w))=true:=by
    intro l
    induction l with
    | nil=>intro p _;exact⟨λ_ _ _ h=>by (cases h),λ_ _=>rfl⟩
    | cons r l ih=>
     intro p hp;have hp':(okPt r&&(ltT p r&&ascP (some r) l))=true:=hp;simp only[c7] at hp';obtain ⟨h1,h2,h3⟩:=hp';obtain ⟨i1,i2⟩:=ih _ h3;have hr:=i1 r O;refine⟨λq hq x hx=>?_,λp' hp'=>?_⟩
     · subst hq;have h2':q.t<r.t:=(by simpa [ltT] using h2);rcases dL.1 hx with rfl | hx
       · exact h2'
       have:=hr x hx;omega
     rw[List.filter_cons];split
     · show (okPt r&&(ltT p' r&&ascP (some r) (l.filter (inW t w))))=true;rw[h1,i2 (some r) (λq hq=>by injection hq with hq;subst hq;exact hr),uL,Bool.and_true];cases p' with
       | none=>rfl
       | some q=>simpa [ltT] using hp' q rfl r cX
     exact i2 p' λq hq x hx=>hp' q hq x (c8 _ hx)
   exact(key l none (by simpa [zck,zdq] using h.2)).2 none (λ_ h=>by cases h)
 rfl
structure OpD where
 c:Bool
 ls:List Lbl
 t:Int
 v:Int
def OpD.d (x:OpD):D:=.agg [.v (.bool x.c),.sh 2 (x.ls.map Lbl.d),.v (.int .i64 x.t),.v (.int .i64 x.v)]
def tmX (a v t:Int):List RowD:=if inT a t 300 then [⟨tmL,v⟩] else []
def tmY (a v t:Int):List RowD:=if inT a t 600 then [⟨[],v⟩] else []
structure TmOk (a v t:Int):Prop where
 a0:0<=a
 a1:a<=1000000000
 v:zW v=true
 t0:0<=t
 t1:t<=1000000000
theorem tm_named (a v:Int):named bM (tmS a v)=tmS a v:=by
 unfold named;rw[if_neg (by decide)];have:getL tmL metB=bM:=by decide
 simp[tmS,this]
theorem tm_sel (h:TmOk a v t):selR (named bM (tmS a v)) t=tmX a v t:=by
 rw[tm_named];unfold selR tmS tmX zcy;simp only[List.filterMap_cons,List.filterMap_nil];rw[tm_last h.a0 h.a1 h.v h.t0 h.t1 (by decide) (by decide)];by_cases hi:inT a t 300
 · rw[if_pos hi,if_pos hi];rfl
 rw[if_neg hi,if_neg hi];rfl
theorem tm_fn (h:TmOk a v t):fnR (named bM (tmS a v)) t 600=tmY a v t:=by
 rw[tm_named];unfold fnR tmS tmY;simp only[List.filterMap_cons,List.filterMap_nil];rw[tm_last h.a0 h.a1 h.v h.t0 h.t1 (by decide) (by decide)];have hk:keyL 0 [] tmL=[]:=by kernel_rfl
 by_cases hi:inT a t 600
 · rw[if_pos hi,if_pos hi,hk];rfl
 rw[if_neg hi,if_neg hi];rfl
theorem tm_rt (h:TmOk a v t):(rtL (tmX a v t)=tmX a v t/\rtE (tmX a v t)=0)/\rtL (tmY a v t)=tmY a v t/\rtE (tmY a v t)=0:=by
 have h1:zbq ⟨tmL,v⟩=true:=by unfold zbq;rw[show zda tmL=true from by kernel_rfl,uL];exact h.v
 have h2:zbq ⟨[],v⟩=true:=by unfold zbq;rw[show zda []=true from by kernel_rfl,uL];exact h.v
 constructor
 · unfold tmX;split
   · exact rt_one h1
   exact rt_nil
 unfold tmY;split
 · exact rt_one h2
 exact rt_nil
theorem tm_len (a v:Int):∀ s∈tmS a v,s.ls.length<=1000000/\s.ps.length<=1000000:=by
 intro s hs;have e:s=⟨tmL,[⟨a,v⟩]⟩:=by simpa [tmS] using hs
 subst e;exact⟨dM rfl,dM rfl⟩
theorem tm_len2 (a v t:Int):(t-300<a/\a<=t->(tmX a v t).length=1)/\(¬(t-300<a/\a<=t)->(tmX a v t).length=0)/\(t-600<a/\a<=t->(tmY a v t).length=1)/\(¬(t-600<a/\a<=t)->(tmY a v t).length=0):=by
 refine⟨λh=>?_,λh=>?_,λh=>?_,λh=>?_⟩
 · unfold tmX;rw[if_pos (show inT a t 300 from h)];rfl
 · unfold tmX;rw[if_neg (show ¬inT a t 300 from h)];rfl
 · unfold tmY;rw[if_pos (show inT a t 600 from h)];rfl
 unfold tmY;rw[if_neg (show ¬inT a t 600 from h)];rfl
theorem tmX_at {x:RowD} (h:(tmX a v t)[k]?=some x):x.v=v/\x.ls.length=1:=by
 have:=d4 h;unfold tmX at this;split at this
 · rw[dV.1 this];exact⟨rfl,rfl⟩
 cases this
theorem tmY_at {x:RowD} (h:(tmY a v t)[k]?=some x):x.v=v/\x.ls.length=0:=by
 have:=d4 h;unfold tmY at this;split at this
 · rw[dV.1 this];exact⟨rfl,rfl⟩
 cases this
theorem tm_cases (a v t:Int):(a<=t/\t-a<300/\t-a<600/\(tmX a v t).length=1/\(tmY a v t).length=1)\/(a<=t/\¬t-a<300/\t-a<600/\(tmX a v t).length=0/\(tmY a v t).length=1)\/(a<=t/\¬t-a<300/\¬t-a<600/\(tmX a v t).length=0/\(tmY a v t).length=0)\/(¬a<=t/\(tmX a v t).length=0/\(tmY a v t).length=0):=by
 obtain ⟨h1,h2,h3,h4⟩:=tm_len2 a v t;by_cases c1:a<=t
 · by_cases c2:t-a<300
   · exact .inl ⟨c1,c2,by omega,h1 (by omega),h3 (by omega)⟩
   by_cases c3:t-a<600
   · exact .inr (.inl ⟨c1,c2,c3,h2 (by omega),h3 (by omega)⟩)
   exact .inr (.inr (.inl ⟨c1,c2,c3,h2 (by omega),h4 (by omega)⟩))
 exact .inr (.inr (.inr ⟨c1,h2 (by omega),h4 (by omega)⟩))
end Lp
