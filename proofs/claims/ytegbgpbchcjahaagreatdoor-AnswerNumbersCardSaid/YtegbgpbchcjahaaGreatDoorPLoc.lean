import Derived.Test.YtegbgpbchcjahaaGreatDoorV15
set_option linter.all false
set_option maxHeartbeats 4000000
set_option maxRecDepth 100000
namespace Lp
open Go Go.RowKit Go.Proofs
def aBf:BdP Tryz.prog #[⟨"s",26,0,false, "", "leporello/answer",0⟩,⟨"t",3,1,false, "", "leporello/answer",8⟩] [(0,1),(1,1)]:=λ_=>by kernel_rfl
def aR8:FaP Tryz.prog 57 2 2:=λ_ _ _=>by kernel_rfl
def aSp:FaP Tryz.prog 57 3 3:=λ_ _ _=>by kernel_rfl
def aQp:FaP Tryz.prog 57 4 4:=λ_ _ _=>by kernel_rfl
def aZe (S:List SerD) (t:Int) (n mode:Int) (names:List Ba) (kids:List Nd) (ka:Nd) (l:List RowD) (hkl:1<=kids.length) (hka:kids[0]?=some ka) (iha:CD Tryz.prog 62 [] [.agg [.el (.agg [.sh 2 (S.map SerD.d)]) 0,dI t],Nd.d ka] (isR (.tup [.ifc 32 (.sh 2 (l.map RowD.d)),dI 0]))) (hll:l.length<=1000000):
 CD Tryz.prog 110 [] [.agg [.el (.agg [.sh 2 (S.map SerD.d)]) 0,dI t],.agg [.s tAgg,.s bSum,dI n,dI mode,.sh 1 (names.map D.s),.sh 3 (([]:List MatD).map MatD.d),.sh 7 (kids.map Nd.d)]] (isR (.tup [.ifc 32 (.sh 2 ((gdL (Way.sums false) mode names l).map RowD.d)),dI (gdE (Way.sums false) mode names l)])):=by
 refine tZ Tryz.func110 O O (λC=>?_);refine T.bd 0 O (λbd0=>?_);refine T.bd 1 O (λbd1=>?_);refine g' 2 O ?_;refine tA O (λg1=>?_);refine tA O (λg2=>?_);refine g' 5 O (T.keep [0,1,2,3,4,5] O ?_);obtain ⟨x1,hx1⟩:=zi kids 0 (by omega);have ex1:x1=ka:=uD (hx1.symm.trans hka);subst ex1;obtain ⟨yax1,ybx1,ycx1,ydx1,yex1,yfx1,ygx1⟩:=x1;refine tDr 10 [(9,.agg [.el (.agg [.sh 2 (S.map SerD.d)]) 0,dI t],none),(10,dP g2 6,none),(11,.sh 7 (kids.map Nd.d),none),(12,.el (.agg [.s yax1,.s ybx1,dI ycx1,dI ydx1,.sh 1 (yex1.map D.s),.sh 3 (yfx1.map MatD.d),.sh 7 (Nd.ds ygx1)]) 0,none),(13,.agg [.s yax1,.s ybx1,dI ycx1,dI ydx1,.sh 1 (yex1.map D.s),.sh 3 (yfx1.map MatD.d),.sh 7 (Nd.ds ygx1)],none),(14,.tup [.ifc 32 (.sh 2 (l.map RowD.d)),dI 0],none),(8,.tup [.ifc 32 (.sh 2 (l.map RowD.d)),dI 0],none),(15,.ifc 32 (.sh 2 (l.map RowD.d)),none),(16,dI 0,none),(6,.ifc 32 (.sh 2 (l.map RowD.d)),none)] [.bx g2 57 (.agg [.s tAgg,.s bSum,dI n,dI mode,.sh 1 (names.map D.s),.sh 3 (([]:List MatD).map MatD.d),.sh 7 (kids.map Nd.d)]),.bx g1 118 (.agg [.el (.agg [.sh 2 (S.map SerD.d)]) 0,dI t])] (Hn:=[.bx g2 57 (.agg [.s tAgg,.s bSum,dI n,dI mode,.sh 1 (names.map D.s),.sh 3 (([]:List MatD).map MatD.d),.sh 7 (kids.map Nd.d)]),.bx g1 118 (.agg [.el (.agg [.sh 2 (S.map SerD.d)]) 0,dI t])]) mixed O O O O w8 O ⟨sa_p O O O (zbg (d:=.agg [.el (.agg [.sh 2 (S.map SerD.d)]) 0,dI t]) O (i:=1) O Tryz.isAgg118 Tryz.sizeOf118 O O),sa_p O O O (zk O zeX O),sa_p O O O (zl O (i:=0) O Tryz.isAgg55 O),sa_p O O O (zf (k:=0) O O Tryz.runUnderlying55 Tryz.sizeOf57 (by first | rfl | omega) (zd hx1)),sa_p O O O (zbb (d:=.agg [.s yax1,.s ybx1,dI ycx1,dI ydx1,.sh 1 (yex1.map D.s),.sh 3 (yfx1.map MatD.d),.sh 7 (Nd.ds ygx1)]) O Tryz.isAgg57 Tryz.sizeOf57 O O),sa_q O O O (zal O (gc (gc .nil)) Tryz.call62 (iha) zaf),sa_p O O O (zb O),sa_p O O O (zaT O O),sa_p O O O (zaT O O),sa_p O O O (zeB O),trivial⟩ ?_;refine tK O (g' 10 O ?_);refine tD O (λhc3=>?_) (λhc3=>?_)
 · exfalso;omega
 refine g' 3 O (T.keep [0,1,2,3,4,5,6,7,8,9,10,11,12,13,14,15,16,17,18] O ?_);refine tDr 16 [(20,dP g2 1,none),(21,.s bSum,none),(22,dP g2 2,none),(23,dI n,none),(24,dP g2 3,none),(25,dI mode,none),(26,dP g2 4,none),(27,.sh 1 (names.map D.s),none),(28,.ifc 32 (.sh 2 (l.map RowD.d)),none),(29,.sh 2 (l.map RowD.d),none),(30,.tup [.sh 2 ((gdL (Way.sums false) mode names l).map RowD.d),dI (gdE (Way.sums false) mode names l)],none),(31,.sh 2 ((gdL (Way.sums false) mode names l).map RowD.d),none),(32,dI (gdE (Way.sums false) mode names l),none),(33,.tup [.ifc 32 (.sh 2 ((gdL (Way.sums false) mode names l).map RowD.d)),dI (gdE (Way.sums false) mode names l)],none),(34,.ifc 32 (.sh 2 ((gdL (Way.sums false) mode names l).map RowD.d)),none),(35,dI (gdE (Way.sums false) mode names l),none)] [.bx g2 57 (.agg [.s tAgg,.s bSum,dI n,dI mode,.sh 1 (names.map D.s),.sh 3 (([]:List MatD).map MatD.d),.sh 7 (kids.map Nd.d)]),.bx g1 118 (.agg [.el (.agg [.sh 2 (S.map SerD.d)]) 0,dI t])] (Hn:=[.bx g2 57 (.agg [.s tAgg,.s bSum,dI n,dI mode,.sh 1 (names.map D.s),.sh 3 (([]:List MatD).map MatD.d),.sh 7 (kids.map Nd.d)]),.bx g1 118 (.agg [.el (.agg [.sh 2 (S.map SerD.d)]) 0,dI t])]) mixed O O O O w8 O ⟨sa_p O O O (zk O aAe O),sa_p O O O (zl O (i:=0) O Tryz.isAgg9 O),sa_p O O O (zk O aR8 O),sa_p O O O (zl O (i:=0) O Tryz.isAgg3 O),sa_p O O O (zk O aSp O),sa_p O O O (zl O (i:=0) O Tryz.isAgg3 O),sa_p O O O (zk O aQp O),sa_p O O O (zl O (i:=0) O Tryz.isAgg45 O),sa_p O O O (zb O),sa_p O O O (nC O (λ_ _=>by kernel_rfl)),sa_q O O O (zal O (gc (gc (gc (gc (gc .nil))))) Tryz.call159 (aY5 n mode names l (by omega)) zaf),sa_p O O O (zaT O O),sa_p O O O (zaT O O),sa_q O O O (zal O (gc (gc .nil)) Tryz.call105 (aOq (gdL (Way.sums false) mode names l) (gdE (Way.sums false) mode names l)) zaf),sa_p O O O (zaT O O),sa_p O O O (zaT O O),trivial⟩ ?_;refine tK O (g' 5 O ?_);exact tR O HSub.none ⟨O,O⟩
def aWc (S:List SerD) (t:Int) (n mode:Int) (names:List Ba) (kids:List Nd) (ka:Nd) (l:List RowD) (hkl:1<=kids.length) (hka:kids[0]?=some ka) (iha:CD Tryz.prog 62 [] [.agg [.el (.agg [.sh 2 (S.map SerD.d)]) 0,dI t],Nd.d ka] (isR (.tup [.ifc 32 (.sh 2 (l.map RowD.d)),dI 0]))) (hll:l.length<=1000000):
 CD Tryz.prog 62 [] [.agg [.el (.agg [.sh 2 (S.map SerD.d)]) 0,dI t],.agg [.s tAgg,.s bSum,dI n,dI mode,.sh 1 (names.map D.s),.sh 3 (([]:List MatD).map MatD.d),.sh 7 (kids.map Nd.d)]] (isR (.tup [.ifc 32 (.sh 2 ((gdL (Way.sums false) mode names l).map RowD.d)),dI (gdE (Way.sums false) mode names l)])):=by
 refine tZ Tryz.func62 O O (λC=>?_);refine T.bd 0 O (λbd0=>?_);refine T.bd 1 O (λbd1=>?_);refine g' 2 O ?_;refine tA O (λg1=>?_);refine tA O (λg2=>?_);refine gQ 14 [0] O O (tP O (zaU (q:=false) O O (by decide)) (g' 6 O (tP O (zaU (q:=false) O O (by decide)) (g' 6 O (tP O (zaU (q:=false) O O (by decide)) (g' 6 O (tP O (zaU (q:=false) O O (by decide)) (g' 6 O (tP O (zaU (q:=false) O O (by decide)) (gQ 11 [1,0] O O (tW O acs (aZe S t n mode names kids ka l hkl hka iha hll) (g' 7 O ?_))))))))))));exact tR O HSub.none ⟨O,O⟩
def aBz (S:List SerD) (t:Int) (text:Ba) (n mode:Int) (names:List Ba) (kids:List Nd) (ka kb:Nd) (va vb:Int) (hkl:2<=kids.length) (hka:kids[0]?=some ka) (hkb:kids[1]?=some kb) (iha:CD Tryz.prog 62 [] [.agg [.el (.agg [.sh 2 (S.map SerD.d)]) 0,dI t],Nd.d ka] (isR (.tup [.ifc 121 (.agg [dI va]),dI 0]))) (ihb:CD Tryz.prog 62 [] [.agg [.el (.agg [.sh 2 (S.map SerD.d)]) 0,dI t],Nd.d kb] (isR (.tup [.ifc 121 (.agg [dI vb]),dI 0]))):
 CD Tryz.prog 62 [] [.agg [.el (.agg [.sh 2 (S.map SerD.d)]) 0,dI t],.agg [.s tBin,.s text,dI n,dI mode,.sh 1 (names.map D.s),.sh 3 (([]:List MatD).map MatD.d),.sh 7 (kids.map Nd.d)]] (isR (.tup [.ifc 121 (.agg [dI ((doE text va vb).1)]),dI ((doE text va vb).2)])):=by
 refine tZ Tryz.func62 O O (λC=>?_);refine T.bd 0 O (λbd0=>?_);refine T.bd 1 O (λbd1=>?_);refine g' 2 O ?_;refine tA O (λg1=>?_);refine tA O (λg2=>?_);refine gQ 14 [0] O O (tP O (zaU (q:=false) O O (by decide)) (g' 6 O (tP O (zaU (q:=false) O O (by decide)) (g' 6 O (tP O (zaU (q:=false) O O (by decide)) (g' 6 O (tP O (zaU (q:=false) O O (by decide)) (g' 6 O (tP O (zaU (q:=true) O O (by decide)) (gQ 8 [1,0] O O (tW O acs (aY8 S t text n mode names kids ka kb va vb hkl hka hkb iha ihb) (g' 9 O ?_))))))))))));exact tR O HSub.none ⟨O,O⟩
def aQt (S:List SerD) (t:Int) (op text:Ba) (n mode:Int) (names:List Ba) (ms:List MatD) (kids:List Nd) (v:Int) (ht0:0<=t) (ht1:t<=1000000000) (hc:Nd.cntL kids<=10000) (hk:(Nd.mk op text n mode names ms kids).kind=1) (iho:CD Tryz.prog 62 [] [.agg [.el (.agg [.sh 2 (S.map SerD.d)]) 0,dI t],.agg [.s op,.s text,dI n,dI mode,.sh 1 (names.map D.s),.sh 3 (ms.map MatD.d),.sh 7 (Nd.ds kids)]] (isR (.tup [.ifc 121 (.agg [dI v]),dI 0]))):
 CD Tryz.prog 37 [] [.el (.agg [.sh 2 (S.map SerD.d)]) 0,.agg [.s op,.s text,dI n,dI mode,.sh 1 (names.map D.s),.sh 3 (ms.map MatD.d),.sh 7 (Nd.ds kids)],dI t] (isR (.tup [(D.ls 2 RowD.d) [⟨[],v⟩],dI 0])):=by
 refine tZ Tryz.func37 O O (λC=>?_);refine T.bd 0 O (λbd0=>?_);refine T.bd 1 O (λbd1=>?_);have hke:(Nd.mk op text n mode names ms kids).kindE=0:=by unfold Nd.kindE;rw[hk];rfl
 refine g' 2 O ?_;refine tA O (λg1=>?_);refine g' 10 O ?_;refine tOr 2 2 (c:=decide ((1000000000:Int)<t)) O O O O O O (λhb2 nx3=>?_) ?_
 · have hf4:=aC hb2;refine g' 2 O ?_;exact nx3 _ O O (kx 2 O O)
 refine g' 2 O ?_;refine tC O (λhc5=>?_) (λhc5=>?_)
 · simp only[bX,bJ] at hc5;exfalso;omega
 simp only[bX,bJ] at hc5;refine gQ 5 [0] O O (tW O acs (of_c (Nd.mk op text n mode names ms kids) (by simp only[Nd.cnt];omega)) (g' 16 O ?_));refine tD O (λhc6=>?_) (λhc6=>?_)
 · exfalso;exact hc6 hke
 refine g' 7 O ?_;refine tD O (λhc7=>?_) (λhc7=>?_)
 · exfalso;omega
 refine g' 3 O (tP O (zfR O O zcs) (g' 11 O (tP O (zm [0,1] [.tmp 37,.tmp 38] (zv:=(.agg #[(.pointer none),(.int .i64 0)])) O O (.cons CellD.el (.cons (CellD.v O) .nil)) (Tryz.runUnderlying118) Tryz.zeroValue118 aBf ⟨O,O,trivial⟩ O) (gQ 1 [0] O O (tW O acs (iho) (g' 14 O ?_))))));refine tD O (λhc8=>?_) (λhc8=>?_)
 · exfalso;omega
 refine g' 6 O (tP O (zbt O (λ_ _=>by kernel_rfl)) (g' 3 O ?_));refine tA O (λg9=>?_);refine gQ 14 [0,0] O O (tP O (zm [1] [.tmp 54] (zv:=(.agg #[(.slice none 0 0),(.int .i64 0)])) O O (.cons (CellD.v O) .nil) (Tryz.runUnderlying50) Tryz.zeroValue50 zf3 ⟨O,O,trivial⟩ O) (tE O (zw [.tmp 55] O O (.cons CellD.agg .nil) O Tryz.runUnderlying32 Tryz.sizeOf50 Tryz.zeroValue50 O O O O) ?_));rintro _ _ ⟨g10,rfl,rfl⟩;refine g' 6 O (mW (mB (h':=.sl (vS g10 1 1) 2 50 ([(RowD.mk [] v)].map RowD.d)) O (mM (.cons (Cv.agg (.cons (Cv.nil) (gc .nil))) .nil))) ?_);refine mV (Mv.freeze (K':=[(0,.el (.agg [.sh 2 (S.map SerD.d)]) 0),(1,.agg [.s op,.s text,dI n,dI mode,.sh 1 (names.map D.s),.sh 3 (ms.map MatD.d),.sh 7 (Nd.ds kids)]),(2,dI t),(4,dP g1 0),(6,.sh 2 ([(RowD.mk [] v)].map RowD.d)),(7,dI 0),(8,dI ((Nd.mk op text n mode names ms kids).kind)),(9,dI 0),(10,.ifc 121 (.agg [dI v])),(11,dP g9 0),(12,dB true),(13,dI t),(14,dB (decide (t<(0:Int)))),(15,dB (decide (t<(0:Int)))),(18,dB (decide (t<(0:Int))||decide ((1000000000:Int)<t))),(19,.tup [dI ((Nd.mk op text n mode names ms kids).kind),dI ((Nd.mk op text n mode names ms kids).kindE)]),(20,.agg [.s op,.s text,dI n,dI mode,.sh 1 (names.map D.s),.sh 3 (ms.map MatD.d),.sh 7 (Nd.ds kids)]),(21,.tup [dI ((Nd.mk op text n mode names ms kids).kind),dI ((Nd.mk op text n mode names ms kids).kindE)]),(22,dI ((Nd.mk op text n mode names ms kids).kind)),(23,dI ((Nd.mk op text n mode names ms kids).kindE)),(24,dB (decide ((Nd.mk op text n mode names ms kids).kindE≠(0:Int)))),(25,dI ((Nd.mk op text n mode names ms kids).kindE)),(26,dB (decide ((Nd.mk op text n mode names ms kids).kindE≠(0:Int)))),(28,dB (decide ((Nd.mk op text n mode names ms kids).kind=(3:Int)))),(29,dI ((Nd.mk op text n mode names ms kids).kind)),(30,dB (decide ((Nd.mk op text n mode names ms kids).kind=(3:Int)))),(31,dB false),(32,.el (.agg [.sh 2 (S.map SerD.d)]) 0),(33,dB false),(36,.tup [.ifc 121 (.agg [dI v]),dI 0]),(37,.el (.agg [.sh 2 (S.map SerD.d)]) 0),(38,dI t),(39,.agg [.el (.agg [.sh 2 (S.map SerD.d)]) 0,dI t]),(40,.agg [.s op,.s text,dI n,dI mode,.sh 1 (names.map D.s),.sh 3 (ms.map MatD.d),.sh 7 (Nd.ds kids)]),(41,.tup [.ifc 121 (.agg [dI v]),dI 0]),(42,.ifc 121 (.agg [dI v])),(43,dI 0),(44,dI 0),(45,dB (decide (0≠(0:Int)))),(47,.tup [.agg [dI v],dB true]),(48,.ifc 121 (.agg [dI v])),(49,.tup [.agg [dI v],dB true]),(50,.agg [dI v]),(51,dB true),(52,dB true),(53,dP g9 0),(54,dI v),(55,.agg [dZ,dI v]),(56,.sh 2 ([(RowD.mk [] v)].map RowD.d))]) [.sl (vS g10 1 1) 2 50 ([(RowD.mk [] v)].map RowD.d)] (H1:=[.bx g9 121 (.agg [dI v]),.bx g1 57 (.agg [.s op,.s text,dI n,dI mode,.sh 1 (names.map D.s),.sh 3 (ms.map MatD.d),.sh 7 (Nd.ds kids)])]) (H1':=[.bx g9 121 (.agg [dI v]),.bx g1 57 (.agg [.s op,.s text,dI n,dI mode,.sh 1 (names.map D.s),.sh 3 (ms.map MatD.d),.sh 7 (Nd.ds kids)])]) ⟨⟨_,O,mJ⟩,⟨_,O,mJ⟩,⟨_,O,mJ⟩,⟨_,O,mJ⟩,⟨_,O,mK (j:=0) O O⟩,⟨_,O,mJ⟩,⟨_,O,mJ⟩,⟨_,O,mJ⟩,⟨_,O,mJ⟩,⟨_,O,mJ⟩,⟨_,O,mJ⟩,⟨_,O,mJ⟩,⟨_,O,mJ⟩,⟨_,O,mJ⟩,⟨_,O,mJ⟩,⟨_,O,mJ⟩,⟨_,O,mJ⟩,⟨_,O,mJ⟩,⟨_,O,mJ⟩,⟨_,O,mJ⟩,⟨_,O,mJ⟩,⟨_,O,mJ⟩,⟨_,O,mJ⟩,⟨_,O,mJ⟩,⟨_,O,mJ⟩,⟨_,O,mJ⟩,⟨_,O,mJ⟩,⟨_,O,mJ⟩,⟨_,O,mJ⟩,⟨_,O,mJ⟩,⟨_,O,mJ⟩,⟨_,O,mJ⟩,⟨_,O,mJ⟩,⟨_,O,mJ⟩,⟨_,O,mJ⟩,⟨_,O,mJ⟩,⟨_,O,mJ⟩,⟨_,O,mJ⟩,⟨_,O,mJ⟩,⟨_,O,mJ⟩,⟨_,O,mJ⟩,⟨_,O,mJ⟩,⟨_,O,mJ⟩,⟨_,O,mJ⟩,⟨_,O,mJ⟩,⟨_,O,mJ⟩,⟨_,O,mJ⟩,⟨_,O,mJ⟩,⟨_,O,mK (j:=0) O O⟩,trivial⟩ (.same (.same .nil))) ?_;exact tRs O Tryz.results37 (.cons (zc (za O) (w6 (aG (D.ls 2 RowD.d) (show [(RowD.mk [] v)]=[⟨[],v⟩] from(by rfl))))) (.cons (za O) .nil)) O HSub.none ⟨O,O⟩
def aRa (S:List SerD) (t:Int) (op text:Ba) (n mode:Int) (names:List Ba) (ms:List MatD) (kids:List Nd) (l:List RowD) (ht0:0<=t) (ht1:t<=1000000000) (hc:Nd.cntL kids<=10000) (hk:(Nd.mk op text n mode names ms kids).kind=2) (iho:CD Tryz.prog 62 [] [.agg [.el (.agg [.sh 2 (S.map SerD.d)]) 0,dI t],.agg [.s op,.s text,dI n,dI mode,.sh 1 (names.map D.s),.sh 3 (ms.map MatD.d),.sh 7 (Nd.ds kids)]] (isR (.tup [.ifc 32 (.sh 2 (l.map RowD.d)),dI 0]))):
 CD Tryz.prog 37 [] [.el (.agg [.sh 2 (S.map SerD.d)]) 0,.agg [.s op,.s text,dI n,dI mode,.sh 1 (names.map D.s),.sh 3 (ms.map MatD.d),.sh 7 (Nd.ds kids)],dI t] (isR (.tup [(D.ls 2 RowD.d) l,dI 0])):=by
 refine tZ Tryz.func37 O O (λC=>?_);refine T.bd 0 O (λbd0=>?_);refine T.bd 1 O (λbd1=>?_);have hke:(Nd.mk op text n mode names ms kids).kindE=0:=by unfold Nd.kindE;rw[hk];rfl
 refine g' 2 O ?_;refine tA O (λg1=>?_);refine g' 10 O ?_;refine tOr 2 2 (c:=decide ((1000000000:Int)<t)) O O O O O O (λhb2 nx3=>?_) ?_
 · have hf4:=aC hb2;refine g' 2 O ?_;exact nx3 _ O O (kx 2 O O)
 refine g' 2 O ?_;refine tC O (λhc5=>?_) (λhc5=>?_)
 · simp only[bX,bJ] at hc5;exfalso;omega
 simp only[bX,bJ] at hc5;refine gQ 5 [0] O O (tW O acs (of_c (Nd.mk op text n mode names ms kids) (by simp only[Nd.cnt];omega)) (g' 16 O ?_));refine tD O (λhc6=>?_) (λhc6=>?_)
 · exfalso;exact hc6 hke
 refine g' 7 O ?_;refine tD O (λhc7=>?_) (λhc7=>?_)
 · exfalso;omega
 refine g' 3 O (tP O (zfR O O zcs) (g' 11 O (tP O (zm [0,1] [.tmp 37,.tmp 38] (zv:=(.agg #[(.pointer none),(.int .i64 0)])) O O (.cons CellD.el (.cons (CellD.v O) .nil)) (Tryz.runUnderlying118) Tryz.zeroValue118 aBf ⟨O,O,trivial⟩ O) (gQ 1 [0] O O (tW O acs (iho) (g' 14 O ?_))))));refine tD O (λhc8=>?_) (λhc8=>?_)
 · exfalso;omega
 refine g' 6 O (tP O ((zb1 (zv:=(.agg #[(.int .i64 0)])) O (λ_ _=>by kernel_rfl)).cv (Cv.tup (.cons (w7 (by decide)) (gc .nil)))) (g' 3 O ?_));refine tA O (λg9=>?_);refine gQ 15 [0] O O (tP O (nC O (λ_ _=>by kernel_rfl)) (g' 5 O ?_));exact tR O HSub.none ⟨O,O⟩
def aJv (S:List SerD) (t:Int) (op text:Ba) (n mode:Int) (names:List Ba) (ms:List MatD) (kids:List Nd) (l:List RowD) (hc:Nd.cntL kids<=10000) (hck:(Nd.mk op text n mode names ms kids).checkE=0) (hev:CD Tryz.prog 37 [] [.el (.agg [.sh 2 (S.map SerD.d)]) 0,.agg [.s op,.s text,dI n,dI mode,.sh 1 (names.map D.s),.sh 3 (ms.map MatD.d),.sh 7 (Nd.ds kids)],dI t] (isR (.tup [(D.ls 2 RowD.d) l,dI 0]))):
 CD Tryz.prog 17 [] [.el (.agg [.sh 2 (S.map SerD.d)]) 0,.agg [.s op,.s text,dI n,dI mode,.sh 1 (names.map D.s),.sh 3 (ms.map MatD.d),.sh 7 (Nd.ds kids),dI 0,dI (-1),dI (-1)],dI t] (isR (.tup [(D.ls 2 RowD.d) l,dI 0])):=by
 refine tZ Tryz.func17 O O (λC=>?_);refine T.bd 0 O (λbd0=>?_);refine T.bd 1 O (λbd1=>?_);refine g' 2 O ?_;refine tA O (λg1=>?_);refine gQ 8 [0] O O (tW O acs (qM op text n mode names ms kids 0 (-1) (-1) (by omega)) (g' 9 O ?_));refine tD O (λhc2=>?_) (λhc2=>?_)
 · exfalso;exact hc2 hck
 refine gQ 8 [0] O O (tW O acs (hev) (g' 14 O ?_));refine tD O (λhc3=>?_) (λhc3=>?_)
 · exfalso;omega
 refine gQ 10 [0] O O ?_;refine tD O (λhc4=>?_) (λhc4=>?_)
 · exfalso;omega
 refine gQ 7 [0] O O (tP O (zfe O O O) (g' 1 O (tP O (zH (n:=l.length) O Tryz.runUnderlying32 (by simp only[lm,lc,ln])) (tP O (zgu O O O) (tP O ((zaX (a:=((min (max ((-1):Int) (0:Int)) ((l.length:Nat):Int))).toNat) (b:=l.length) O O O (by first | rfl | (show _=_;(try simp only[lm]);omega) | exact cN _) (by first | rfl | (show _=_;(try simp only[lm]);omega) | exact cN _) Tryz.runUnderlying32 Tryz.sizeOf50 (by omega) (by simp only[lm];omega)).cv (w6 (by rw[<-dU,<-dV]))) (gQ 11 [0] O O ?_))))));refine tD O (λhc5=>?_) (λhc5=>?_)
 · exfalso;omega
 refine g' 10 O ?_;exact tRs O Tryz.results17 (.cons (zc (za O) (w6 (aG (D.ls 2 RowD.d) (show ((l.take l.length).drop (((min (max ((-1):Int) (0:Int)) ((l.length:Nat):Int))).toNat))=l from(by rw[dJ,show (min (max ((-1):Int) (0:Int)) ((l.length:Nat):Int)).toNat=0 by omega];rfl))))) (.cons (za O) .nil)) O HSub.none ⟨O,O⟩
def aR6 (x:List RowD):(((((x.take x.length).drop (min (max ((-1):Int) (0:Int)) ((x.length:Nat):Int)).toNat).take (min (1:Int) (((((x.take x.length).drop (min (max ((-1):Int) (0:Int)) ((x.length:Nat):Int)).toNat).length:Nat)):Int)).toNat)).drop 0)=x.take 1:=by
 have e:(min (max ((-1):Int) (0:Int)) ((x.length:Nat):Int)).toNat=0:=by omega
 rw[dJ,e,d8,d8];cases x with
 | nil=>simp
 | cons a r=>rw[show (min (1:Int) (((a::r).length:Nat):Int)).toNat=1 by simp only[lc];omega]
def aM8 (S:List SerD) (t:Int) (op text:Ba) (n mode:Int) (names:List Ba) (ms:List MatD) (kids:List Nd) (l:List RowD) (hc:Nd.cntL kids<=10000) (hck:(Nd.mk op text n mode names ms kids).checkE=0) (hev:CD Tryz.prog 37 [] [.el (.agg [.sh 2 (S.map SerD.d)]) 0,.agg [.s op,.s text,dI n,dI mode,.sh 1 (names.map D.s),.sh 3 (ms.map MatD.d),.sh 7 (Nd.ds kids)],dI t] (isR (.tup [(D.ls 2 RowD.d) l,dI 0]))) (hll:l.length<=1000000) (hl0:0<l.length):
 CD Tryz.prog 17 [] [.el (.agg [.sh 2 (S.map SerD.d)]) 0,.agg [.s op,.s text,dI n,dI mode,.sh 1 (names.map D.s),.sh 3 (ms.map MatD.d),.sh 7 (Nd.ds kids),dI 2,dI 1,dI (-1)],dI t] (isR (.tup [(D.ls 2 RowD.d) ((zr (zg 2) l).take 1),dI 0])):=by
 refine tZ Tryz.func17 O O (λC=>?_);refine T.bd 0 O (λbd0=>?_);refine T.bd 1 O (λbd1=>?_);refine g' 2 O ?_;refine tA O (λg1=>?_);refine gQ 8 [0] O O (tW O acs (qM op text n mode names ms kids 2 1 (-1) (by omega)) (g' 9 O ?_));refine tD O (λhc2=>?_) (λhc2=>?_)
 · exfalso;exact hc2 hck
 refine gQ 8 [0] O O (tW O acs (hev) (g' 14 O ?_));refine tD O (λhc3=>?_) (λhc3=>?_)
 · exfalso;omega
 refine gQ 10 [0] O O ?_;refine tD O (λhc4=>?_) (λhc4=>?_)
 · refine gQ 4 [0] O O (tX [] O O acs (aS6 2 l (by omega)) ?_);rintro _ _ ⟨v5,rfl,rfl⟩;refine g' 4 O ?_;refine mV (Mv.freeze (K':=[(0,.el (.agg [.sh 2 (S.map SerD.d)]) 0),(1,.agg [.s op,.s text,dI n,dI mode,.sh 1 (names.map D.s),.sh 3 (ms.map MatD.d),.sh 7 (Nd.ds kids),dI 2,dI 1,dI (-1)]),(2,dI t),(4,dP g1 0),(6,dZ),(7,dI 0),(8,dI ((Nd.mk op text n mode names ms kids).checkE)),(9,.sh 2 ((zr (zg 2) l).map RowD.d)),(10,dI 0),(11,.agg [.s op,.s text,dI n,dI mode,.sh 1 (names.map D.s),.sh 3 (ms.map MatD.d),.sh 7 (Nd.ds kids),dI 2,dI 1,dI (-1)]),(12,dI ((Nd.mk op text n mode names ms kids).checkE)),(13,dI ((Nd.mk op text n mode names ms kids).checkE)),(14,dB (decide ((Nd.mk op text n mode names ms kids).checkE≠(0:Int)))),(16,.tup [.sh 2 (l.map RowD.d),dI 0]),(17,.el (.agg [.sh 2 (S.map SerD.d)]) 0),(18,dP g1 0),(19,.agg [.s op,.s text,dI n,dI mode,.sh 1 (names.map D.s),.sh 3 (ms.map MatD.d),.sh 7 (Nd.ds kids)]),(20,dI t),(21,.tup [.sh 2 (l.map RowD.d),dI 0]),(22,.sh 2 (l.map RowD.d)),(23,dI 0),(24,dI 0),(25,dB (decide (0≠(0:Int)))),(27,dP g1 7),(28,dI 2),(29,dB (decide ((2:Int)≠(0:Int)))),(30,dP g1 7),(31,dI 2),(32,.sh 2 (l.map RowD.d)),(33,.sh 2 ((zr (zg 2) l).map RowD.d))]) [.sl v5 2 50 ((zr (zg 2) l).map RowD.d)] (H1:=[.bx g1 59 (.agg [.s op,.s text,dI n,dI mode,.sh 1 (names.map D.s),.sh 3 (ms.map MatD.d),.sh 7 (Nd.ds kids),dI 2,dI 1,dI (-1)])]) (H1':=[.bx g1 59 (.agg [.s op,.s text,dI n,dI mode,.sh 1 (names.map D.s),.sh 3 (ms.map MatD.d),.sh 7 (Nd.ds kids),dI 2,dI 1,dI (-1)])]) ⟨⟨_,O,mJ⟩,⟨_,O,mJ⟩,⟨_,O,mJ⟩,⟨_,O,mJ⟩,⟨_,O,mJ⟩,⟨_,O,mJ⟩,⟨_,O,mJ⟩,⟨_,O,mK (j:=0) O O⟩,⟨_,O,mJ⟩,⟨_,O,mJ⟩,⟨_,O,mJ⟩,⟨_,O,mJ⟩,⟨_,O,mJ⟩,⟨_,O,mJ⟩,⟨_,O,mJ⟩,⟨_,O,mJ⟩,⟨_,O,mJ⟩,⟨_,O,mJ⟩,⟨_,O,mJ⟩,⟨_,O,mJ⟩,⟨_,O,mJ⟩,⟨_,O,mJ⟩,⟨_,O,mJ⟩,⟨_,O,mJ⟩,⟨_,O,mJ⟩,⟨_,O,mJ⟩,⟨_,O,mJ⟩,⟨_,O,mJ⟩,⟨_,O,mJ⟩,⟨_,O,mK (j:=0) O O⟩,trivial⟩ (.same .nil)) ?_;refine gQ 4 [0] O O (tP O (zfe O O O) (g' 1 O (tP O (zH (n:=(zr (zg 2) l).length) O Tryz.runUnderlying32 (by simp only[lm,lc,ln])) (tP O (zgu O O O) (tP O ((zaX (a:=((min (max ((-1):Int) (0:Int)) (((zr (zg 2) l).length:Nat):Int))).toNat) (b:=(zr (zg 2) l).length) O O O (by first | rfl | (show _=_;(try simp only[lm]);omega) | exact cN _) (by first | rfl | (show _=_;(try simp only[lm]);omega) | exact cN _) Tryz.runUnderlying32 Tryz.sizeOf50 (by omega) (by simp only[lm];omega)).cv (w6 (by rw[<-dU,<-dV]))) (gQ 11 [0] O O ?_))))));refine tD O (λhc6=>?_) (λhc6=>?_)
   · refine gQ 5 [0] O O (tP O (zH (n:=(((zr (zg 2) l).take ((zr (zg 2) l).length)).drop (((min (max ((-1):Int) (0:Int)) (((zr (zg 2) l).length:Nat):Int))).toNat)).length) O Tryz.runUnderlying32 (by simp only[lm,lc,ln])) (tP O (zgu O O O) (tP O ((zaX (a:=0) (b:=((min (1:Int) (((((zr (zg 2) l).take ((zr (zg 2) l).length)).drop (((min (max ((-1):Int) (0:Int)) (((zr (zg 2) l).length:Nat):Int))).toNat)).length:Nat):Int))).toNat) O O O (by first | rfl | (show _=_;(try simp only[lm]);omega) | exact cN _) (by first | rfl | (show _=_;(try simp only[lm]);omega) | exact cN _) Tryz.runUnderlying32 Tryz.sizeOf50 (by omega) (by simp only[lm];omega)).cv (w6 (by rw[<-dU,<-dV]))) (g' 11 O ?_))));exact tRs O Tryz.results17 (.cons (zc (za O) (w6 (aG (D.ls 2 RowD.d) (show (((((zr (zg 2) l).take ((zr (zg 2) l).length)).drop (((min (max ((-1):Int) (0:Int)) (((zr (zg 2) l).length:Nat):Int))).toNat)).take (((min (1:Int) (((((zr (zg 2) l).take ((zr (zg 2) l).length)).drop (((min (max ((-1):Int) (0:Int)) (((zr (zg 2) l).length:Nat):Int))).toNat)).length:Nat):Int))).toNat)).drop 0)=(zr (zg 2) l).take 1 from(by exact aR6 _))))) (.cons (za O) .nil)) O HSub.none ⟨O,O⟩
   exfalso;omega
 exfalso;omega
def aNm (ev es:Value) (hev:EvOk ev) (hes:EvOk es):CD Tryz.prog 16 [HPow,HErr ev,HSyn es] [.v (.string zgD)] (λr H'=>r=.tup [.agg [.s tAgg,.s bSum,dI 0,dI 1,.sh 1 ([zej].map D.s),.sh 3 (([]:List MatD).map MatD.d),.sh 7 (Nd.ds [a12C]),dI 2,dI 1,dI (-1)],dI 0]/\H'=[HPow,HErr ev,HSyn es]):=by
 have h:=aH5 zgD ev es hev hes (aV8 aPp (by decide)) (qD (by kernel_rfl));rw[al12_r1.1,al12_r1.2] at h;refine CD.to ⟨λw F vs hvs hF hH=>h.out w F vs (by obtain ⟨u,us,e,hu,hus⟩:=hvs;exact⟨u,us,e,⟨hu,by decide⟩,hus⟩) hF hH⟩ ?_;rintro r H' ⟨op,text,n,mode,names,ms,kids,o,a,b,e,rfl,rfl⟩;injection e with e1 e2 e3 e4;subst e2;subst e3;subst e4;injection e1 with a1 a2 a3 a4 a5 a6 a7;subst a1;subst a2;subst a3;subst a4;subst a5;subst a6;subst a7;exact⟨O,O⟩
def aLr (ev es:Value) (hev:EvOk ev) (hes:EvOk es):CD Tryz.prog 16 [HPow,HErr ev,HSyn es] [.v (.string zgC)] (λr H'=>r=.tup [.agg [.s tBin,.s zdi,dI 0,dI 0,.sh 1 (([]:List Ba).map D.s),.sh 3 (([]:List MatD).map MatD.d),.sh 7 (Nd.ds [numN 1,a12P]),dI 0,dI (-1),dI (-1)],dI 0]/\H'=[HPow,HErr ev,HSyn es]):=by
 have h:=aH5 zgC ev es hev hes (aV8 aPo (by decide)) (qD (by kernel_rfl));rw[al12_r2.1,al12_r2.2] at h;refine CD.to ⟨λw F vs hvs hF hH=>h.out w F vs (by obtain ⟨u,us,e,hu,hus⟩:=hvs;exact⟨u,us,e,⟨hu,by decide⟩,hus⟩) hF hH⟩ ?_;rintro r H' ⟨op,text,n,mode,names,ms,kids,o,a,b,e,rfl,rfl⟩;injection e with e1 e2 e3 e4;subst e2;subst e3;subst e4;injection e1 with a1 a2 a3 a4 a5 a6 a7;subst a1;subst a2;subst a3;subst a4;subst a5;subst a6;subst a7;exact⟨O,O⟩
def al_c:CD Tryz.prog 62 [] [.agg [.el (.agg [.sh 2 (alS.map SerD.d)]) 0,dI 20],Nd.d a12C] (isR (.tup [.ifc 32 (.sh 2 (alV.map RowD.d)),dI 0])):=by
 have h:=aWg alS 20 bCpu 0 0 [] [] (by decide) aRf;rw[al_rt.1,al_rt.2] at h;exact h
def al_a:CD Tryz.prog 62 [] [.agg [.el (.agg [.sh 2 (alS.map SerD.d)]) 0,dI 20],Nd.d a12A] (isR (.tup [.ifc 32 (.sh 2 (alG.map RowD.d)),dI 0])):=by
 have h:=aWc alS 20 0 1 [zej] [a12C] a12C alV (by decide) O al_c (by decide);rw[al_gd.1,al_gd.2] at h;exact h
def aZk:CD Tryz.prog 62 [] [.agg [.el (.agg [.sh 2 (alS.map SerD.d)]) 0,dI 0],Nd.d (numN 1)] (isR (.tup [.ifc 121 (.agg [dI 1]),dI 0])):=by
 have h:=zfH alS 0 ByteArray.empty 1 0 [] [] [];exact h
def a0h:CD Tryz.prog 62 [] [.agg [.el (.agg [.sh 2 (alS.map SerD.d)]) 0,dI 0],Nd.d (numN 2)] (isR (.tup [.ifc 121 (.agg [dI 2]),dI 0])):=by
 have h:=zfH alS 0 ByteArray.empty 2 0 [] [] [];exact h
def aY9:CD Tryz.prog 62 [] [.agg [.el (.agg [.sh 2 (alS.map SerD.d)]) 0,dI 0],Nd.d (numN 3)] (isR (.tup [.ifc 121 (.agg [dI 3]),dI 0])):=by
 have h:=zfH alS 0 ByteArray.empty 3 0 [] [] [];exact h
def al_p:CD Tryz.prog 62 [] [.agg [.el (.agg [.sh 2 (alS.map SerD.d)]) 0,dI 0],Nd.d a12P] (isR (.tup [.ifc 121 (.agg [dI 6]),dI 0])):=by
 have h:=aBz alS 0 zc6 0 0 [] [numN 2,numN 3] (numN 2) (numN 3) 2 3 (by decide) O O a0h aY9;rw[show doE zc6 2 3=(6,0) from by decide] at h;exact h
def al_b:CD Tryz.prog 62 [] [.agg [.el (.agg [.sh 2 (alS.map SerD.d)]) 0,dI 0],Nd.d a12B] (isR (.tup [.ifc 121 (.agg [dI 7]),dI 0])):=by
 have h:=aBz alS 0 zdi 0 0 [] [numN 1,a12P] (numN 1) a12P 1 6 (by decide) O O aZk al_p;rw[show doE zdi 1 6=(7,0) from by decide] at h;exact h
def a1a:CD Tryz.prog 17 [] [.el (.agg [.sh 2 (alS.map SerD.d)]) 0,.agg [.s tAgg,.s bSum,dI 0,dI 1,.sh 1 ([zej].map D.s),.sh 3 (([]:List MatD).map MatD.d),.sh 7 (Nd.ds [a12C]),dI 2,dI 1,dI (-1)],dI 20] (isR (.tup [(D.ls 2 RowD.d) alR,dI 0])):=aZ2 ▸ aM8 alS 20 tAgg bSum 0 1 [zej] [] [a12C] alG (by decide) (by kernel_rfl) (aRa alS 20 tAgg bSum 0 1 [zej] [] [a12C] alG (by decide) (by decide) (by decide) (by kernel_rfl) al_a) (by decide) (by decide)
def aZs:CD Tryz.prog 17 [] [.el (.agg [.sh 2 (alS.map SerD.d)]) 0,.agg [.s tBin,.s zdi,dI 0,dI 0,.sh 1 (([]:List Ba).map D.s),.sh 3 (([]:List MatD).map MatD.d),.sh 7 (Nd.ds [numN 1,a12P]),dI 0,dI (-1),dI (-1)],dI 0] (isR (.tup [(D.ls 2 RowD.d) [⟨[],7⟩],dI 0])):=aJv alS 0 tBin zdi 0 0 [] [] [numN 1,a12P] [⟨[],7⟩] (by decide) (by kernel_rfl) (aQt alS 0 tBin zdi 0 0 [] [] [numN 1,a12P] 7 (by decide) (by decide) (by decide) (by kernel_rfl) al_b)
def aYi (ev es:Value) (hev:EvOk ev) (hes:EvOk es):
 CD Tryz.prog 9 [HPow,HErr ev,HSyn es] [.el (.agg [.sh 2 (alS.map SerD.d)]) 0,.v (.string zgD),dI 20] (λr H'=>r=.tup [(D.ls 2 RowD.d) alR,dI 0]/\H'=[HPow,HErr ev,HSyn es]):=by
 refine tZ Tryz.func9 O O (λC=>?_);refine T.bd 0 O (λbd0=>?_);refine g' 9 O (tX [0,0,0] O O acs (aNm ev es hev hes) ?_);rintro _ _ ⟨rfl,rfl⟩;refine g' 3 O ?_;refine tA O (λg1=>?_);refine gQ 11 [0] O O ?_;refine tD O (λhc2=>?_) (λhc2=>?_)
 · exfalso;omega
 refine gQ 7 [0] O O (tW O acs (a1a) (g' 7 O (mY 3 O (mY 3 O (mY 3 O ?_)))));exact tR O (mO 3 O) ⟨O,O⟩
def aW1 (ev es:Value) (hev:EvOk ev) (hes:EvOk es):
 CD Tryz.prog 9 [HPow,HErr ev,HSyn es] [.el (.agg [.sh 2 (alS.map SerD.d)]) 0,.v (.string zgC),dI 0] (λr H'=>r=.tup [(D.ls 2 RowD.d) alM,dI 0]/\H'=[HPow,HErr ev,HSyn es]):=by
 refine tZ Tryz.func9 O O (λC=>?_);refine T.bd 0 O (λbd0=>?_);refine g' 9 O (tX [0,0,0] O O acs (aLr ev es hev hes) ?_);rintro _ _ ⟨rfl,rfl⟩;refine g' 3 O ?_;refine tA O (λg1=>?_);refine gQ 11 [0] O O ?_;refine tD O (λhc2=>?_) (λhc2=>?_)
 · exfalso;omega
 refine gQ 7 [0] O O (tW O acs (aZs) (g' 7 O (mY 3 O (mY 3 O (mY 3 O ?_)))));exact tR O (mO 3 O) ⟨O,O⟩
end Lp
namespace Lp
open Go
section
variable {s:Rd} {k:Int} {ts:List Ba} {x:Ba}
def ze6:(s.take k ts).2.2.b=s.b:=by unfold Rd.take;split<;>rfl
def zX (h:s.b=true):(s.must x).b=true:=by unfold Rd.must;simp only[ze6,h,Bool.true_or]
def zcC (h:s.b=true):(s.any k).2.b=true:=by unfold Rd.any;rw[aB (.inl h)]
def zbv (h:s.b=true):s.node.b=true:=by unfold Rd.node;simp only[h,Bool.true_or]
def zcE (h:s.b=true):s.take k ts=(ByteArray.empty,false,s):=zaZ (.inl h)
def rC {F:Nat} {o:List Ba} (h:s.b=true):(namesF F o s).2.b=true:=by
 cases F with
 | zero=>exact h
 | succ F=>unfold namesF;rw[aB h];exact h
def aO4 {y:Ba} (h:s.b=true):(s.mode x y).2.2.b=true:=by
 unfold Rd.mode;rw[zcE h];simpa using h
def zcO {part:Rd->Nd×Rd} {F:Nat} {o:Nd} (h:s.b=true):(zaO part ts F o s).2.b=true:=by
 cases F with
 | zero=>exact h
 | succ F=>unfold zaO;rw[zcE h];simpa using h
def iZ {F:Nat} {o:List MatD} (h:s.b=true):(bracesF F o s).2.b=true:=by
 cases F with
 | zero=>exact h
 | succ F=>unfold bracesF;rw[aB h];exact h
end
def Bad (p:Rd->Nd×Rd):Prop:=∀ s,s.b=true->(p s).2.b=true
def Bad.no {p:Rd->Nd×Rd} (h:Bad p) {s:Rd} (e:(p s).2.b=false):s.b=false:=by
 cases hs:s.b with
 | false=>rfl
 | true=>rw[h s hs] at e;cases e
def zae {a b:Bool} (h:a=true->b=true) (e:b=false):a=false:=by
 cases a with
 | false=>rfl
 | true=>rw[h rfl] at e;cases e
def yU {part:Rd->Nd×Rd} (h:Bad part) (ts:List Ba):Bad (λs=>s.level part ts):=λs hs=>zcO (h s hs)
section
variable (rm:List MatD->Bool)
def aHb (ex:Rd->Nd×Rd):Bad (λs=>s.prim rm ex):=λs h=>by simp only[Rd.prim];rw[aB h];exact h
def iS (ex:Rd->Nd×Rd):∀ F,Bad (zat rm ex F)
 | 0,s,h=>h
 | F+1,s,h=>by unfold zat;rw[zcE h];simpa using aHb rm ex s h
def aAr (ex:Rd->Nd×Rd):Bad (zfb rm ex):=yU (λs h=>iS rm ex _ s h) _
def zgk (ex:Rd->Nd×Rd):Bad (sumP rm ex):=yU (aAr rm ex) _
def zfJ:∀ F,Bad (za5 rm F)
 | 0,s,h=>h
 | F+1,s,h=>yU (zgk rm (za5 rm F)) _ s h
def aNe {s:Rd} (h:s.b=true):(s.braces rm).2.b=true:=by
 unfold Rd.braces;split
 · exact zX (zX h)
 show (((bracesF _ [] (s.must zaq)).2.must zaW).b||_)=true;rw[zX (iZ (zX h))];rfl
def aTj {s:Rd} {x:Ba} (h:s.b=true):(s.selMs rm x).2.b=true:=by
 unfold Rd.selMs;split
 · exact aNe rm h
 show (s.b||_)=true;rw[h];rfl
end
def oS {s:Rd} (h:s.b=true):s.selWin.2.b=true:=by unfold Rd.selWin;rw[zcE h];simpa using h
def er (t:TokD):TokD:=⟨t.k,0,t.t⟩
def aLx {x y:TokD} (h:er x=er y):x.k=y.k/\x.t=y.t:=by
 have a:(er x).k=(er y).k:=aG TokD.k h;have b:(er x).t=(er y).t:=aG TokD.t h;exact⟨a,b⟩
structure R (r:List TokD) (s t:Rd):Prop where
 l:t.l.map er=(s.l++r).map er
 n:t.n=s.n
 b:t.b=s.b
def Hq (r:List TokD):Prop:=∀ h,r.head?=some h->h.k=5/\h.t=zL\/h.k=1/\(h.t=zbM\/h.t=zcF\/h.t=zb6)
section
variable {r:List TokD} {s t:Rd} {k:Int} {ts:List Ba} {x:Ba}
def zgO {s:Rd}:er s.pk=(s.l.map er).headD zbo:=by
 unfold Rd.pk;cases s.l with
 | nil=>rfl
 | cons y l=>rfl
def R.pk (h:R r s t) (hl:s.l≠[]):t.pk.k=s.pk.k/\t.pk.t=s.pk.t:=by
 have e1:=zgO (s:=t);have e2:=zgO (s:=s);rw[h.l] at e1;obtain ⟨y,l,hy⟩:=List.exists_cons_of_ne_nil hl;rw[hy] at e1 e2;have e3:er t.pk=er s.pk:=by rw[e1,e2];rfl
 exact aLx e3
def R.is (h:R r s t) (hl:s.l≠[]):t.is k ts=s.is k ts:=by
 have e:=h.pk hl;unfold Rd.is;rw[e.1,e.2]
def zdu (hl:s.l=[]) (hk:k≠0):s.is k ts=false:=by
 unfold Rd.is;rw[pk_0 (by rw[hl];rfl),aD (show ¬zbo.k=k from λe=>hk e.symm)];rfl
structure Qt (k:Int) (ts:List Ba):Prop where
 kn:k≠0
 a:k=5->hasN ts zL=false
 b:k=1->hasN ts zbM=false/\hasN ts zcF=false/\hasN ts zb6=false
def R.isq (h:R r s t) (hr:Hq r) (q:Qt k ts):t.is k ts=s.is k ts:=by
 by_cases hl:s.l=[]
 · rw[zdu hl q.kn];have e1:=zgO (s:=t);rw[h.l,hl,dY] at e1;cases r with
   | nil=>exact zdu (uW.1 (by rw[h.l,hl];rfl)) q.kn
   | cons y r=>
    have e3:er t.pk=er y:=e1;obtain ⟨e4,e5⟩:=aLx e3;unfold Rd.is;rw[e4,e5];rcases hr y rfl with ⟨a,b⟩ | ⟨a,b⟩
    · rw[a,b];by_cases hk:k=5
      · rw[q.a hk,uM]
      rw[aD (λe=>hk e.symm)];rfl
    rw[a];by_cases hk:k=1
    · obtain ⟨q1,q2,q3⟩:=q.b hk;rcases b with b | b | b<;>rw[b]
      · rw[q1,uM]
      · rw[q2,uM]
      rw[q3,uM]
    rw[aD (λe=>hk e.symm)];rfl
 exact h.is hl
def R.tail (h:R r s t) (hl:s.l≠[]):R r ⟨s.l.tail,s.n,s.b⟩ ⟨t.l.tail,t.n,t.b⟩:=by
 obtain ⟨y,l,hy⟩:=List.exists_cons_of_ne_nil hl;refine⟨?_,h.n,h.b⟩;have e:=h.l;rw[hy] at e ⊢;show t.l.tail.map er=(l++r).map er;rw[List.map_tail,e];rfl
def zfl (hk:k≠0) (h:s.is k ts=true):s.l≠[]:=λe=>by rw[zdu e hk] at h;cases h
def R.take (h:R r s t) (hk:k≠0) (hi:t.is k ts=s.is k ts):(t.take k ts).1=(s.take k ts).1/\(t.take k ts).2.1=(s.take k ts).2.1/\R r (s.take k ts).2.2 (t.take k ts).2.2:=by
 unfold Rd.take;rw[h.b,hi];split
 · exact⟨O,O,h⟩
 rename_i hc;have hc2:s.is k ts=true:=by
  cases e:s.is k ts with
  | true=>rfl
  | false=>exact aH (.inr e) hc
 have hl:=zfl hk hc2;refine⟨(h.pk hl).2,O,?_⟩;have:=h.tail hl;rw[h.b] at this;exact this
def R.takeq (h:R r s t) (hr:Hq r) (q:Qt k ts):(t.take k ts).1=(s.take k ts).1/\(t.take k ts).2.1=(s.take k ts).2.1/\R r (s.take k ts).2.2 (t.take k ts).2.2:=h.take (k:=k) (ts:=ts) q.kn (h.isq hr q)
def R.any (h:R r s t) (hk:k≠0) (e:(s.any k).2.b=false):(t.any k).1=(s.any k).1/\R r (s.any k).2 (t.any k).2:=by
 have hb:s.b=false:=zae zcC e;have hp:s.pk.k=k:=by
  refine Decidable.byContradiction λhn=>?_
  rw[zeu (.inr hn)] at e;cases e
 have hl:=zgt hk hp;have hp':=h.pk hl;have e1:s.any k=(s.pk.t,⟨s.l.tail,s.n,s.b⟩):=by unfold Rd.any;rw[aA (by rw[hb];rintro (a | a);cases a;exact a hp)]
 have e2:t.any k=(t.pk.t,⟨t.l.tail,t.n,t.b⟩):=by unfold Rd.any;rw[aA (by rw[h.b,hb,hp'.1];rintro (a | a);cases a;exact a hp)]
 rw[e1,e2];exact⟨hp'.2,h.tail hl⟩
def R.must (h:R r s t) (e:(s.must x).b=false):R r (s.must x) (t.must x):=by
 have hq:(s.take 5 [x]).2.1=true:=by
  unfold Rd.must at e;simp only[jE,Bool.not_eq_false'] at e;exact e.2
 have hg:=za3 (by decide) hq;have hl:s.l≠[]:=zfl (k:=5) (ts:=[x]) (by decide) hg.2.2.2.2;have ht:=h.take (k:=5) (ts:=[x]) (by decide) (h.is hl);unfold Rd.must;exact⟨ht.2.2.l,ht.2.2.n,by show (_||_)=(_||_);rw[ht.2.2.b,ht.2.1]⟩
def R.number (h:R r s t) (hk:k≠0) (e:(s.number k).2.b=false):(t.number k).1=(s.number k).1/\R r (s.number k).2 (t.number k).2:=by
 have:=h.any hk e;exact⟨aG numV this.1,this.2⟩
def R.node (h:R r s t):R r s.node t.node:=⟨h.l,by show _+1=_+1;rw[h.n],by show (_||_)=(_||_);rw[h.n,h.b]⟩
def R.len (h:R r s t):t.l.length=s.l.length+r.length:=by
 have:=aG List.length h.l;simpa using this
def aO3 (hk:k≠0) (e:(s.any k).2.b=false):s.l≠[]:=by
 have hb:s.b=false:=zae zcC e;refine zgt hk (Decidable.byContradiction λhn=>?_);rw[zeu (.inr hn)] at e;cases e
def qt_5 {ts:List Ba} (h:hasN ts zL=false):Qt 5 ts:=⟨by decide,λ_=>h,λe=>by cases e⟩
def qt_1 {ts:List Ba} (h:hasN ts zbM=false/\hasN ts zcF=false/\hasN ts zb6=false):Qt 1 ts:=⟨by decide,λe=>(by cases e),λ_=>h⟩
def R.namesF (hr:Hq r):∀ (F F':Nat) (o:List Ba) (s t:Rd),s.l.length<F->F<=F'->R r s t->(namesF F o s).2.b=false->(Lp.namesF F' o t).1=(Lp.namesF F o s).1/\R r (Lp.namesF F o s).2 (Lp.namesF F' o t).2
 | 0,_,_,s,_,h,_,_,_=>aH h (jQ _)
 | F+1,0,_,_,_,_,h,_,_=>aH h (Nat.not_succ_le_zero _)
 | F+1,F'+1,o,s,t,hF,hF',h,e=>by
  have hb:s.b=false:=zae (λq=>rC q) e;unfold Lp.namesF at e ⊢;rw[aA (show ¬s.b=true by rw[hb];decide)] at e ⊢;rw[aA (show ¬t.b=true by rw[h.b,hb];decide)];have ha:(s.any 1).2.b=false:=by
   split at e
   · rename_i hq;exact(za3 (by decide) hq).2.2.1
   rw[ze6] at e;exact e
  obtain ⟨a1,a2⟩:=h.any (by decide) ha;obtain ⟨b1,b2,b3⟩:=a2.takeq hr (qt_5 (ts:=[zV]) (by decide));rw[b2,a1];split
  · rename_i hq;rw[aB hq] at e;have hg:=za3 (by decide) hq;have hl:=(zco s 1).len;exact R.namesF hr F F' _ _ _ (by omega) (by omega) b3 e
  exact⟨O,b3⟩
def R.names (h:R r s t) (hr:Hq r) (e:s.names.2.b=false):t.names.1=s.names.1/\R r s.names.2 t.names.2:=by
 have h1:(s.must zE).b=false:=by
  unfold Rd.names at e;split at e
  · exact zae zX e
  exact zae (λq=>rC q) (zae zX e)
 have r1:=h.must h1;by_cases hl:(s.must zE).l=[]
 · exfalso;unfold Rd.names at e;rw[aA (by rw[zdu hl (by decide)];decide)] at e;have e:=zae zX e;unfold Lp.namesF at e;rw[aA (by rw[h1];decide)] at e;have ha:((s.must zE).any 1).2.b=false:=by
    split at e
    · rename_i hq;exact(za3 (by decide) hq).2.2.1
    rw[ze6] at e;exact e
   exact aO3 (by decide) ha hl
 have hi:=r1.is (k:=5) (ts:=[zL]) hl;unfold Rd.names at e ⊢;rw[hi];split
 · rename_i hc;rw[aB hc] at e;exact⟨O,r1.must e⟩
 rename_i hc;rw[aA hc] at e;have hlen:=r1.len;obtain ⟨a1,a2⟩:=R.namesF hr _ ((t.must zE).l.length+1) [] _ _ (jR _) (by omega) r1 (zae zX e);exact⟨a1,a2.must e⟩
def R.mode (h:R r s t) (hr:Hq r) {x y:Ba} (q:Qt 1 [x,y]) (e:(s.mode x y).2.2.b=false):(t.mode x y).1=(s.mode x y).1/\(t.mode x y).2.1=(s.mode x y).2.1/\R r (s.mode x y).2.2 (t.mode x y).2.2:=by
 obtain ⟨b1,b2,b3⟩:=h.takeq hr q;unfold Rd.mode at e ⊢;rw[b2,b1];split
 · exact⟨O,O,b3⟩
 rename_i hc;rw[aA hc] at e;split
 · rename_i hd;rw[aB hd] at e;have:=b3.names hr e;exact⟨O,this.1,this.2⟩
 rename_i hd;rw[aA hd] at e;have:=b3.names hr e;exact⟨O,this.1,this.2⟩
def Loc (r:List TokD) (m m':Nat) (p p':Rd->Nd×Rd):Prop:=∀ s t:Rd,s.l.length<=m->t.l.length<=m'->R r s t->(p s).2.b=false->(p' t).1=(p s).1/\R r (p s).2 (p' t).2
def aZp:Qt 1 [tOn,zQ]:=qt_1 (by decide)
def a0k:Qt 1 [tBy,zN]:=qt_1 (by decide)
def nW (hr:Hq r) {part part':Rd->Nd×Rd} {ts:List Ba} (q:Qt 5 ts) {m m':Nat} (hb:Bad part) (hp:Loc r m m' part part') (hs:∀ s,Stp 1 s (part s).2) (hs':∀ s,Stp 1 s (part' s).2):∀ (F F':Nat) (o:Nd) (s t:Rd),s.l.length<F->F<=F'->s.l.length<=m->t.l.length<=m'->R r s t->(zaO part ts F o s).2.b=false->(zaO part' ts F' o t).1=(zaO part ts F o s).1/\R r (zaO part ts F o s).2 (zaO part' ts F' o t).2
 | 0,_,_,s,_,h,_,_,_,_,_=>aH h (jQ _)
 | F+1,0,_,_,_,_,h,_,_,_,_=>aH h (Nat.not_succ_le_zero _)
 | F+1,F'+1,o,s,t,hF,hF',hm,hm',h,e=>by
  obtain ⟨b1,b2,b3⟩:=h.takeq hr q;unfold zaO at e ⊢;rw[b2,b1];split
  · exact⟨O,b3⟩
  rename_i hc;rw[aA hc] at e;have hq:(s.take 5 ts).2.1=true:=by simpa using hc
  have hg:=za3 (by decide) hq;have hg':=za3 (s:=t) (k:=5) (ts:=ts) (by decide) (by rw[b2];exact hq);simp only at e ⊢;have k1:=(zcg (s.take 5 ts).2.2 tOn zQ).len;have k2:=(zcg (t.take 5 ts).2.2 tOn zQ).len;have ep:(part ((s.take 5 ts).2.2.mode tOn zQ).2.2).2.b=false:=zae zbv (zae (λq=>zcO q) e);obtain ⟨c1,c2,c3⟩:=b3.mode hr aZp (hb.no ep);obtain ⟨d1,d2⟩:=hp _ _ (by omega) (by omega) c3 ep;rw[c1,c2,d1];have k3:=(hs ((s.take 5 ts).2.2.mode tOn zQ).2.2).len;have k4:=(hs' ((t.take 5 ts).2.2.mode tOn zQ).2.2).len;exact nW hr q hb hp hs hs' F F' _ _ _ (by show (part _).2.l.length<F;omega) (by omega) (by show (part _).2.l.length<=m;omega) (by show (part' _).2.l.length<=m';omega) d2.node e
def zeG (hr:Hq r) {part part':Rd->Nd×Rd} {ts:List Ba} (q:Qt 5 ts) {m m':Nat} (hb:Bad part) (hp:Loc r m m' part part') (hs:∀ s,Stp 1 s (part s).2) (hs':∀ s,Stp 1 s (part' s).2):Loc r m m' (λs=>s.level part ts) (λs=>s.level part' ts):=λs t hm hm' h e=>by
 have ep:(part s).2.b=false:=zae (λq=>zcO q) e;obtain ⟨d1,d2⟩:=hp _ _ hm hm' h ep;have k3:=(hs s).len;have k4:=(hs' t).len;have k5:=d2.len;simp only[Rd.level] at e ⊢;rw[d1];exact nW hr q hb hp hs hs' _ _ _ _ _ (jR _) (by omega) (by omega) (by omega) d2 e
end
end Lp
