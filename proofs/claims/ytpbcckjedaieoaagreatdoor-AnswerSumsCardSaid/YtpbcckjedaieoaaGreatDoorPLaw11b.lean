import Derived.Test.YtpbcckjedaieoaaGreatDoorV136
set_option linter.unusedSimpArgs false
set_option linter.unusedVariables false
set_option maxHeartbeats 4000000
set_option maxRecDepth 100000
namespace Lp
open Go Go.RowKit Go.Proofs
theorem bd_267:BdP Tryz.prog #[⟨"of",141,0,false, "", "leporello/group",0⟩] [(0,1)]:=λ_=>by kernel_rfl
theorem fg_267_0:∀ vs:List Value,vs.length=1->∀ w,(Instr.field 267 (.agg vs.toArray) 0).run Tryz.prog w=.ok (vs.getD 0 undef) w:=λvs h w=>by
 obtain ⟨a,rfl⟩:=List.length_eq_one_iff.1 h
 kernel_rfl
theorem oneC_c (l:List RowD) (h0:0<l.length) (hl:l.length<=1000000):
 CD Tryz.prog 161 [] [.ifc 267 (.agg [.fn 202 [] []]),.sh 2 (l.map RowD.d)] (isR (.tup [dI ((numF (Way.many) l).1),dI ((numF (Way.many) l).2)])):=by
 refine tZ Tryz.func161 O O (λC=>?_);refine T.bd 1 O (λbd1=>?_);have nl1:=zA bd1;refine g' 10 O (tP O ((zak (zv:=(.agg #[(.bool false)])) O (λ_ _=>by kernel_rfl)).cv (Cv.tup (.cons (mC (by decide)) (gc .nil)))) (g' 3 O ?_));refine tA O (λg1=>?_);refine gQ 16 [0] O O (tP O ((zak (zv:=(.agg #[(.int .i64 0)])) O (λ_ _=>by kernel_rfl)).cv (Cv.tup (.cons (mC (by decide)) (gc .nil)))) (g' 3 O ?_));refine tA O (λg2=>?_);refine gQ 13 [0] O O (T.keep [0,1,4,5,6,7,8,9,12,13,14,15,16,17,30,31,32,33,34,35] O (tDr 5 [(45,.ifc 267 (.agg [.fn 202 [] []]),none),(46,.agg [.fn 202 [] []],none),(47,.fn 202 [] [],none),(48,.sh 2 (l.map RowD.d),none),(49,.sh 1 ((l.map (·.v)).map dI),none)] [.bx g2 269 (.agg [dI 0]),.bx g1 265 (.agg [dB false])] (Hn:=[.bx g2 269 (.agg [dI 0]),.bx g1 265 (.agg [dB false])]) mixed O O O O mD O ⟨sa_p O O O (zc O),sa_p O O O (zdr O (λ_ _=>by kernel_rfl)),sa_p O O O (p_field O O O fg_267_0 O),sa_p O O O (zc O),sa_q O O O (zac O (gc .nil) Tryz.call208 (numbers_c l (by omega)) zbb),trivial⟩ (tK O (tW O acs (many_c (l.map (·.v))) (g' 5 O ?_)))));exact tRs O Tryz.results161 (.cons (zf (zd O) (mB (congrArg (λn=>D.v (.int .i64 n)) (by first | rfl | (simp[numF,oneW]))))) (.cons (zf (zd O) (mB (congrArg (λn=>D.v (.int .i64 n)) (by first | rfl | (simp[numF,oneW]))))) .nil)) O HSub.none ⟨O,O⟩
theorem wayC_c (n:Int) :
 CD Tryz.prog 156 [] [.s zbq,dI n] (isR (.ifc 267 (.agg [.fn 202 [] []]))):=by
 refine tZ Tryz.func156 O O (λC=>?_);refine T.bd 0 O (λbd0=>?_);have sz0:zbq.size<=9223372036854775807:=bd0;refine g' 10 O (tP O (zaO (q:=false) O O (by decide)) (g' 2 O (tG O (zaO (q:=false) O O (by decide)) (g' 8 O (tP O (zaO (q:=false) O O (by decide)) (g' 7 O (tP O (zaO (q:=false) O O (by decide)) (g' 7 O (tP O (zaO (q:=true) O O (by decide)) (g' 6 O (tP O (zr [0] [.func 202] (zv:=(.agg #[.nilFunc])) O O (.cons CellD.fn .nil) (Tryz.runUnderlying267) Tryz.zeroValue267 bd_267 ⟨O,trivial⟩ O) (g' 7 O ?_))))))))))));exact tR O HSub.none ⟨O,O⟩
theorem doC_c (n mode:Int) (names:List ByteArray) (l:List RowD) (hl:l.length<=1000000):
 CD Tryz.prog 113 [] [.s zbq,dI n,dI mode,.sh 1 (names.map D.s),.sh 2 (l.map RowD.d)] (isR (.tup [(D.ls 2 RowD.d) (gdL (Way.many) mode names l),dI (gdE (Way.many) mode names l)])):=by
 refine tZ Tryz.func113 O O (λC=>?_);refine T.bd 0 O (λbd0=>?_);have sz0:zbq.size<=9223372036854775807:=bd0;refine T.bd 3 O (λbd3=>?_);have nl3:=zA bd3;refine T.bd 4 O (λbd4=>?_);have nl4:=zA bd4;have hag:hasN aggN zbq=true:=by decide
 refine g' 10 O (tW O acs (wayC_c n) (g' 7 O (tP O (p_way_nil (w:=.many) O O O) (g' 2 O (tW O acs (Agg_c zbq) (ts 27 O (congrArg (λb=>D.v (.bool b)) hag) (g' 4 O (tW O acs (vRight_c l) (g' 4 O ?_)))))))));refine tC O (λhc1=>?_) (λhc1=>?_)
 · simp only[bX,bJ] at hc1;have hbd:z7 l=false:=(by simpa using hc1);refine g' 8 O ?_;exact tRs O Tryz.results113 (.cons (zf (zd O) ((Cv.nil).trans (mB (congrArg (D.ls 2 RowD.d) (show []=gdL (Way.many) mode names l from(by first | exact(zeC hbd).1 | exact(zeC hbd).2)))))) (.cons (zf (zd O) (mB (congrArg (λn=>D.v (.int .i64 n)) (by first | exact(zeC hbd).1 | exact(zeC hbd).2)))) .nil)) O HSub.none ⟨O,O⟩
 simp only[bX,bJ] at hc1;have hgd:z7 l=true:=by simpa using hc1
 have hvl:=(zaQ.1 hgd).1;have hgl:=gs_len (mode:=mode) (names:=names) hgd;refine g' 13 O (tW O acs (splitF_c mode names l (by first | omega | decide)) (tP O (zH (n:=(zF mode names l).length) O Tryz.runUnderlying227 (by simp only[lm,lc,ln])) (g' 4 O (tl3 (λ(a_:Nat) (b_:Value) (c_:List RowD)=>[(2,dI mode),(3,.sh 1 (names.map D.s)),(12,.ifc 267 (.agg [.fn 202 [] []])),(38,.sh 1 ((zF mode names l).map (D.ls 2 RowD.d))),(39,dN ((zF mode names l).length)),(40,dN a_),(13,.ov b_)]) (λa_ b_ c_=>[.sl b_ 2 42 (c_.map RowD.d)]) (λa_ b_ c_=>(a_<=(zF mode names l).length)/\(c_=outR (kapB mode names) (Way.many) ((zF mode names l).take a_))/\(za3 (numF (Way.many)) ((zF mode names l).take a_)=0)) (λa_ b_ c_=>(zF mode names l).length-a_) 0 (.slice none 0 0) [] O ⟨sk O,sk O,sk O,sk O,sk O,sk O,sc O (Cv.ov O),trivial⟩ (HSub.nil 2 42) ⟨c7 _,O,O⟩ ?_))));rintro k ov o ⟨hkl,ho,he⟩;have hol:o.length<=2000:=by rw[ho];unfold outR;rw[cW,dG];omega
 refine g' 6 O ?_;refine tD O (λhc2=>?_) (λhc2=>?_)
 · refine g' 6 O ?_;obtain ⟨x1,hx1⟩:=zj (zF mode names l) k (by omega);have hgx:=gs_facts hgd hx1;refine tP O (zh (k:=k) O O Tryz.runUnderlying227 Tryz.sizeOf36 (by first | rfl | omega) (ze (f:=(D.ls 2 RowD.d)) hx1)) (g' 8 O (tP O ((zak (zv:=(.agg #[(.int .i64 0)])) O (λ_ _=>by kernel_rfl)).cv (Cv.tup (.cons (mC (by decide)) (gc .nil)))) (g' 3 O ?_)));refine tA O (λg3=>?_);refine gQ 16 [0] O O (tW O acs (oneC_c x1 hgx.1 (by have h:=hgx.2.1;omega)) (g' 14 O ?_));refine tD O (λhc4=>?_) (λhc4=>?_)
   · refine g' 14 O ?_;exact tRs O Tryz.results113 (.cons (zf (zd O) ((Cv.nil).trans (mB (congrArg (D.ls 2 RowD.d) (show []=gdL (Way.many) mode names l from(by first | exact(zeB hgd hx1 he (by have h:=hc4;omega)).1 | exact(zeB hgd hx1 he (by have h:=hc4;omega)).2)))))) (.cons (zf (zd O) (mB (congrArg (λn=>D.v (.int .i64 n)) (by first | exact(zeB hgd hx1 he (by have h:=hc4;omega)).1 | exact(zeB hgd hx1 he (by have h:=hc4;omega)).2)))) .nil)) O HSub.none ⟨O,O⟩
   refine g' 7 O ?_;obtain ⟨x2,hx2⟩:=zj x1 0 (by omega);have hk8:=hgx.2.2.1 x2 (zaw hx2);refine tP O (zh (k:=0) O O Tryz.runUnderlying36 Tryz.sizeOf42 (by first | rfl | omega) (ze hx2)) (g' 2 O (tX [] O O acs (by_c mode names x2.ls (by omega)) ?_));rintro _ _ ⟨v5,rfl,rfl⟩;refine g' 1 O ?_;refine m9 (Mv.freeze (K':=[(2,dI mode),(3,.sh 1 (names.map D.s)),(12,.ifc 267 (.agg [.fn 202 [] []])),(13,.ov ov),(15,.sh 2 (x1.map RowD.d)),(16,dP g3 0),(17,dB false),(18,dI ((numF (Way.many) x1).1)),(19,dI ((numF (Way.many) x1).2)),(38,.sh 1 ((zF mode names l).map (D.ls 2 RowD.d))),(39,dN ((zF mode names l).length)),(40,dN k),(41,dB (decide (((k:Nat):Int)<(((zF mode names l).length:Nat):Int)))),(42,.el (.sh 2 (x1.map RowD.d)) 0),(43,.sh 2 (x1.map RowD.d)),(44,.tup [.agg [dI 0],dB false]),(45,.ifc 267 (.agg [.fn 202 [] []])),(46,.tup [.agg [dI 0],dB false]),(47,.agg [dI 0]),(48,dB false),(49,dB false),(61,.tup [dI ((numF (Way.many) x1).1),dI ((numF (Way.many) x1).2)]),(62,.ifc 267 (.agg [.fn 202 [] []])),(63,.sh 2 (x1.map RowD.d)),(64,.tup [dI ((numF (Way.many) x1).1),dI ((numF (Way.many) x1).2)]),(65,dI ((numF (Way.many) x1).1)),(66,dI ((numF (Way.many) x1).2)),(67,dI ((numF (Way.many) x1).2)),(68,dB (decide ((numF (Way.many) x1).2≠(0:Int)))),(70,.ov ov),(71,dI mode),(72,.sh 1 (names.map D.s)),(73,.sh 2 (x1.map RowD.d)),(74,.el (RowD.d x2) 0),(75,.el (RowD.d x2) 0),(76,.sh 2 (x2.ls.map Lbl.d)),(77,.sh 2 ((byL mode names x2.ls).map Lbl.d)),(78,dI ((numF (Way.many) x1).1))]) [.sl v5 2 52 ((byL mode names x2.ls).map Lbl.d)] (H1:=[.bx g3 230 (.agg [dI 0]),.sl ov 2 42 (o.map RowD.d)]) (H1':=[.bx g3 230 (.agg [dI 0]),.sl ov 2 42 (o.map RowD.d)]) ⟨⟨_,O,mO⟩,⟨_,O,mO⟩,⟨_,O,mO⟩,⟨_,O,mO⟩,⟨_,O,mO⟩,⟨_,O,mO⟩,⟨_,O,mO⟩,⟨_,O,mO⟩,⟨_,O,mO⟩,⟨_,O,mO⟩,⟨_,O,mO⟩,⟨_,O,mO⟩,⟨_,O,mO⟩,⟨_,O,mO⟩,⟨_,O,mO⟩,⟨_,O,mO⟩,⟨_,O,mO⟩,⟨_,O,mO⟩,⟨_,O,mO⟩,⟨_,O,mO⟩,⟨_,O,mO⟩,⟨_,O,mO⟩,⟨_,O,mO⟩,⟨_,O,mO⟩,⟨_,O,mO⟩,⟨_,O,mO⟩,⟨_,O,mO⟩,⟨_,O,mO⟩,⟨_,O,mO⟩,⟨_,O,mO⟩,⟨_,O,mO⟩,⟨_,O,mO⟩,⟨_,O,mO⟩,⟨_,O,mO⟩,⟨_,O,mO⟩,⟨_,O,mO⟩,⟨_,O,mP (j:=0) O O⟩,⟨_,O,mO⟩,trivial⟩ (.same (.same .nil))) ?_;refine tP O (zr [0,1] [.tmp 77,.tmp 78] (zv:=(.agg #[(.slice none 0 0),(.int .i64 0)])) O O (.cons CellD.sh (.cons (CellD.v O) .nil)) (Tryz.runUnderlying42) Tryz.zeroValue42 zf4 ⟨O,O,trivial⟩ O) (tE O (zq [.tmp 79] O O (.cons CellD.agg .nil) O Tryz.runUnderlying36 Tryz.sizeOf42 Tryz.zeroValue42 O O O O) ?_);rintro _ _ ⟨g6,rfl,rfl⟩;refine tE O (zy (f:=RowD.d) (l:=o) (l':=[(RowD.mk (byL mode names x2.ls) ((numF (Way.many) x1).1))]) (i:=2) O O O (mK (j:=0) O O) zfk zeM O O (by unfold maxLen;(try simp only[la,lc,ln,lm,lt',ld,ls,lr]);omega) (by (try simp only[la,lc,ln,lm,lt',ld,ls,lr]);omega)) ?_;rintro _ _ ⟨v7,rfl,rfl⟩;refine g' 5 O (tP O (zu (c:=((k+1:Nat):Int)) O O (zk (by omega) (by omega))) (g' 2 O (kE 2 O (kC (mT 1 O) ?_))));exact tp3 (k+1) v7 (o++[(RowD.mk (byL mode names x2.ls) ((numF (Way.many) x1).1))]) (sa O) mD ⟨by show k+1<=(zF mode names l).length;omega,by rw[ho,outR_snoc hx1,head_of (κ:=kapB mode names) hx2],firstG_snoc hx1 he (by have h:=hc4;omega)⟩ (by omega)
 refine g' 6 O (m9 (Mv.freeze (K':=[(2,dI mode),(3,.sh 1 (names.map D.s)),(12,.ifc 267 (.agg [.fn 202 [] []])),(13,.sh 2 (o.map RowD.d)),(38,.sh 1 ((zF mode names l).map (D.ls 2 RowD.d))),(39,dN ((zF mode names l).length)),(40,dN k),(41,dB (decide (((k:Nat):Int)<(((zF mode names l).length:Nat):Int))))]) [.sl ov 2 42 (o.map RowD.d)] (H1:=[]) (H1':=[]) ⟨⟨_,O,mO⟩,⟨_,O,mO⟩,⟨_,O,mO⟩,⟨_,O,mP (j:=0) O O⟩,⟨_,O,mO⟩,⟨_,O,mO⟩,⟨_,O,mO⟩,⟨_,O,mO⟩,trivial⟩ .nil) (g' 2 O (tX [] O O acs (vTidy_c o) ?_)));rintro _ _ ⟨v8,rfl,rfl⟩;refine g' 7 O (m9 (Mv.freeze (K':=[(2,dI mode),(3,.sh 1 (names.map D.s)),(10,.sh 2 ((rtL o).map RowD.d)),(11,dI (rtE o)),(12,.ifc 267 (.agg [.fn 202 [] []])),(13,.sh 2 (o.map RowD.d)),(38,.sh 1 ((zF mode names l).map (D.ls 2 RowD.d))),(39,dN ((zF mode names l).length)),(40,dN k),(41,dB (decide (((k:Nat):Int)<(((zF mode names l).length:Nat):Int)))),(83,.sh 2 (o.map RowD.d)),(84,.tup [.sh 2 ((rtL o).map RowD.d),dI (rtE o)]),(85,.sh 2 ((rtL o).map RowD.d)),(86,dI (rtE o))]) [.sl v8 2 42 ((rtL o).map RowD.d)] (H1:=[]) (H1':=[]) ⟨⟨_,O,mO⟩,⟨_,O,mO⟩,⟨_,O,mP (j:=0) O O⟩,⟨_,O,mO⟩,⟨_,O,mO⟩,⟨_,O,mO⟩,⟨_,O,mO⟩,⟨_,O,mO⟩,⟨_,O,mO⟩,⟨_,O,mO⟩,⟨_,O,mO⟩,⟨_,O,ArgC.tup (.cons (mP (j:=0) O O) (ga .nil))⟩,⟨_,O,mP (j:=0) O O⟩,⟨_,O,mO⟩,trivial⟩ .nil) ?_);exact tRs O Tryz.results113 (.cons (zf (zd O) (mB (congrArg (D.ls 2 RowD.d) (show rtL o=gdL (Way.many) mode names l from(by first | (rw[ho];exact(zfz hgd he (by omega)).1) | (rw[ho];exact(zfz hgd he (by omega)).2)))))) (.cons (zf (zd O) (mB (congrArg (λn=>D.v (.int .i64 n)) (by first | (rw[ho];exact(zfz hgd he (by omega)).1) | (rw[ho];exact(zfz hgd he (by omega)).2))))) .nil)) O HSub.none ⟨O,O⟩
theorem aggC_c (S:List SerD) (t:Int) (n mode:Int) (names:List ByteArray) (kids:List Nd) (ka:Nd) (l:List RowD) (hkl:1<=kids.length) (hka:kids[0]?=some ka) (iha:CD Tryz.prog 48 [] [.agg [.el (.agg [.sh 2 (S.map SerD.d)]) 0,dI t],Nd.d ka] (isR (.tup [.ifc 36 (.sh 2 (l.map RowD.d)),dI 0]))) (hll:l.length<=1000000):
 CD Tryz.prog 80 [] [.agg [.el (.agg [.sh 2 (S.map SerD.d)]) 0,dI t],.agg [.s tAgg,.s zbq,dI n,dI mode,.sh 1 (names.map D.s),.sh 3 (([]:List MatD).map MatD.d),.sh 7 (kids.map Nd.d)]] (isR (.tup [.ifc 36 (.sh 2 ((gdL (Way.many) mode names l).map RowD.d)),dI (gdE (Way.many) mode names l)])):=by
 refine tZ Tryz.func80 O O (λC=>?_);refine T.bd 0 O (λbd0=>?_);refine T.bd 1 O (λbd1=>?_);refine g' 2 O ?_;refine tA O (λg1=>?_);refine tA O (λg2=>?_);refine g' 5 O (T.keep [0,1,2,3,4,5] O ?_);obtain ⟨x1,hx1⟩:=zj kids 0 (by omega);have ex1:x1=ka:=uD (hx1.symm.trans hka);subst ex1;obtain ⟨yax1,ybx1,ycx1,ydx1,yex1,yfx1,ygx1⟩:=x1;refine tDr 10 [(9,.agg [.el (.agg [.sh 2 (S.map SerD.d)]) 0,dI t],none),(10,dP g2 6,none),(11,.sh 7 (kids.map Nd.d),none),(12,.el (.agg [.s yax1,.s ybx1,dI ycx1,dI ydx1,.sh 1 (yex1.map D.s),.sh 3 (yfx1.map MatD.d),.sh 7 (Nd.ds ygx1)]) 0,none),(13,.agg [.s yax1,.s ybx1,dI ycx1,dI ydx1,.sh 1 (yex1.map D.s),.sh 3 (yfx1.map MatD.d),.sh 7 (Nd.ds ygx1)],none),(14,.tup [.ifc 36 (.sh 2 (l.map RowD.d)),dI 0],none),(8,.tup [.ifc 36 (.sh 2 (l.map RowD.d)),dI 0],none),(15,.ifc 36 (.sh 2 (l.map RowD.d)),none),(16,dI 0,none),(6,.ifc 36 (.sh 2 (l.map RowD.d)),none)] [.bx g2 58 (.agg [.s tAgg,.s zbq,dI n,dI mode,.sh 1 (names.map D.s),.sh 3 (([]:List MatD).map MatD.d),.sh 7 (kids.map Nd.d)]),.bx g1 106 (.agg [.el (.agg [.sh 2 (S.map SerD.d)]) 0,dI t])] (Hn:=[.bx g2 58 (.agg [.s tAgg,.s zbq,dI n,dI mode,.sh 1 (names.map D.s),.sh 3 (([]:List MatD).map MatD.d),.sh 7 (kids.map Nd.d)]),.bx g1 106 (.agg [.el (.agg [.sh 2 (S.map SerD.d)]) 0,dI t])]) mixed O O O O mD O ⟨sa_p O O O (zaP (d:=.agg [.el (.agg [.sh 2 (S.map SerD.d)]) 0,dI t]) O (i:=1) O Tryz.isAgg106 Tryz.sizeOf106 O O),sa_p O O O (zl O fa_58_6 O),sa_p O O O (zn O (i:=0) O Tryz.isAgg56 O),sa_p O O O (zh (k:=0) O O Tryz.runUnderlying56 Tryz.sizeOf58 (by first | rfl | omega) (ze hx1)),sa_p O O O (zbp (d:=.agg [.s yax1,.s ybx1,dI ycx1,dI ydx1,.sh 1 (yex1.map D.s),.sh 3 (yfx1.map MatD.d),.sh 7 (Nd.ds ygx1)]) O Tryz.isAgg58 Tryz.sizeOf58 O O),sa_q O O O (zac O (gc (gc .nil)) Tryz.call48 (iha) z8),sa_p O O O (zc O),sa_p O O O (zam O O),sa_p O O O (zam O O),sa_p O O O (zdY O),trivial⟩ ?_;refine tK O (g' 10 O ?_);refine tD O (λhc3=>?_) (λhc3=>?_)
 · exfalso;omega
 refine g' 3 O (T.keep [0,1,2,3,4,5,6,7,8,9,10,11,12,13,14,15,16,17,18] O ?_);refine tDr 16 [(20,dP g2 1,none),(21,.s zbq,none),(22,dP g2 2,none),(23,dI n,none),(24,dP g2 3,none),(25,dI mode,none),(26,dP g2 4,none),(27,.sh 1 (names.map D.s),none),(28,.ifc 36 (.sh 2 (l.map RowD.d)),none),(29,.sh 2 (l.map RowD.d),none),(30,.tup [.sh 2 ((gdL (Way.many) mode names l).map RowD.d),dI (gdE (Way.many) mode names l)],none),(31,.sh 2 ((gdL (Way.many) mode names l).map RowD.d),none),(32,dI (gdE (Way.many) mode names l),none),(33,.tup [.ifc 36 (.sh 2 ((gdL (Way.many) mode names l).map RowD.d)),dI (gdE (Way.many) mode names l)],none),(34,.ifc 36 (.sh 2 ((gdL (Way.many) mode names l).map RowD.d)),none),(35,dI (gdE (Way.many) mode names l),none)] [.bx g2 58 (.agg [.s tAgg,.s zbq,dI n,dI mode,.sh 1 (names.map D.s),.sh 3 (([]:List MatD).map MatD.d),.sh 7 (kids.map Nd.d)]),.bx g1 106 (.agg [.el (.agg [.sh 2 (S.map SerD.d)]) 0,dI t])] (Hn:=[.bx g2 58 (.agg [.s tAgg,.s zbq,dI n,dI mode,.sh 1 (names.map D.s),.sh 3 (([]:List MatD).map MatD.d),.sh 7 (kids.map Nd.d)]),.bx g1 106 (.agg [.el (.agg [.sh 2 (S.map SerD.d)]) 0,dI t])]) mixed O O O O mD O ⟨sa_p O O O (zl O fa_58_1 O),sa_p O O O (zn O (i:=0) O Tryz.isAgg9 O),sa_p O O O (zl O fa_58_2 O),sa_p O O O (zn O (i:=0) O Tryz.isAgg3 O),sa_p O O O (zl O fa_58_3 O),sa_p O O O (zn O (i:=0) O Tryz.isAgg3 O),sa_p O O O (zl O fa_58_4 O),sa_p O O O (zn O (i:=0) O Tryz.isAgg49 O),sa_p O O O (zc O),sa_p O O O (zdr O (λ_ _=>by kernel_rfl)),sa_q O O O (zac O (gc (gc (gc (gc (gc .nil))))) Tryz.call113 (doC_c n mode names l (by omega)) z8),sa_p O O O (zam O O),sa_p O O O (zam O O),sa_q O O O (zac O (gc (gc .nil)) Tryz.call75 (rows_c (gdL (Way.many) mode names l) (gdE (Way.many) mode names l)) z8),sa_p O O O (zam O O),sa_p O O O (zam O O),trivial⟩ ?_;refine tK O (g' 5 O ?_);exact tR O HSub.none ⟨O,O⟩
theorem of_aggC (S:List SerD) (t:Int) (n mode:Int) (names:List ByteArray) (kids:List Nd) (ka:Nd) (l:List RowD) (hkl:1<=kids.length) (hka:kids[0]?=some ka) (iha:CD Tryz.prog 48 [] [.agg [.el (.agg [.sh 2 (S.map SerD.d)]) 0,dI t],Nd.d ka] (isR (.tup [.ifc 36 (.sh 2 (l.map RowD.d)),dI 0]))) (hll:l.length<=1000000):
 CD Tryz.prog 48 [] [.agg [.el (.agg [.sh 2 (S.map SerD.d)]) 0,dI t],.agg [.s tAgg,.s zbq,dI n,dI mode,.sh 1 (names.map D.s),.sh 3 (([]:List MatD).map MatD.d),.sh 7 (kids.map Nd.d)]] (isR (.tup [.ifc 36 (.sh 2 ((gdL (Way.many) mode names l).map RowD.d)),dI (gdE (Way.many) mode names l)])):=by
 refine tZ Tryz.func48 O O (λC=>?_);refine T.bd 0 O (λbd0=>?_);refine T.bd 1 O (λbd1=>?_);refine g' 2 O ?_;refine tA O (λg1=>?_);refine tA O (λg2=>?_);refine gQ 14 [0] O O (tP O (zaO (q:=false) O O (by decide)) (g' 6 O (tP O (zaO (q:=false) O O (by decide)) (g' 6 O (tP O (zaO (q:=false) O O (by decide)) (g' 6 O (tP O (zaO (q:=false) O O (by decide)) (g' 6 O (tP O (zaO (q:=false) O O (by decide)) (gQ 11 [1,0] O O (tW O acs (aggC_c S t n mode names kids ka l hkl hka iha hll) (g' 7 O ?_))))))))))));exact tR O HSub.none ⟨O,O⟩
end Lp
namespace Lp
open Go
structure KpS where
 ls:List Lbl
 v:Value
 ps:List PtD
def KpS.d (x:KpS):D:=.agg [.sh 2 (x.ls.map Lbl.d),.ov x.v]
def KpS.s (x:KpS):SerD:=⟨x.ls,x.ps⟩
structure StOk (S:List SerD):Prop where
 srt:S.Pairwise λa b=>zw a.ls b.ls<0
 len:S.length<=40
 ok:∀ s∈S,1<=s.ps.length/\s.ps.length<=25/\s.ls.length<=1000000
theorem StOk.nil:StOk []:=⟨List.Pairwise.nil,c7 _,λ_ h=>by cases h⟩
def posS (key:List Lbl):List SerD->Nat
 | []=>0
 | s::r=>if zw s.ls key<0 then posS key r+1 else 0
theorem posS_le (key:List Lbl):∀ S:List SerD,posS key S<=S.length
 | []=>dD _
 | s::r=>by unfold posS;have:=posS_le key r;split<;>simp only[dM]<;>omega
theorem posS_lt (key:List Lbl):∀ (S:List SerD) (t:Nat) (s:SerD),t<posS key S->S[t]?=some s->zw s.ls key<0
 | [],t,s,h,_=>absurd h (Nat.not_lt_zero _)
 | x::r,t,s,h,hs=>by
  unfold posS at h;split at h
  · rename_i hx;cases t with
    | zero=>injection hs with hs;subst hs;exact hx
    | succ t=>exact posS_lt key r t s (by omega) hs
  omega
theorem posS_at (key:List Lbl):∀ (S:List SerD) (s:SerD),S[posS key S]?=some s->¬zw s.ls key<0
 | [],s,h=>by cases h
 | x::r,s,h=>by
  unfold posS at h;split at h
  · exact posS_at key r s h
  rename_i hx;injection h with h;subst h;exact hx
structure BsS (S:List SerD) (key:List Lbl) (i:Nat):Prop where
 le:i<=S.length
 lt:∀ t s,t<i->S[t]?=some s->zw s.ls key<0
 ge:∀ s,S[i]?=some s->¬zw s.ls key<0
theorem BsS.pos {S:List SerD} {key:List Lbl} {i:Nat} (h:BsS S key i):i=posS key S:=by
 have hp:=posS_le key S;rcases Nat.lt_trichotomy i (posS key S) with hl | he | hg
 · obtain ⟨s,hs⟩:∃ s,S[i]?=some s:=⟨_,dX (by omega)⟩;exact absurd (posS_lt key S i s hl hs) (h.ge s hs)
 · exact he
 obtain ⟨s,hs⟩:∃ s,S[posS key S]?=some s:=⟨_,dX (by have:=h.le;omega)⟩;exact absurd (h.lt _ s hg hs) (posS_at key S s hs)
theorem StOk.below {S:List SerD} (h:StOk S) {s t:Nat} {a b:SerD} {key:List Lbl} (ha:S[s]?=some a) (hb:S[t]?=some b) (hst:s<=t) (hk:zw b.ls key<0):zw a.ls key<0:=by
 rcases Nat.lt_or_eq_of_le hst with hl | he
 · obtain ⟨h1,e1⟩:=cZ.1 ha;obtain ⟨h2,e2⟩:=cZ.1 hb;have:=jL.1 h.srt s t h1 h2 hl;rw[e1,e2] at this;exact cmpLs_lt this hk
 subst he;rw[ha] at hb;injection hb with hb;subst hb;exact hk
def zaG (key:List Lbl) (t x:Int):Bool:=zbY key&&(decide (0<=t)&&(decide (t<=1000000000)&&zQ x))
def zdZ (l:List PtD):Int:=match l.getLast? with
 | some p=>p.t
 | none=>0
theorem lastT_at {l:List PtD} {x:PtD} (h:l[l.length-1]?=some x):x.t=zdZ l:=by unfold zdZ;rw[List.getLast?_eq_getElem?,h]
def newS (S:List SerD) (key:List Lbl) (t x:Int):List SerD×Int:=if 40<=S.length then(S,8) else(S.take (posS key S)++⟨key,[⟨t,x⟩]⟩::S.drop (posS key S),0)
def oldS (S:List SerD) (i:Nat) (s:SerD) (t x:Int):List SerD×Int:=if t<=zdZ s.ps then(S,6) else if 25<=s.ps.length then(S,8) else(S.set i ⟨s.ls,s.ps++[⟨t,x⟩]⟩,0)
def putS (S:List SerD) (key:List Lbl) (t x:Int):List SerD×Int:=
 if zaG key t x=true then match S[posS key S]? with
  | some s=>if zw s.ls key=0 then oldS S (posS key S) s t x else newS S key t x
  | none=>newS S key t x
 else(S,1)
theorem putS_bad {S:List SerD} {key:List Lbl} {t x:Int} (h:zaG key t x=false):putS S key t x=(S,1):=by unfold putS;rw[h];rfl
theorem putS_old {S:List SerD} {key:List Lbl} {t x:Int} {s:SerD} (h:zaG key t x=true) (hs:S[posS key S]?=some s) (he:zw s.ls key=0):putS S key t x=oldS S (posS key S) s t x:=by unfold putS;rw[if_pos h,hs];exact if_pos he
theorem putS_new {S:List SerD} {key:List Lbl} {t x:Int} (h:zaG key t x=true) (hs:∀ s,S[posS key S]?=some s->¬zw s.ls key=0):putS S key t x=newS S key t x:=by
 unfold putS;rw[if_pos h];cases e:S[posS key S]? with
 | none=>rfl
 | some s=>exact if_neg (hs s e)
theorem zeK {key:List Lbl} {t x:Int} (h:zaG key t x=true):zbY key=true/\0<=t/\t<=1000000000/\zQ x=true:=by
 unfold zaG at h;simp only[c8,decide_eq_true_eq] at h;exact h
theorem okPut_0 {key:List Lbl} {t x:Int} (h:((zbY key=false\/t<0)\/1000000000<t)\/zQ x=false):zaG key t x=false:=by
 unfold zaG;rcases h with ((h | h) | h) | h
 · rw[h];rfl
 · rw[show decide (0<=t)=false from decide_eq_false (by omega)];simp
 · rw[show decide (t<=1000000000)=false from decide_eq_false (by omega)];simp
 rw[h];simp
theorem okPut_2 {key:List Lbl} {t x:Int} (h:((zbY key=true/\¬t<0)/\¬1000000000<t)/\zQ x=true):zaG key t x=true:=by
 unfold zaG;rw[h.1.1.1,h.2,show decide (0<=t)=true from decide_eq_true (by omega),show decide (t<=1000000000)=true from decide_eq_true (by omega)];rfl
theorem sRight_len {l:List Lbl} (h:zbY l=true):l.length<=1000000:=by
 unfold zbY at h;rw[c8] at h;have:=okRow_len (r:=⟨l,0⟩) (by unfold zbt;rw[h.1];exact(show zQ 0=true from by decide));show l.length<=_;have h2:(⟨l,0⟩:RowD).ls.length<=8:=this;exact jA h2 (by decide)
theorem putS_ok {S:List SerD} (h:StOk S) (key:List Lbl) (t x:Int):StOk (putS S key t x).1:=by
 have hnew:zaG key t x=true->(∀ s,S[posS key S]?=some s->¬zw s.ls key=0)->StOk (newS S key t x).1:=by
  intro hk hne;unfold newS;split
  · exact h
  rename_i hl;refine⟨?_,?_,?_⟩
  · show List.Pairwise _ (S.take _++_::S.drop _);have h0:=h.srt;rw[<-dQ (posS key S) S] at h0;obtain ⟨h1,h2,h3⟩:=jG.1 h0;refine jG.2 ⟨h1,dS.2 ⟨λb hb=>?_,h2⟩,λa ha b hb=>?_⟩
    · show zw key b.ls<0;obtain ⟨k,hk'⟩:=List.getElem?_of_mem hb;rw[uC] at hk';obtain ⟨s,hs⟩:∃ s,S[posS key S]?=some s:=⟨_,dX (by have:=(cZ.1 hk').1;omega)⟩;have g1:=posS_at key S s hs;have g2:=hne s hs;have g3:zw key s.ls<0:=cmpLs_gt g1 (λe=>g2 (zeG.2 e));rcases uK k with e | e
      · subst e;rw[uP,hs] at hk';injection hk' with hk';subst hk';exact g3
      obtain ⟨q1,e1⟩:=cZ.1 hs;obtain ⟨q2,e2⟩:=cZ.1 hk';have:=jL.1 h.srt _ _ q1 q2 (by omega);rw[e1,e2] at this;exact cmpLs_lt g3 this
    rcases dO.1 hb with rfl | hb
    · obtain ⟨k,hk'⟩:=List.getElem?_of_mem ha;have hkl:k<posS key S:=(by have:=(cZ.1 hk').1;rw[dG] at this;omega);rw[List.getElem?_take_of_lt hkl] at hk';exact posS_lt key S k a hkl hk'
    exact h3 a ha b hb
  · show (S.take _++_::S.drop _).length<=40;have:=posS_le key S;simp only[cX,dM,dG,dL];omega
  intro s hs;rcases jK.1 hs with hs | hs
  · exact h.ok s (uH hs)
  rcases dO.1 hs with rfl | hs
  · exact⟨dD _,dV O,sRight_len (zeK hk).1⟩
  exact h.ok s (u5 hs)
 cases hk:zaG key t x with
 | false=>rw[putS_bad hk];exact h
 | true=>
  by_cases hx:∃ s,S[posS key S]?=some s/\zw s.ls key=0
  · obtain ⟨s,hs,he⟩:=hx;rw[putS_old hk hs he];unfold oldS;split
    · exact h
    split
    · exact h
    rename_i hl;have hm:=h.ok s (d4 hs);refine⟨?_,by show (S.set _ _).length<=40;rw[uM];exact h.len,λq hq=>?_⟩
    · show List.Pairwise _ (S.set _ _);rw[jL];intro i j hi hj hij;have hi':i<S.length:=(by rw[uM] at hi;exact hi);have hj':j<S.length:=(by rw[uM] at hj;exact hj);obtain ⟨hp,hpe⟩:=cZ.1 hs;have key2:∀ (k:Nat) (hk:k<(S.set (posS key S) ⟨s.ls,s.ps++[⟨t,x⟩]⟩).length) (hk':k<S.length),((S.set (posS key S) ⟨s.ls,s.ps++[⟨t,x⟩]⟩)[k]).ls=(S[k]).ls:=by
       intro k hk hk';rw[List.getElem_set];split
       · rename_i e;subst e;rw[hpe]
       rfl
      rw[key2 i hi hi',key2 j hj hj'];exact jL.1 h.srt i j hi' hj' hij
    rcases vV hq with hq | rfl
    · exact h.ok q hq
    exact⟨by show 1<=(s.ps++[_]).length;simp,by show (s.ps++[_]).length<=25;simp;omega,hm.2.2⟩
  rw[putS_new hk (λs hs he=>hx ⟨s,hs,he⟩)];exact hnew hk (λs hs he=>hx ⟨s,hs,he⟩)
theorem posS_go {S:List SerD} {key:List Lbl} {k:Nat} {x:SerD} (hk:posS key S=k+posS key (S.drop k)) (hx:S[k]?=some x) (h:zw x.ls key<0):posS key S=k+1+posS key (S.drop (k+1)):=by
 have e:posS key (S.drop k)=posS key (S.drop (k+1))+1:=by rw[zbv hx];exact if_pos h
 omega
theorem posS_stop {S:List SerD} {key:List Lbl} {k:Nat} {x:SerD} (hk:posS key S=k+posS key (S.drop k)) (hx:S[k]?=some x) (h:¬zw x.ls key<0):posS key S=k:=by
 have e:posS key (S.drop k)=0:=by rw[zbv hx];exact if_neg h
 omega
theorem posS_end {S:List SerD} {key:List Lbl} {k:Nat} (hk:posS key S=k+posS key (S.drop k)) (h:S.length<=k):posS key S=k:=by
 rw[j7.2 h] at hk;exact hk
theorem okPut_r0 {key:List Lbl} {t x:Int} (h:(((zZ key=false\/getL key metB=ByteArray.empty)\/t<0)\/1000000000<t)\/zQ x=false):zaG key t x=false:=by
 apply okPut_0;rcases h with (((h | h) | h) | h) | h
 · exact .inl (.inl (.inl (by unfold zbY;rw[h];rfl)))
 · exact .inl (.inl (.inl (by unfold zbY;rw[show decide (getL key metB≠ByteArray.empty)=false from decide_eq_false (λhn=>hn h)];simp)))
 · exact .inl (.inl (.inr h))
 · exact .inl (.inr h)
 exact .inr h
theorem okPut_r1 {key:List Lbl} {t x:Int} (h:(((zZ key=true/\¬getL key metB=ByteArray.empty)/\¬t<0)/\¬1000000000<t)/\zQ x=true):zaG key t x=true:=
 okPut_2 ⟨⟨⟨by unfold zbY;rw[h.1.1.1.1,show decide (getL key metB≠ByteArray.empty)=true from decide_eq_true h.1.1.1.2];rfl,h.1.1.2⟩,h.1.2⟩,h.2⟩
section
variable {S:List SerD} {key:List Lbl} {t x:Int} {i:Nat} {p:SerD}
theorem pr_new (hok:zaG key t x=true) (hi:posS key S=i) (hf:¬ ∃ y,S[i]?=some y/\zw y.ls key=(0:Int)):putS S key t x=newS S key t x:=putS_new hok λs hs he=>hf ⟨s,by rw[<-hi];exact hs,he⟩
theorem pr_full (hok:zaG key t x=true) (hi:posS key S=i) (hf:¬ ∃ y,S[i]?=some y/\zw y.ls key=(0:Int)) (h:40<=S.length):putS S key t x=(S,8):=by rw[pr_new hok hi hf];unfold newS;exact if_pos h
theorem pr_ins (hok:zaG key t x=true) (hi:posS key S=i) (hf:¬ ∃ y,S[i]?=some y/\zw y.ls key=(0:Int)) (h:¬40<=S.length):putS S key t x=(S.take i++⟨key,[⟨t,x⟩]⟩::S.drop i,0):=by rw[pr_new hok hi hf];unfold newS;rw[if_neg h,hi]
theorem pr_old (hok:zaG key t x=true) (hi:posS key S=i) (hp:S[i]?=some p) (he:zw p.ls key=(0:Int)):putS S key t x=oldS S i p t x:=by rw[putS_old hok (by rw[hi];exact hp) he,hi]
theorem pr_twice (hok:zaG key t x=true) (hi:posS key S=i) (hp:S[i]?=some p) (he:zw p.ls key=(0:Int)) (h:t<=zdZ p.ps):putS S key t x=(S,6):=by rw[pr_old hok hi hp he];exact if_pos h
theorem pr_more (hok:zaG key t x=true) (hi:posS key S=i) (hp:S[i]?=some p) (he:zw p.ls key=(0:Int)) (h:¬t<=zdZ p.ps) (h2:25<=p.ps.length):putS S key t x=(S,8):=by rw[pr_old hok hi hp he];unfold oldS;rw[if_neg h];exact if_pos h2
theorem pr_app (hok:zaG key t x=true) (hi:posS key S=i) (hp:S[i]?=some p) (he:zw p.ls key=(0:Int)) (h:¬t<=zdZ p.ps) (h2:¬25<=p.ps.length):putS S key t x=(S.set i ⟨p.ls,p.ps++[⟨t,x⟩]⟩,0):=by rw[pr_old hok hi hp he];unfold oldS;rw[if_neg h,if_neg h2]
end
section
variable {G:List KpS} {key:List Lbl} {t x:Int} {i:Nat} {f:Bool} {p:KpS}
theorem kget {k:Nat} {y:KpS} (h:G[k]?=some y):(G.map KpS.s)[k]?=some y.s:=by rw[jB,h];rfl
theorem pk_new (hok:zaG key t x=true) (hbs:BsS (G.map KpS.s) key i) (hfb:f=true↔∃ y,G[i]?=some y/\zw y.ls key=(0:Int)) (hf:f=false):putS (G.map KpS.s) key t x=newS (G.map KpS.s) key t x:=by
 refine putS_new hok λs hs he=>?_
 rw[<-hbs.pos,jB] at hs;obtain ⟨y,hy,rfl⟩:=uW.1 hs;have:=hfb.2 ⟨y,hy,he⟩;rw[hf] at this;cases this
theorem pk_full (hok:zaG key t x=true) (hbs:BsS (G.map KpS.s) key i) (hfb:f=true↔∃ y,G[i]?=some y/\zw y.ls key=(0:Int)) (hf:f=false) (h:40<=G.length):putS (G.map KpS.s) key t x=(G.map KpS.s,8):=by
 rw[pk_new hok hbs hfb hf];unfold newS;rw[if_pos (by rw[cW];exact h)]
theorem pk_ins (hok:zaG key t x=true) (hbs:BsS (G.map KpS.s) key i) (hfb:f=true↔∃ y,G[i]?=some y/\zw y.ls key=(0:Int)) (hf:f=false) (h:¬40<=G.length) (v:Value):putS (G.map KpS.s) key t x=((G.take i++(⟨key,v,[⟨t,x⟩]⟩:KpS)::G.drop i).map KpS.s,0):=by
 rw[pk_new hok hbs hfb hf];unfold newS;rw[if_neg (by rw[cW];exact h),<-hbs.pos,uN,jS,jQ,jR];rfl
theorem pk_old (hok:zaG key t x=true) (hbs:BsS (G.map KpS.s) key i) (hp:G[i]?=some p) (he:zw p.ls key=(0:Int)):putS (G.map KpS.s) key t x=oldS (G.map KpS.s) i p.s t x:=by
 have h1:=kget hp;rw[hbs.pos] at h1;rw[putS_old hok h1 he,<-hbs.pos]
theorem pk_twice (hok:zaG key t x=true) (hbs:BsS (G.map KpS.s) key i) (hp:G[i]?=some p) (he:zw p.ls key=(0:Int)) (h:t<=zdZ p.ps):putS (G.map KpS.s) key t x=(G.map KpS.s,6):=by
 rw[pk_old hok hbs hp he];unfold oldS;exact if_pos h
theorem pk_more (hok:zaG key t x=true) (hbs:BsS (G.map KpS.s) key i) (hp:G[i]?=some p) (he:zw p.ls key=(0:Int)) (h:¬t<=zdZ p.ps) (h2:25<=p.ps.length):putS (G.map KpS.s) key t x=(G.map KpS.s,8):=by
 rw[pk_old hok hbs hp he];unfold oldS;rw[if_neg (show ¬t<=zdZ p.s.ps from h)];exact if_pos h2
theorem pk_app (hok:zaG key t x=true) (hbs:BsS (G.map KpS.s) key i) (hp:G[i]?=some p) (he:zw p.ls key=(0:Int)) (h:¬t<=zdZ p.ps) (h2:¬25<=p.ps.length) (v:Value):putS (G.map KpS.s) key t x=((G.set i ⟨p.ls,v,p.ps++[⟨t,x⟩]⟩).map KpS.s,0):=by
 rw[pk_old hok hbs hp he];unfold oldS;rw[if_neg (show ¬t<=zdZ p.s.ps from h),if_neg (show ¬25<=p.s.ps.length from h2),List.map_set];rfl
end
end Lp
namespace Lp
open Go
def inT (a t w:Int):Prop:=t-w<a/\a<=t
instance (a t w:Int):Decidable (inT a t w):=inferInstanceAs (Decidable (_/\_))
structure OpD where
 c:Bool
 ls:List Lbl
 t:Int
 v:Int
def OpD.d (x:OpD):D:=.agg [.v (.bool x.c),.sh 2 (x.ls.map Lbl.d),.v (.int .i64 x.t),.v (.int .i64 x.v)]
section
variable {P:Program} {ty:TypeId} {K:Kd}
theorem ef_callA {H:List Hp} {f:FuncId} {args:Array Operand} {ats:Array TypeId} {ds0 ds:List D} {R:D->List Hp->Prop} (hargs:opsD K args.toList=some ds0) (ha:ArgCs [] ds0 ds)
 (hc:∀ args w,(callFunc f args).run P w=.ok (.enter f args) w) (hcall:CD P f H ds R):Ef P (.call { callee:=.value (.func f),args:=args,argTypes:=ats }) ty K H R:=
 (zeb H [] [] (j5 H).symm hargs ha zcW hc hcall (.inl rfl)).mono (by rintro d _ ⟨H1,h,rfl⟩;rw[j5];exact h)
end
def zct (l:List OpD):Bool:=(l.take 150).all (λo=>zcs o.ls)&&decide (l.length<=120)
theorem light6_bad {xs:List OpD} {k:Nat} {x:OpD} (hx:xs[k]?=some x) (hk:k<150) (h:zcs x.ls=false):zct xs=false:=by
 unfold zct;rw[all_take_bad hx hk h];rfl
theorem light6_end {xs:List OpD} {k:Nat} (h:(xs.take k).all (λo=>zcs o.ls)=true) (hk:xs.length<=k\/150<=k):zct xs=decide (xs.length<=120):=by
 unfold zct;rw[all_take_le h hk,uY]
theorem light6_len {l:List OpD} (h:zct l=true):l.length<=120:=by
 unfold zct at h;simp only[c8,decide_eq_true_eq] at h;exact h.2
theorem light6_op {l:List OpD} (h:zct l=true) {o:OpD} (ho:o∈l):zcs o.ls=true:=by
 have hl:=light6_len h;unfold zct at h;simp only[c8] at h;have h1:=h.1;rw[dE (by omega),dK] at h1;exact h1 o ho
theorem lightL_n {ls:List Lbl} (h:zcs ls=true):∀ y∈ls,y.n.size<=1000000:=by
 intro y hy;have hl:=lightL_len h;unfold zcs at h;simp only[c8] at h;have h1:=h.1;rw[dE (by omega),dK] at h1;have:=h1 y hy;simp only[c8,decide_eq_true_eq] at this;omega
def zeR (S:List SerD) (o:OpD):List SerD:=if o.c=true then S else(putS S o.ls o.t o.v).1
def mkS (l:List OpD):List SerD:=l.foldl zeR []
theorem mkS_at {l:List OpD} {k:Nat} {o:OpD} (h:l[k]?=some o):mkS (l.take (k+1))=zeR (mkS (l.take k)) o:=by
 unfold mkS;rw[zU h,uZ];rfl
theorem mkS_ok (l:List OpD):StOk (mkS l):=by
 have key:∀ (l:List OpD) (S:List SerD),StOk S->StOk (l.foldl zeR S):=by
  intro l
  induction l with
  | nil=>intro S h;exact h
  | cons o l ih=>
   intro S h;refine ih _ ?_;show StOk (zeR S o);unfold zeR;split
   · exact h
   exact putS_ok h _ _ _
 exact key l [] StOk.nil
section
variable {l:List OpD} {k:Nat} {o:OpD} {G G1:List KpS}
theorem mk_copy (h:l[k]?=some o) (hI:G.map KpS.s=mkS (l.take k)) (hc:o.c=true):G.map KpS.s=mkS (l.take (k+1)):=by
 rw[mkS_at h,hI];unfold zeR;rw[if_pos hc]
theorem mk_put (h:l[k]?=some o) (hI:G.map KpS.s=mkS (l.take k)) (hc:¬o.c=true) (hG:G1.map KpS.s=(putS (G.map KpS.s) o.ls o.t o.v).1):G1.map KpS.s=mkS (l.take (k+1)):=by
 rw[mkS_at h,hG,hI];unfold zeR;rw[if_neg hc]
end
end Lp
namespace Lp
open Go
theorem within_ok {v:Int} (h:zQ v=true):zcg v=(v,0):=by unfold zcg;rw[if_pos h]
theorem rV {v:Int} (h1: -1000000000000<=v) (h2:v<=1000000000000):zQ v=true:=by unfold zQ;simp[h1,h2]
theorem right_nil:zZ []=true:=right_of (by simp) (by unfold NSrt;simp) (λ_ h=>by cases h)
theorem right_by {l:List Lbl} (h:zZ l=true) (mode:Int) (ns:List ByteArray):zZ (byL mode ns l)=true:=by
 unfold byL;split
 · exact right_key h mode ns
 exact right_nil
section
variable {mode:Int} {names:List ByteArray} {a:List RowD}
theorem zcl (h:z7 a=true):zF mode names a=za7 (kapB mode names) a:=by unfold zF;rw[if_pos h]
theorem grp (h:z7 a=true) {g:List RowD} (hg:g∈zF mode names a):g≠[]/\(∀ r∈g,r∈a)/\g.length<=a.length:=by
 rw[zcl h] at hg;exact⟨(splitG_ok _).ne g hg,splitG_mem _ g hg,splitG_rows _ g hg⟩
theorem head_mem {κ:RowD->List Lbl} {g:List RowD} (h:g≠[]):∃ r∈g,zaM κ g=κ r:=by
 cases g with
 | nil=>exact absurd rfl h
 | cons x g=>exact⟨x,c6,rfl⟩
theorem out_vr (h:z7 a=true) {w:Way} (hv:∀ g∈zF mode names a,zQ (numF w g).1=true):z7 (outR (kapB mode names) w (zF mode names a))=true:=by
 refine vr_of ?_ (λr hr=>?_) ?_
 · unfold outR;rw[cW,zcl h];have:=splitG_len (κ:=kapB mode names) a;have:=(zaQ.1 h).1;omega
 · obtain ⟨g,hg,rfl⟩:=jX.1 hr;obtain ⟨h1,h2,_⟩:=grp h hg;obtain ⟨q,hq,e⟩:=head_mem (κ:=kapB mode names) h1;refine okRow_of ?_ (hv g hg);rw[show (RowD.mk (zaM (kapB mode names) g) (numF w g).1).ls=zaM (kapB mode names) g from rfl,e];exact right_by (okRow_r (vr_rows h q (h2 q hq))).1 mode names
 have:=(splitG_ok (κ:=kapB mode names) a).lt;rw[<-zcl (mode:=mode) (names:=names) h] at this;unfold outR;exact wD.2 this
theorem firstG_0 {f:List RowD->Int×Int}:∀ {gs:List (List RowD)},(∀ g∈gs,(f g).2=0)->za3 f gs=0
 | [],_=>rfl
 | g::gs,h=>by unfold za3;rw[if_neg (by have:=h g c6;omega)];exact firstG_0 (λg hg=>h g (dC _ hg))
theorem gd_out (h:z7 a=true) {w:Way} (hv:∀ g∈zF mode names a,(numF w g).2=0/\zQ (numF w g).1=true):gdE w mode names a=0/\gdL w mode names a=outR (kapB mode names) w (zF mode names a):=by
 have h0:=firstG_0 (f:=numF w) (λg hg=>(hv g hg).1);have h1:=rt_self (out_vr h (λg hg=>(hv g hg).2));unfold gdE gdL;rw[if_pos h,if_pos h,if_pos h0,if_pos h0];exact⟨h1.2,h1.1⟩
theorem out_len {κ:RowD->List Lbl} {w:Way} {gs:List (List RowD)}:(outR κ w gs).length=gs.length:=cW _
end
theorem tot_le {l:List Int} {b:Int} (h:∀ x∈l,x<=b):tot l<=b*(l.length:Int):=by
 induction l with
 | nil=>simp[tot]
 | cons x l ih=>
  have h1:=h x c6;have h2:=ih (λy hy=>h y (dC _ hy));rw[zbi,dM,show ((l.length+1:Nat):Int)=(l.length:Int)+1 from rfl,Int.mul_add];omega
theorem tot_ge {l:List Int} {b:Int} (h:∀ x∈l,b<=x):b*(l.length:Int)<=tot l:=by
 induction l with
 | nil=>simp[tot]
 | cons x l ih=>
  have h1:=h x c6;have h2:=ih (λy hy=>h y (dC _ hy));rw[zbi,dM,show ((l.length+1:Nat):Int)=(l.length:Int)+1 from rfl,Int.mul_add];omega
theorem tot_app (a b:List Int):tot (a++b)=tot a+tot b:=by
 induction a with
 | nil=>simp[tot]
 | cons x a ih=>rw[jJ,zbi,zbi,ih];omega
def totG (gs:List (List RowD)):Int:=tot (gs.map (λg=>tot (g.map (·.v))))
theorem totG_ins {κ:RowD->List Lbl} {r:RowD}:∀ gs:List (List RowD),totG (insG κ gs r)=totG gs+r.v
 | []=>by simp[insG,totG,tot]
 | g::gs=>by
  have ih:=totG_ins (κ:=κ) (r:=r) gs;unfold totG at ih ⊢;unfold insG;split
  · simp only[jS,zbi,ih];omega
  split
  · simp only[jS,zbi,uN,tot_app];simp[tot];omega
  simp only[jS,zbi];simp[tot];omega
theorem totG_split {κ:RowD->List Lbl} (l:List RowD):totG (za7 κ l)=tot (l.map (·.v)):=by
 unfold za7;have:∀ s:List (List RowD),totG (l.foldl (insG κ) s)=totG s+tot (l.map (·.v)):=by
  induction l with
  | nil=>intro s;simp[tot]
  | cons x l ih=>intro s;rw[uA,ih,totG_ins,jS,zbi];omega
 have h:=this [];rw[h];simp[totG,tot]
def cntG (gs:List (List RowD)):Int:=tot (gs.map (λg=>((g.length:Nat):Int)))
theorem cntG_ins {κ:RowD->List Lbl} {r:RowD}:∀ gs:List (List RowD),cntG (insG κ gs r)=cntG gs+1
 | []=>by simp[insG,cntG,tot]
 | g::gs=>by
  have ih:=cntG_ins (κ:=κ) (r:=r) gs;unfold cntG at ih ⊢;unfold insG;split
  · simp only[jS,zbi,ih];omega
  split
  · simp only[jS,zbi,cX,dM,uO];omega
  simp only[jS,zbi,dM,uO];omega
theorem cntG_split {κ:RowD->List Lbl} (l:List RowD):cntG (za7 κ l)=(l.length:Int):=by
 unfold za7;have:∀ s:List (List RowD),cntG (l.foldl (insG κ) s)=cntG s+(l.length:Int):=by
  induction l with
  | nil=>intro s;simp
  | cons x l ih=>intro s;rw[uA,ih,cntG_ins];simp only[dM];omega
 have h:=this [];rw[h];simp[cntG,tot]
section
variable {mode:Int} {names:List ByteArray} {a:List RowD}
end
abbrev lA:Lbl:=⟨⟨#[97]⟩,⟨#[49]⟩⟩
end Lp
namespace Lp
open Go
theorem split_const {κ:RowD->List Lbl} {c:List Lbl} (h:∀ r,κ r=c):∀ (l:List RowD) (g:List RowD),g≠[]->l.foldl (insG κ) [g]=[g++l]
 | [],g,_=>by simp
 | x::l,g,hg=>by
  have hh:zaM κ g=c:=by cases g with
   | nil=>exact absurd rfl hg
   | cons y g=>exact h y
  have hi:insG κ [g] x=[g++[x]]:=by
   unfold insG;rw[hh,h x,if_neg (by rw[cmpLs_self];omega),if_pos rfl]
  rw[uA,hi,split_const h l (g++[x]) (by simp),cY];rfl
theorem split_one {κ:RowD->List Lbl} {c:List Lbl} (h:∀ r,κ r=c) (l:List RowD):za7 κ l=if l=[] then [] else [l]:=by
 cases l with
 | nil=>rfl
 | cons x l=>
  rw[if_neg (by simp)];show l.foldl (insG κ) [[x]]=_;rw[split_const h l [x] (by simp)];rfl
theorem many_all {a:List RowD} (h:z7 a=true):gdE .many 0 [] a=0/\gdL .many 0 [] a=if a=[] then [] else [⟨[],(a.length:Int)⟩]:=by
 have hl:=(zaQ.1 h).1;have hs:zF 0 [] a=if a=[] then [] else [a]:=by rw[zcl h];exact split_one (c:=[]) (λr=>rfl) a
 have hg:∀ g∈zF 0 [] a,g.length<=a.length:=λg hg=>(grp h hg).2.2
 have h1:=gd_out (w:=.many) (mode:=0) (names:=[]) h (λg hx=>by
  have:=hg g hx;exact⟨O,rightV_iff.2 (by show _<=(((g.map (·.v)).length:Nat):Int)/\(((g.map (·.v)).length:Nat):Int)<=_;rw[cW];omega)⟩)
 refine⟨h1.1,h1.2.trans ?_⟩;rw[hs];by_cases e:a=[]
 · rw[if_pos e,if_pos e];rfl
 rw[if_neg e,if_neg e];obtain ⟨x,r,rfl⟩:=List.exists_cons_of_ne_nil e;show [RowD.mk (byL 0 [] x.ls) ((((x::r).map (·.v)).length:Nat):Int)]=_;rw[cW];rfl
end Lp
