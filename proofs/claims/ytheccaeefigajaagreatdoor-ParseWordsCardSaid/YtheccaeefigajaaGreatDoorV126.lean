import Derived.Test.YtheccaeefigajaaGreatDoorPSame8
set_option linter.unusedSimpArgs false
set_option linter.unusedVariables false
set_option maxHeartbeats 4000000
set_option maxRecDepth 100000
namespace Lp
open Go Go.RowKit Go.Proofs
theorem fa_119_0:FaP Tryz.prog 119 0 0:=fun _ _ _=>by kernel_rfl
theorem fa_27_1:FaP Tryz.prog 27 1 1:=fun _ _ _=>by kernel_rfl
theorem fa_27_6:FaP Tryz.prog 27 6 6:=fun _ _ _=>by kernel_rfl
theorem p_eqmat_neq {ty t':TypeId} {K:Kd} {H:List Hp} {x y:Operand} {dx dy:D} {a b:MatD} {q:Bool} (hx:opD K x=some dx) (cx:Cv dx (MatD.d a)) (hy:opD K y=some dy) (cy:Cv dy (MatD.d b)) (hq:decide (a≠b)=q):Pu Tryz.prog (.binOp .neq 65 x y t') ty K H (dB q):=
 ⟨fun ρ w F hk _ _=>by
  obtain ⟨vs,e,u1,r1,rfl,_,⟨rfl,_⟩,u2,r2,rfl,_,rfl,u3,r3,rfl,_,⟨rfl,_⟩,rfl⟩:=cx.out _ _ _ (hk.op hx)
  obtain ⟨vs',e',u4,r4,rfl,_,⟨rfl,_⟩,u5,r5,rfl,_,rfl,u6,r6,rfl,_,⟨rfl,_⟩,rfl⟩:=cy.out _ _ _ (hk.op hy)
  refine zcA (r:=.bool q) (zj ρ [x,y]) (zbp ρ e) (zbo ρ e') (fun w=>?_) ⟨O,O⟩
  subst hq
  obtain ⟨a1,a2,a3⟩:=a
  obtain ⟨b1,b2,b3⟩:=b
  simp[go_sem,toList_beq]
  by_cases h1:a1=b1<;>by_cases h2:a2=b2<;>by_cases h3:a3=b3<;>simp[h1,h2,h3]⟩
theorem read8_1 (ev es:Value) (hev:EvOk ev) (hes:EvOk es):CD Tryz.prog 14 [HPow,HErr ev,HSyn es] [.v (.string a8S1)] (fun r H'=>r=.tup [.agg [.s (⟨#[98,105,110]⟩:ByteArray),.s (⟨#[43]⟩:ByteArray),dI 0,dI 0,.sh 1 (([]:List ByteArray).map D.s),.sh 3 (([]:List MatD).map MatD.d),.sh 7 (Nd.ds a8K1),dI 0,dI (-1),dI (-1)],dI 0]∧H'=[HPow,HErr ev,HSyn es]):=by
 have h:=Read_c a8S1 ev es hev hes
 rw[al8_r1.1,al8_r1.2] at h
 refine CD.to ⟨fun w F vs hvs hF hH=>h.out w F vs (by obtain ⟨u,us,e,hu,hus⟩:=hvs;exact⟨u,us,e,⟨hu,by decide⟩,hus⟩) hF hH⟩ ?_
 rintro r H' ⟨op,text,n,mode,names,ms,kids,o,a,b,e,rfl,rfl⟩
 injection e with e1 e2 e3 e4
 subst e2;subst e3;subst e4
 injection e1 with a1 a2 a3 a4 a5 a6 a7
 subst a1;subst a2;subst a3;subst a4;subst a5;subst a6;subst a7
 exact⟨O,O⟩
theorem read8_2 (ev es:Value) (hev:EvOk ev) (hes:EvOk es):CD Tryz.prog 14 [HPow,HErr ev,HSyn es] [.v (.string a8S2)] (fun r H'=>r=.tup [.agg [.s (⟨#[97,103,103]⟩:ByteArray),.s (⟨#[115,117,109]⟩:ByteArray),dI 0,dI 1,.sh 1 ([(⟨#[104,111,115,116]⟩:ByteArray)].map D.s),.sh 3 (([]:List MatD).map MatD.d),.sh 7 (Nd.ds a8K2),dI 2,dI 3,dI (-1)],dI 0]∧H'=[HPow,HErr ev,HSyn es]):=by
 have h:=Read_c a8S2 ev es hev hes
 rw[al8_r2.1,al8_r2.2] at h
 refine CD.to ⟨fun w F vs hvs hF hH=>h.out w F vs (by obtain ⟨u,us,e,hu,hus⟩:=hvs;exact⟨u,us,e,⟨hu,by decide⟩,hus⟩) hF hH⟩ ?_
 rintro r H' ⟨op,text,n,mode,names,ms,kids,o,a,b,e,rfl,rfl⟩
 injection e with e1 e2 e3 e4
 subst e2;subst e3;subst e4
 injection e1 with a1 a2 a3 a4 a5 a6 a7
 subst a1;subst a2;subst a3;subst a4;subst a5;subst a6;subst a7
 exact⟨O,O⟩
theorem bintext0_c (text:ByteArray) (n:Nat) (names:List ByteArray) (ms:List MatD) (xa xb:ByteArray) (xc xd:Int) (xe:List ByteArray) (xf:List MatD) (xg:List Nd) (ya yb:ByteArray) (yc yd:Int) (ye:List ByteArray) (yf:List MatD) (yg:List Nd) (ta tb:ByteArray) (h0:text.size≤1000) (hxt:ta.size≤10000000) (hx:CD Tryz.prog 99 [HPow] [n7 xa xb xc xd xe xf xg] (PrT ta)) (hyt:tb.size≤10000000) (hy:CD Tryz.prog 99 [HPow] [n7 ya yb yc yd ye yf yg] (PrT tb)):
 CD Tryz.prog 100 [HPow] [.agg [.s (⟨#[98,105,110]⟩:ByteArray),.s text,dN n,dI 0,.sh 1 (names.map D.s),.sh 3 (ms.map MatD.d),.sh 7 [n7 xa xb xc xd xe xf xg,n7 ya yb yc yd ye yf yg]]] (PrT (binP text 0 names ta tb)):=by
 refine tZ Tryz.func100 O O (fun C=>?_)
 refine T.bd 0 O (fun bd0=>?_)
 refine g' 2 O ?_
 refine tA O (fun g1=>?_)
 refine g' 4 O (T.front 1 O (T.keep [0,1,2] O ?_))
 refine tDr 10 [(4,dP g1 0,none),(5,dP g1 6,none),(6,.sh 7 [n7 xa xb xc xd xe xf xg,n7 ya yb yc yd ye yf yg],none),(7,.el (n7 xa xb xc xd xe xf xg) 0,none),(8,n7 xa xb xc xd xe xf xg,none),(9,.s ta,some [HPow,.bx g1 119 (.agg [.s (⟨#[98,105,110]⟩:ByteArray),.s text,dN n,dI 0,.sh 1 (names.map D.s),.sh 3 (ms.map MatD.d),.sh 7 [n7 xa xb xc xd xe xf xg,n7 ya yb yc yd ye yf yg]])]),(10,.s (ta++(⟨#[32]⟩:ByteArray)),none),(11,dP g1 0,none),(12,dP g1 1,none),(13,.s text,none)] [.bx g1 119 (.agg [.s (⟨#[98,105,110]⟩:ByteArray),.s text,dN n,dI 0,.sh 1 (names.map D.s),.sh 3 (ms.map MatD.d),.sh 7 [n7 xa xb xc xd xe xf xg,n7 ya yb yc yd ye yf yg]])] (Hn:=[HPow,.bx g1 119 (.agg [.s (⟨#[98,105,110]⟩:ByteArray),.s text,dN n,dI 0,.sh 1 (names.map D.s),.sh 3 (ms.map MatD.d),.sh 7 [n7 xa xb xc xd xe xf xg,n7 ya yb yc yd ye yf yg]])]) mixed O O O O (HSub.lst 1 O) O ⟨sa_p O O O (zm O fa_119_0 O),sa_p O O O (zm O fa_27_6 O),sa_p O O O (zk O (i:=0) O Tryz.isAgg25 O),sa_p O O O (zr (k:=0) O O Tryz.runUnderlying25 Tryz.sizeOf27 (by first | rfl | omega) rfl),sa_p rfl rfl rfl (p_load_el (d:=n7 xa xb xc xd xe xf xg) rfl Tryz.isAgg27 Tryz.sizeOf27 rfl rfl),sa_e rfl rfl rfl rfl (((zem [HPow] [.bx g1 119 (.agg [.s (⟨#[98,105,110]⟩:ByteArray),.s text,dN n,dI 0,.sh 1 (names.map D.s),.sh 3 (ms.map MatD.d),.sh 7 [n7 xa xb xc xd xe xf xg,n7 ya yb yc yd ye yf yg]])] [] rfl rfl (ga .nil) zbc Tryz.call99 (hx) (.inl rfl))).mono (by rintro _ _ ⟨_,⟨rfl,rfl⟩,rfl⟩;exact⟨rfl,rfl⟩)) (HSub.lst 1 rfl),sa_p rfl rfl rfl (zbn rfl rfl (by unfold maxLen;(try simp only[ByteArray.size_append]);(try simp only[ByteArray.size_append]);have kz:=catz;omega)),sa_p rfl rfl rfl (zm rfl fa_119_0 rfl),sa_p rfl rfl rfl (zm rfl fa_27_1 rfl),sa_p rfl rfl rfl (zk rfl (i:=0) rfl Tryz.isAgg9 rfl),trivial⟩ ?_
 refine tK O (tP O (zbn O O (by unfold maxLen;(try simp only[ByteArray.size_append]);(try simp only[ByteArray.size_append]);have kz:=catz;omega)) (tP O (zbn O O (by unfold maxLen;(try simp only[ByteArray.size_append]);(try simp only[ByteArray.size_append]);have kz:=catz;omega)) (gQ 9 [1] O O (tP O (zdT O O (decide_eq_false (by decide))) (gQ 11 [1] O O (tP O (zr (k:=1) O O Tryz.runUnderlying25 Tryz.sizeOf27 (by first | rfl | omega) O) (g' 1 O (tX [0] O O acs (hy) ?_))))))))
 rintro _ _ ⟨rfl,rfl⟩
 refine tP O (zbn O O (by unfold maxLen;(try simp only[ByteArray.size_append]);(try simp only[ByteArray.size_append]);have kz:=catz;omega)) (g' 4 O ?_)
 exact tRs O Tryz.results100 (.cons (zd (zc O) (Cv.eq (congrArg D.s (show ((((ta++(⟨#[32]⟩:ByteArray))++text)++(⟨#[32]⟩:ByteArray))++tb)=binP text 0 names ta tb from(by unfold binP;rw[if_pos O]))))) .nil) O (HSub.fst 1 O) ⟨O,O⟩
theorem node_bin0 (text:ByteArray) (n:Nat) (names:List ByteArray) (ms:List MatD) (xa xb:ByteArray) (xc xd:Int) (xe:List ByteArray) (xf:List MatD) (xg:List Nd) (ya yb:ByteArray) (yc yd:Int) (ye:List ByteArray) (yf:List MatD) (yg:List Nd) (ta tb:ByteArray) (h0:text.size≤1000) (hxt:ta.size≤10000000) (hx:CD Tryz.prog 99 [HPow] [n7 xa xb xc xd xe xf xg] (PrT ta)) (hyt:tb.size≤10000000) (hy:CD Tryz.prog 99 [HPow] [n7 ya yb yc yd ye yf yg] (PrT tb)):
 CD Tryz.prog 34 [HPow] [.agg [.s (⟨#[98,105,110]⟩:ByteArray),.s text,dN n,dI 0,.sh 1 (names.map D.s),.sh 3 (ms.map MatD.d),.sh 7 [n7 xa xb xc xd xe xf xg,n7 ya yb yc yd ye yf yg]]] (PrT (binP text 0 names ta tb)):=by
 refine tZ Tryz.func34 O O (fun C=>?_)
 refine T.bd 0 O (fun bd0=>?_)
 refine g' 2 O ?_
 refine tA O (fun g1=>?_)
 refine gQ 6 [0] O O (tW O acs (lift_bin text n 0 names ms xa xb xc xd xe xf xg ya yb yc yd ye yf yg) (g' 7 O (tP O ((zaw (zv:=(.agg #[(.int .i64 0)])) O (fun _ _=>by kernel_rfl)).cv (Cv.tup (.cons (Cv.vagg (by decide)) (gc .nil)))) (g' 3 O ?_))))
 refine tA O (fun g2=>?_)
 refine gQ 16 [0] O O (tP O ((zaw (zv:=n9) O (fun _ _=>by kernel_rfl)).cv (Cv.tup (.cons (Cv.vagg (by decide)) (gc .nil)))) (g' 3 O ?_))
 refine tA O (fun g3=>?_)
 refine gQ 16 [0] O O (tP O (zbD O (fun _ _=>by kernel_rfl)) (g' 3 O ?_))
 refine tA O (fun g4=>?_)
 refine gQ 13 [0,0] O O (tX [4] O O acs (bintext0_c text n names ms xa xb xc xd xe xf xg ya yb yc yd ye yf yg ta tb h0 hxt hx hyt hy) ?_)
 rintro _ _ ⟨rfl,rfl⟩
 refine g' 5 O ?_
 exact tRs O Tryz.results34 (.cons (zd (zc O) (Cv.eq (congrArg D.s (show (binP text 0 names ta tb)=binP text 0 names ta tb from(by rfl))))) .nil) O (HSub.fst 1 O) ⟨O,O⟩
theorem print0_s (xa xb:ByteArray) (xc xd:Int) (xe:List ByteArray) (xf:List MatD) (xg:List Nd) (t:ByteArray) (ht:t.size≤1000000) (hx:CD Tryz.prog 34 [HPow] [n7 xa xb xc xd xe xf xg] (PrT t)):
 CD Tryz.prog 32 [HPow] [.agg [.s xa,.s xb,dI xc,dI xd,.sh 1 (xe.map D.s),.sh 3 (xf.map MatD.d),.sh 7 (Nd.ds xg),dI 0,dI (-1),dI (-1)]] (PrT t):=by
 refine tZ Tryz.func32 O O (fun C=>?_)
 refine T.bd 0 O (fun bd0=>?_)
 refine g' 2 O ?_
 refine tA O (fun g1=>?_)
 refine gQ 7 [0] O O (tX [1] O O acs (hx) ?_)
 rintro _ _ ⟨rfl,rfl⟩
 refine gQ 13 [1] O O (tP O (zag O O (decide_eq_false (by decide))) (g' 6 O (tP O (zag O O (decide_eq_false (by decide))) (gQ 12 [1] O O (tP O (zad O O (decide_eq_false (by decide))) (gQ 10 [1] O O (tP O (zad O O (decide_eq_false (by decide))) (g' 12 O ?_))))))))
 exact tR O (HSub.fst 1 O) ⟨O,O⟩
theorem p8_n1:CD Tryz.prog 34 [HPow] [Nd.d (.mk tNum ByteArray.empty (1:Nat) 0 [] [] [])] (PrT (⟨#[49]⟩:ByteArray)):=by
 have h:=node_num ByteArray.empty 1 0 [] [] (by decide)
 rw[show digB 1=(⟨#[49]⟩:ByteArray) from by kernel_rfl] at h;exact h
theorem p8_i1:CD Tryz.prog 99 [HPow] [Nd.d (.mk tNum ByteArray.empty (1:Nat) 0 [] [] [])] (PrT (⟨#[49]⟩:ByteArray)):=inner_num ByteArray.empty 1 0 [] [] (⟨#[49]⟩:ByteArray) (by decide) p8_n1
theorem p8_n2:CD Tryz.prog 34 [HPow] [Nd.d (.mk tNum ByteArray.empty (2:Nat) 0 [] [] [])] (PrT (⟨#[50]⟩:ByteArray)):=by
 have h:=node_num ByteArray.empty 2 0 [] [] (by decide)
 rw[show digB 2=(⟨#[50]⟩:ByteArray) from by kernel_rfl] at h;exact h
theorem p8_i2:CD Tryz.prog 99 [HPow] [Nd.d (.mk tNum ByteArray.empty (2:Nat) 0 [] [] [])] (PrT (⟨#[50]⟩:ByteArray)):=inner_num ByteArray.empty 2 0 [] [] (⟨#[50]⟩:ByteArray) (by decide) p8_n2
theorem p8_n3:CD Tryz.prog 34 [HPow] [Nd.d (.mk tNum ByteArray.empty (3:Nat) 0 [] [] [])] (PrT (⟨#[51]⟩:ByteArray)):=by
 have h:=node_num ByteArray.empty 3 0 [] [] (by decide)
 rw[show digB 3=(⟨#[51]⟩:ByteArray) from by kernel_rfl] at h;exact h
theorem p8_i3:CD Tryz.prog 99 [HPow] [Nd.d (.mk tNum ByteArray.empty (3:Nat) 0 [] [] [])] (PrT (⟨#[51]⟩:ByteArray)):=inner_num ByteArray.empty 3 0 [] [] (⟨#[51]⟩:ByteArray) (by decide) p8_n3
theorem p8_n4:CD Tryz.prog 34 [HPow] [Nd.d (.mk tNeg ByteArray.empty 0 0 [] [] [a8n 3])] (PrT (⟨#[45,51]⟩:ByteArray)):=by
 have h:=node_neg ByteArray.empty 0 0 [] [] tNum ByteArray.empty (3:Nat) 0 [] [] [] (⟨#[51]⟩:ByteArray) (by decide) p8_i3
 rw[show zaE++(⟨#[51]⟩:ByteArray)=(⟨#[45,51]⟩:ByteArray) from by kernel_rfl] at h;exact h
theorem p8_i4:CD Tryz.prog 99 [HPow] [Nd.d (.mk tNeg ByteArray.empty 0 0 [] [] [a8n 3])] (PrT (⟨#[40,45,51,41]⟩:ByteArray)):=by
 have h:=inner_neg ByteArray.empty 0 0 [] [] tNum ByteArray.empty (3:Nat) 0 [] [] [] (⟨#[45,51]⟩:ByteArray) (by decide) p8_n4
 rw[show zC++(⟨#[45,51]⟩:ByteArray)++zH=(⟨#[40,45,51,41]⟩:ByteArray) from by kernel_rfl] at h;exact h
theorem p8_n5:CD Tryz.prog 34 [HPow] [Nd.d (.mk tBin zbO 0 0 [] [] [a8n 2,.mk tNeg ByteArray.empty 0 0 [] [] [a8n 3]])] (PrT (⟨#[50,32,42,32,40,45,51,41]⟩:ByteArray)):=by
 have h:=node_bin0 zbO 0 [] [] tNum ByteArray.empty (2:Nat) 0 [] [] [] tNeg ByteArray.empty 0 0 [] [] [a8n 3] (⟨#[50]⟩:ByteArray) (⟨#[40,45,51,41]⟩:ByteArray) (by decide) (by decide) p8_i2 (by decide) p8_i4
 rw[show binP zbO 0 [] (⟨#[50]⟩:ByteArray) (⟨#[40,45,51,41]⟩:ByteArray)=(⟨#[50,32,42,32,40,45,51,41]⟩:ByteArray) from by kernel_rfl] at h;exact h
theorem p8_i5:CD Tryz.prog 99 [HPow] [Nd.d (.mk tBin zbO 0 0 [] [] [a8n 2,.mk tNeg ByteArray.empty 0 0 [] [] [a8n 3]])] (PrT (⟨#[40,50,32,42,32,40,45,51,41,41]⟩:ByteArray)):=by
 have h:=inner_bin zbO 0 0 [] [] tNum ByteArray.empty (2:Nat) 0 [] [] [] tNeg ByteArray.empty 0 0 [] [] [a8n 3] (⟨#[50,32,42,32,40,45,51,41]⟩:ByteArray) (by decide) p8_n5
 rw[show zC++(⟨#[50,32,42,32,40,45,51,41]⟩:ByteArray)++zH=(⟨#[40,50,32,42,32,40,45,51,41,41]⟩:ByteArray) from by kernel_rfl] at h;exact h
theorem p8_n6:CD Tryz.prog 34 [HPow] [Nd.d (.mk tBin zda 0 0 [] [] a8K1)] (PrT (⟨#[49,32,43,32,40,50,32,42,32,40,45,51,41,41]⟩:ByteArray)):=by
 have h:=node_bin0 zda 0 [] [] tNum ByteArray.empty (1:Nat) 0 [] [] [] tBin zbO 0 0 [] [] [a8n 2,.mk tNeg ByteArray.empty 0 0 [] [] [a8n 3]] (⟨#[49]⟩:ByteArray) (⟨#[40,50,32,42,32,40,45,51,41,41]⟩:ByteArray) (by decide) (by decide) p8_i1 (by decide) p8_i5
 rw[show binP zda 0 [] (⟨#[49]⟩:ByteArray) (⟨#[40,50,32,42,32,40,45,51,41,41]⟩:ByteArray)=(⟨#[49,32,43,32,40,50,32,42,32,40,45,51,41,41]⟩:ByteArray) from by kernel_rfl] at h;exact h
theorem print8:CD Tryz.prog 32 [HPow] [.agg [.s (⟨#[98,105,110]⟩:ByteArray),.s (⟨#[43]⟩:ByteArray),dI 0,dI 0,.sh 1 (([]:List ByteArray).map D.s),.sh 3 (([]:List MatD).map MatD.d),.sh 7 (Nd.ds a8K1),dI 0,dI (-1),dI (-1)]] (PrT a8P):=print0_s tBin zda 0 0 [] [] a8K1 a8P (by decide) p8_n6
theorem alive8_c (ev es:Value) (hev:EvOk ev) (hes:EvOk es):
 CD Tryz.prog 25 [HPow,HErr ev,HSyn es] [] (fun r H'=>r=dB true∧H'=[HPow,HErr ev,HSyn es]):=by
 refine tZ Tryz.func25 O O (fun C=>?_)
 refine g' 7 O (tX [0,0,0] O O acs (read8_1 ev es hev hes) ?_)
 rintro _ _ ⟨rfl,rfl⟩
 refine g' 3 O ?_
 refine tA O (fun g1=>?_)
 refine gQ 6 [0] O O (tX [1,1,1] O O acs (read8_2 ev es hev hes) ?_)
 rintro _ _ ⟨rfl,rfl⟩
 refine g' 3 O ?_
 refine tA O (fun g2=>?_)
 refine gQ 5 [0] O O (T.front 1 O (g' 2 O (tP O (zag O O (decide_eq_true (by decide))) (gQ 2 [4] O O (tX [0] O O acs (print8) ?_)))))
 rintro _ _ ⟨rfl,rfl⟩
 refine tG O (zeA O O (decide_eq_true (by decide))) (g' 3 O (tG O (zag O O (decide_eq_true (by decide))) (gQ 4 [1] O O (tG O (zag O O (decide_eq_true (by decide))) (gQ 4 [1] O O (tG O (zag O O (decide_eq_true (by decide))) (gQ 4 [1] O O (tG O (zag O O (decide_eq_true (by decide))) (gQ 5 [1] O O (tG O (zeA O O (decide_eq_true (by decide))) (g' 2 O (tW O (.cons (ArgC.cv cS) .nil) (Agg_c (⟨#[116,111,112,107]⟩:ByteArray)) (g' 5 O (T.front 3 O (T.front 3 O (T.front 2 O ?_))))))))))))))))
 exact tRs O Tryz.results25 (.cons (zd (zc O) (cB ((by decide)))) .nil) O (HSub.fst 3 O) ⟨O,O⟩
end Lp
set_option linter.unusedVariables false
namespace Lp
open Go
noncomputable def zfi (a b:List Nd):Bool:=@decide (a=b) (Classical.propDecidable _)
theorem listB_t {a b:List Nd} (h:a=b):true=zfi a b:=(@decide_eq_true _ (Classical.propDecidable _) h).symm
theorem listB_f {a b:List Nd} (h:a≠b):false=zfi a b:=(@decide_eq_false _ (Classical.propDecidable _) h).symm
theorem listB_is {a b:List Nd}:zfi a b=true↔a=b:=⟨fun h=>@of_decide_eq_true _ (Classical.propDecidable _) h,fun h=>(listB_t h).symm⟩
theorem eqB_and {a1 a2 b1 b2:ByteArray} {a3 a4 b3 b4:Int} {a5 b5:List ByteArray} {a6 b6:List MatD} {a7 b7:List Nd}:
 ((((((decide (a1=b1)&&decide (a2=b2))&&decide (a3=b3))&&decide (a4=b4))&&decide (a5=b5))&&decide (a6=b6))&&zfi a7 b7)=(Nd.mk a1 a2 a3 a4 a5 a6 a7).eqB (Nd.mk b1 b2 b3 b4 b5 b6 b7):=by
 rw[Bool.eq_iff_iff,eqB_is]
 simp only[Bool.and_eq_true,decide_eq_true_eq,listB_is,Nd.mk.injEq]
 constructor
 · rintro ⟨⟨⟨⟨⟨⟨h1,h2⟩,h3⟩,h4⟩,h5⟩,h6⟩,h7⟩;exact⟨h1,h2,h3,h4,h5,h6,h7⟩
 · rintro ⟨h1,h2,h3,h4,h5,h6,h7⟩;exact⟨⟨⟨⟨⟨⟨h1,h2⟩,h3⟩,h4⟩,h5⟩,h6⟩,h7⟩
end Lp
set_option linter.unusedSimpArgs false
set_option linter.unusedVariables false
set_option maxHeartbeats 4000000
set_option maxRecDepth 100000
namespace Lp
open Go Go.RowKit Go.Proofs
theorem eqT_c (a b:List ByteArray) :
 CD Tryz.prog 94 [] [.sh 1 (a.map D.s),.sh 1 (b.map D.s)] (isR (dB (decide (a=b)))):=by
 refine tZ Tryz.func94 O O (fun C=>?_)
 refine T.bd 0 O (fun bd0=>?_)
 have nl0:=zbK bd0
 refine T.bd 1 O (fun bd1=>?_)
 have nl1:=zbK bd1
 refine g' 9 O (tP O (z8 (n:=a.length) O Tryz.runUnderlying23 (by simp only[lm,lc,ln])) (g' 1 O (tP O (z8 (n:=b.length) O Tryz.runUnderlying23 (by simp only[lm,lc,ln])) (g' 3 O ?_))))
 refine tD O (fun hc1=>?_) (fun hc1=>?_)
 · skip
   refine g' 7 O ?_
   exact tRs O Tryz.results94 (.cons (zd (zc O) (cB ((by first | exact(decide_eq_false (fun e=>by have e:=congrArg List.length e;omega)).symm | exact(decide_eq_true (zdG (by omega) (by omega) hf)).symm)))) .nil) O HSub.none ⟨O,O⟩
 · skip
   refine g' 6 O (tP O (z8 (n:=a.length) O Tryz.runUnderlying23 (by simp only[lm,lc,ln])) (g' 4 O (tl1 (fun (a_:Nat)=>[(0,.sh 1 (a.map D.s)),(1,.sh 1 (b.map D.s)),(12,dN a.length),(13,dN a_)]) (fun a_=>[]) (fun a_=>(a_≤a.length)∧(a.take a_=b.take a_)) (fun a_=>a.length-a_) 0 O (sa O) HSub.rfl' ⟨Nat.zero_le _,O⟩ ?_)))
   rintro k ⟨hk,hf⟩
   refine g' 6 O ?_
   refine tD O (fun hc2=>?_) (fun hc2=>?_)
   · skip
     refine g' 11 O (T.keep [0,1,5,12,13,14,15] O ?_)
     obtain ⟨x1,hx1⟩:=zN a k (by omega)
     obtain ⟨x2,hx2⟩:=zN b k (by omega)
     refine tDr 8 [(16,.sh 1 (a.map D.s),none),(17,dN k,none),(18,.el (.s x1) 0,none),(19,.s x1,none),(20,.sh 1 (b.map D.s),none),(21,dN k,none),(22,.el (.s x2) 0,none),(23,.s x2,none)] [] (Hn:=[]) mixed O O O O HSub.rfl' O ⟨sa_p O O O (zi O),sa_p O O O (zi O),sa_p O O O (zr (k:=k) O O Tryz.runUnderlying23 Tryz.sizeOf9 (by first | rfl | omega) (zI hx1)),sa_p O O O (zbW O Tryz.isAgg9 O),sa_p O O O (zi O),sa_p O O O (zi O),sa_p O O O (zr (k:=k) O O Tryz.runUnderlying23 Tryz.sizeOf9 (by first | rfl | omega) (zI hx2)),sa_p O O O (zbW O Tryz.isAgg9 O),trivial⟩ (tK O (g' 3 O ?_))
     refine tD O (fun hc3=>?_) (fun hc3=>?_)
     · skip
       refine g' 11 O ?_
       exact tRs O Tryz.results94 (.cons (zd (zc O) (cB ((by first | exact(decide_eq_false (fun e=>by have e:=congrArg List.length e;omega)).symm | exact(decide_eq_false (tk_ne hx1 hx2 (by simpa using hc3))).symm | exact(decide_eq_true (zdG (by omega) (by omega) hf)).symm)))) .nil) O HSub.none ⟨O,O⟩
     · skip
       refine g' 4 O (tP O (zy (c:=((k+1:Nat):Int)) O O (zn (by omega) (by omega))) (g' 2 O ?_))
       exact tp1 (k+1) (sa O) HSub.rfl' ⟨by omega,tk_go hx1 hx2 hf (by simpa using hc3)⟩ (by omega)
   · skip
     refine g' 11 O ?_
     exact tRs O Tryz.results94 (.cons (zd (zc O) (cB ((by first | exact(decide_eq_false (fun e=>by have e:=congrArg List.length e;omega)).symm | exact(decide_eq_true (zdG (by omega) (by omega) hf)).symm)))) .nil) O HSub.none ⟨O,O⟩
theorem eqM_c (a b:List MatD) :
 CD Tryz.prog 95 [] [.sh 3 (a.map MatD.d),.sh 3 (b.map MatD.d)] (isR (dB (decide (a=b)))):=by
 refine tZ Tryz.func95 O O (fun C=>?_)
 refine T.bd 0 O (fun bd0=>?_)
 have nl0:=zbK bd0
 refine T.bd 1 O (fun bd1=>?_)
 have nl1:=zbK bd1
 refine g' 9 O (tP O (z8 (n:=a.length) O Tryz.runUnderlying24 (by simp only[lm,lc,ln])) (g' 1 O (tP O (z8 (n:=b.length) O Tryz.runUnderlying24 (by simp only[lm,lc,ln])) (g' 3 O ?_))))
 refine tD O (fun hc1=>?_) (fun hc1=>?_)
 · skip
   refine g' 7 O ?_
   exact tRs O Tryz.results95 (.cons (zd (zc O) (cB ((by first | exact(decide_eq_false (fun e=>by have e:=congrArg List.length e;omega)).symm | exact(decide_eq_true (zdG (by omega) (by omega) hf)).symm)))) .nil) O HSub.none ⟨O,O⟩
 · skip
   refine g' 6 O (tP O (z8 (n:=a.length) O Tryz.runUnderlying24 (by simp only[lm,lc,ln])) (g' 4 O (tl1 (fun (a_:Nat)=>[(0,.sh 3 (a.map MatD.d)),(1,.sh 3 (b.map MatD.d)),(12,dN a.length),(13,dN a_)]) (fun a_=>[]) (fun a_=>(a_≤a.length)∧(a.take a_=b.take a_)) (fun a_=>a.length-a_) 0 O (sa O) HSub.rfl' ⟨Nat.zero_le _,O⟩ ?_)))
   rintro k ⟨hk,hf⟩
   refine g' 6 O ?_
   refine tD O (fun hc2=>?_) (fun hc2=>?_)
   · skip
     refine g' 11 O (T.keep [0,1,5,12,13,14,15] O ?_)
     obtain ⟨x1,hx1⟩:=zN a k (by omega)
     obtain ⟨x2,hx2⟩:=zN b k (by omega)
     refine tDr 8 [(16,.sh 3 (a.map MatD.d),none),(17,dN k,none),(18,.el (MatD.d x1) 0,none),(19,MatD.d x1,none),(20,.sh 3 (b.map MatD.d),none),(21,dN k,none),(22,.el (MatD.d x2) 0,none),(23,MatD.d x2,none)] [] (Hn:=[]) mixed O O O O HSub.rfl' O ⟨sa_p O O O (zi O),sa_p O O O (zi O),sa_p O O O (zr (k:=k) O O Tryz.runUnderlying24 Tryz.sizeOf65 (by first | rfl | omega) (zI hx1)),sa_p O O O (p_load_el (d:=MatD.d x1) O Tryz.isAgg65 Tryz.sizeOf65 O O),sa_p O O O (zi O),sa_p O O O (zi O),sa_p O O O (zr (k:=k) O O Tryz.runUnderlying24 Tryz.sizeOf65 (by first | rfl | omega) (zI hx2)),sa_p O O O (p_load_el (d:=MatD.d x2) O Tryz.isAgg65 Tryz.sizeOf65 O O),trivial⟩ (tK O (tP O (p_eqmat_neq (dx:=MatD.d x1) (dy:=MatD.d x2) (a:=x1) (b:=x2) O (Cv.rfl') O (Cv.rfl') O) (g' 2 O ?_)))
     refine tD O (fun hc3=>?_) (fun hc3=>?_)
     · skip
       refine g' 11 O ?_
       exact tRs O Tryz.results95 (.cons (zd (zc O) (cB ((by first | exact(decide_eq_false (fun e=>by have e:=congrArg List.length e;omega)).symm | exact(decide_eq_false (tk_ne hx1 hx2 (by simpa using hc3))).symm | exact(decide_eq_true (zdG (by omega) (by omega) hf)).symm)))) .nil) O HSub.none ⟨O,O⟩
     · skip
       refine g' 4 O (tP O (zy (c:=((k+1:Nat):Int)) O O (zn (by omega) (by omega))) (g' 2 O ?_))
       exact tp1 (k+1) (sa O) HSub.rfl' ⟨by omega,tk_go hx1 hx2 hf (by simpa using hc3)⟩ (by omega)
   · skip
     refine g' 11 O ?_
     exact tRs O Tryz.results95 (.cons (zd (zc O) (cB ((by first | exact(decide_eq_false (fun e=>by have e:=congrArg List.length e;omega)).symm | exact(decide_eq_true (zdG (by omega) (by omega) hf)).symm)))) .nil) O HSub.none ⟨O,O⟩
theorem eqF_s (xg yg:List Nd) (ih:∀ x∈xg,∀ y:Nd,CD Tryz.prog 31 [] [Nd.d x,Nd.d y] (isR (dB (x.eqB y)))):
 CD Tryz.prog 96 [] [.sh 7 (xg.map Nd.d),.sh 7 (yg.map Nd.d),.fn 31 [] []] (isR (dB (zfi xg yg))):=by
 refine tZ Tryz.func96 O O (fun C=>?_)
 refine T.bd 0 O (fun bd0=>?_)
 have nl0:=zbK bd0
 refine T.bd 1 O (fun bd1=>?_)
 have nl1:=zbK bd1
 refine g' 9 O (tP O (z8 (n:=xg.length) O Tryz.runUnderlying25 (by simp only[lm,lc,ln])) (g' 1 O (tP O (z8 (n:=yg.length) O Tryz.runUnderlying25 (by simp only[lm,lc,ln])) (g' 3 O ?_))))
 refine tD O (fun hc1=>?_) (fun hc1=>?_)
 · skip
   refine g' 7 O ?_
   exact tRs O Tryz.results96 (.cons (zd (zc O) (cB ((by first | exact listB_f (fun e=>by have e:=congrArg List.length e;omega) | exact listB_t (zdG (by omega) (by omega) hf))))) .nil) O HSub.none ⟨O,O⟩
 · skip
   refine g' 6 O (tP O (z8 (n:=xg.length) O Tryz.runUnderlying25 (by simp only[lm,lc,ln])) (g' 4 O (tl1 (fun (a_:Nat)=>[(1,.sh 7 (yg.map Nd.d)),(2,.fn 31 [] []),(15,.sh 7 (xg.map Nd.d)),(16,dN xg.length),(17,dN a_)]) (fun a_=>[]) (fun a_=>(a_≤xg.length)∧(xg.take a_=yg.take a_)) (fun a_=>xg.length-a_) 0 O (sa O) HSub.rfl' ⟨Nat.zero_le _,O⟩ ?_)))
   rintro k ⟨hk,hf⟩
   refine g' 6 O ?_
   refine tD O (fun hc2=>?_) (fun hc2=>?_)
   · skip
     refine g' 7 O ?_
     obtain ⟨x1,hx1⟩:=zN xg k (by omega)
     obtain ⟨kax1,kbx1,kcx1,kdx1,kex1,kfx1,kgx1⟩:=x1
     refine tP O (zr (k:=k) O O Tryz.runUnderlying25 Tryz.sizeOf27 (by first | rfl | omega) (zI hx1)) (g' 1 O ?_)
     refine tA O (fun g3=>?_)
     refine gQ 8 [0] O O ?_
     obtain ⟨x2,hx2⟩:=zN yg k (by omega)
     obtain ⟨kax2,kbx2,kcx2,kdx2,kex2,kfx2,kgx2⟩:=x2
     refine tP O (zr (k:=k) O O Tryz.runUnderlying25 Tryz.sizeOf27 (by first | rfl | omega) (zI hx2)) (g' 1 O ?_)
     refine tA O (fun g4=>?_)
     refine gQ 8 [0,1,0] O O (tW O acs (ih (Nd.mk kax1 kbx1 kcx1 kdx1 kex1 kfx1 kgx1) (List.mem_of_getElem? hx1) (Nd.mk kax2 kbx2 kcx2 kdx2 kex2 kfx2 kgx2)) (g' 3 O ?_))
     refine tC O (fun hc5=>?_) (fun hc5=>?_)
     · simp only[bX,bJ] at hc5
       refine g' 11 O ?_
       exact tRs O Tryz.results96 (.cons (zd (zc O) (cB ((by first | exact listB_f (fun e=>by have e:=congrArg List.length e;omega) | exact listB_f (tk_ne hx1 hx2 (eqB_no.1 (by simpa using hc5))) | exact listB_t (zdG (by omega) (by omega) hf))))) .nil) O HSub.none ⟨O,O⟩
     · simp only[bX,bJ] at hc5
       refine g' 4 O (tP O (zy (c:=((k+1:Nat):Int)) O O (zn (by omega) (by omega))) (g' 2 O ?_))
       exact tp1 (k+1) (sa O) HSub.none ⟨by omega,tk_go hx1 hx2 hf (eqB_is.1 (by simpa using hc5))⟩ (by omega)
   · skip
     refine g' 11 O ?_
     exact tRs O Tryz.results96 (.cons (zd (zc O) (cB ((by first | exact listB_f (fun e=>by have e:=congrArg List.length e;omega) | exact listB_t (zdG (by omega) (by omega) hf))))) .nil) O HSub.none ⟨O,O⟩
theorem pSame_s (xa xb:ByteArray) (xc xd:Int) (xe:List ByteArray) (xf:List MatD) (xg:List Nd) (ya yb:ByteArray) (yc yd:Int) (ye:List ByteArray) (yf:List MatD) (yg:List Nd) (ih:∀ x∈xg,∀ y:Nd,CD Tryz.prog 31 [] [Nd.d x,Nd.d y] (isR (dB (x.eqB y)))):
 CD Tryz.prog 31 [] [.agg [.s xa,.s xb,dI xc,dI xd,.sh 1 (xe.map D.s),.sh 3 (xf.map MatD.d),.sh 7 (xg.map Nd.d)],.agg [.s ya,.s yb,dI yc,dI yd,.sh 1 (ye.map D.s),.sh 3 (yf.map MatD.d),.sh 7 (yg.map Nd.d)]] (isR (dB ((Nd.mk xa xb xc xd xe xf xg).eqB (Nd.mk ya yb yc yd ye yf yg)))):=by
 refine tZ Tryz.func31 O O (fun C=>?_)
 refine T.bd 0 O (fun bd0=>?_)
 refine T.bd 1 O (fun bd1=>?_)
 refine g' 2 O ?_
 refine tA O (fun g1=>?_)
 refine tA O (fun g2=>?_)
 refine gQ 11 [1,0] O O ?_
 refine tAnd 5 5 (c:=decide (xb=yb)) O O O O O O (fun hb3 nx4=>?_) ?_
 · skip
   have hf5:=of_decide_eq_true hb3
   refine gQ 5 [1,0] O O ?_
   exact nx4 _ O O (kx 5 O O)
 refine g' 1 O ?_
 refine tAnd 12 5 (c:=decide (xc=yc)) O O O O O O (fun hb6 nx7=>?_) ?_
 · skip
   obtain ⟨hf8,hf9⟩:=andT hb6
   have hf10:=of_decide_eq_true hf8
   have hf11:=of_decide_eq_true hf9
   refine gQ 5 [1,0] O O ?_
   exact nx7 _ O O (kx 5 O O)
 refine g' 1 O ?_
 refine tAnd 19 5 (c:=decide (xd=yd)) O O O O O O (fun hb12 nx13=>?_) ?_
 · skip
   obtain ⟨hf14,hf15⟩:=andT hb12
   obtain ⟨hf16,hf17⟩:=andT hf14
   have hf18:=of_decide_eq_true hf16
   have hf19:=of_decide_eq_true hf17
   have hf20:=of_decide_eq_true hf15
   refine gQ 5 [1,0] O O ?_
   exact nx13 _ O O (kx 5 O O)
 refine g' 1 O ?_
 refine tAnd 26 5 (c:=decide (xe=ye)) O O O O O O (fun hb21 nx22=>?_) ?_
 · skip
   obtain ⟨hf23,hf24⟩:=andT hb21
   obtain ⟨hf25,hf26⟩:=andT hf23
   obtain ⟨hf27,hf28⟩:=andT hf25
   have hf29:=of_decide_eq_true hf27
   have hf30:=of_decide_eq_true hf28
   have hf31:=of_decide_eq_true hf26
   have hf32:=of_decide_eq_true hf24
   refine gQ 4 [1,0] O O (tW O acs (eqT_c xe ye) ?_)
   exact nx22 _ O O (kx 5 O O)
 refine g' 1 O ?_
 refine tAnd 33 5 (c:=decide (xf=yf)) O O O O O O (fun hb33 nx34=>?_) ?_
 · skip
   obtain ⟨hf35,hf36⟩:=andT hb33
   obtain ⟨hf37,hf38⟩:=andT hf35
   obtain ⟨hf39,hf40⟩:=andT hf37
   obtain ⟨hf41,hf42⟩:=andT hf39
   have hf43:=of_decide_eq_true hf41
   have hf44:=of_decide_eq_true hf42
   have hf45:=of_decide_eq_true hf40
   have hf46:=of_decide_eq_true hf38
   refine gQ 4 [1,0] O O (tW O acs (eqM_c xf yf) ?_)
   exact nx34 _ O O (kx 5 O O)
 refine g' 1 O ?_
 refine tAnd 40 5 (c:=(zfi xg yg)) O O O O O O (fun hb47 nx48=>?_) ?_
 · skip
   obtain ⟨hf49,hf50⟩:=andT hb47
   obtain ⟨hf51,hf52⟩:=andT hf49
   obtain ⟨hf53,hf54⟩:=andT hf51
   obtain ⟨hf55,hf56⟩:=andT hf53
   obtain ⟨hf57,hf58⟩:=andT hf55
   have hf59:=of_decide_eq_true hf57
   have hf60:=of_decide_eq_true hf58
   have hf61:=of_decide_eq_true hf56
   have hf62:=of_decide_eq_true hf54
   refine gQ 4 [1,0] O O (tW O acs (eqF_s xg yg ih) ?_)
   exact nx48 _ O O (kx 5 O O)
 refine g' 4 O ?_
 exact tRs O Tryz.results31 (.cons (zd (zc O) (cB ((by exact eqB_and)))) .nil) O HSub.none ⟨O,O⟩
theorem pSame_c:∀ a b:Nd,CD Tryz.prog 31 [] [Nd.d a,Nd.d b] (isR (dB (a.eqB b))):=Nd.ind (fun op text n mode names ms kids ih b=>by
 obtain ⟨ya,yb,yc,yd,ye,yf,yg⟩:=b
 rw[Nd.d_mk,Nd.d_mk]
 exact pSame_s op text n mode names ms kids ya yb yc yd ye yf yg (fun x hx y=>ih x hx y))
end Lp
set_option linter.unusedSimpArgs false
set_option linter.unusedVariables false
set_option maxHeartbeats 4000000
set_option maxRecDepth 100000
namespace Lp
open Go Go.RowKit Go.Proofs
def kwW:List ByteArray:=[⟨#[115,117,109]⟩,⟨#[98,121]⟩,⟨#[108,105,109,105,116]⟩,⟨#[114,97,116,101]⟩,⟨#[111,114,100,101,114]⟩,⟨#[97,115,99]⟩,⟨#[111,110]⟩]
theorem kw1 {w:ByteArray} (h1:lexL w=[⟨1,0,w⟩]∧lexE w=0) (h2:zcZ rmD [⟨1,0,w⟩]=none):zaR w=2:=by
 unfold zaR;rw[if_pos h1.2,h1.1,h2,if_neg (by simp)]
theorem kw_read {w:ByteArray} (hw:w∈kwW):zaR w=2:=by
 simp only[kwW,List.mem_cons,List.not_mem_nil,or_false] at hw
 rcases hw with rfl | rfl | rfl | rfl | rfl | rfl | rfl<;>exact kw1 (lexA_lex (by kernel_rfl) (by decide) (by decide)) (by kernel_rfl)
theorem law_words_c (s:ByteArray) (ev es:Value) (hev:EvOk ev) (hes:EvOk es):
 CD Tryz.prog 11 [HPow,HErr ev,HSyn es] [.s s] (fun r H'=>r=dB true∧H'=[HPow,HErr ev,HSyn es]):=by
 refine tZ Tryz.func11 O O (fun C=>?_)
 refine T.bd 0 O (fun bd0=>?_)
 have sz0:s.size≤9223372036854775807:=bd0
 refine g' 7 O ?_
 refine tS 15 (decide ((100:Int)<((s.size:Nat):Int))) (fun _ hQ1=>?_) ?_
 · skip
   by_cases hg2:(100:Int)<((s.size:Nat):Int)
   · skip
     refine g' 2 O (tP O (zu O Tryz.runUnderlying9) (tP O (zca O O (decide_eq_true hg2)) (g' 5 O ?_)))
     exact tQ hQ1 O O (by first | (simp[hg2];done) | (simp only[decide_eq_true hg2,Bool.or_true,Bool.true_or,Bool.or_false,Bool.false_or,Bool.and_true,Bool.true_and,Bool.and_false,Bool.false_and];done) | (simp_all;done))
   · skip
     refine g' 2 O (tP O (zu O Tryz.runUnderlying9) (tP O (zca O O (decide_eq_false hg2)) (g' 1 O (tX [0,0,0] O O acs (alive8_c ev es hev hes) ?_))))
     rintro _ _ ⟨rfl,rfl⟩
     refine g' 3 O ?_
     exact tQ hQ1 O O (by first | (simp[hg2];done) | (simp only[decide_eq_false hg2,Bool.or_true,Bool.true_or,Bool.or_false,Bool.false_or,Bool.and_true,Bool.true_and,Bool.and_false,Bool.false_and];done) | (simp_all;done))
 · skip
   refine g' 1 O ?_
   refine tD O (fun hc3=>?_) (fun hc3=>?_)
   · skip
     refine g' 2 O (tX [0,0,0] O O acs (alive8_c ev es hev hes) ?_)
     rintro _ _ ⟨rfl,rfl⟩
     refine g' 5 O ?_
     exact tR O (HSub.fst 3 O) ⟨O,O⟩
   · skip
     have hs1:s.size≤100:=by have h:=hc3;omega
     have hkw:kwW.length=7:=rfl
     refine g' 5 O (tX [0,0,0] O O acs (Read_c s ev es hev hes) ?_)
     rintro _ _ ⟨no4,nt4,nn4,nm4,nl4,ns4,nk4,qo4,qa4,qb4,e4,rfl,rfl⟩
     refine g' 3 O ?_
     refine tA O (fun g5=>?_)
     refine gQ 7 [0] O O (tX [] O O acs (Read7_c s (by omega)) ?_)
     rintro _ _ ⟨no6,nt6,nn6,nm6,nl6,ns6,nk6,qo6,qa6,qb6,e6,rfl,rfl⟩
     refine g' 3 O ?_
     refine tA O (fun g7=>?_)
     refine gQ 12 [0] O O ?_
     refine tD O (fun hc8=>?_) (fun hc8=>?_)
     · skip
       exfalso;exact hc8 rfl
     · skip
       refine g' 5 O (tE O (Qu.ef (d:=.sh 1 ([(⟨#[115,117,109]⟩:ByteArray),(⟨#[98,121]⟩:ByteArray),(⟨#[108,105,109,105,116]⟩:ByteArray),(⟨#[114,97,116,101]⟩:ByteArray),(⟨#[111,114,100,101,114]⟩:ByteArray),(⟨#[97,115,99]⟩:ByteArray),(⟨#[111,110]⟩:ByteArray)].map D.s)) ((ze [.const (.string (⟨#[115,117,109]⟩:ByteArray)),.const (.string (⟨#[98,121]⟩:ByteArray)),.const (.string (⟨#[108,105,109,105,116]⟩:ByteArray)),.const (.string (⟨#[114,97,116,101]⟩:ByteArray)),.const (.string (⟨#[111,114,100,101,114]⟩:ByteArray)),.const (.string (⟨#[97,115,99]⟩:ByteArray)),.const (.string (⟨#[111,110]⟩:ByteArray))] O O (.cons (CellD.v O) (.cons (CellD.v O) (.cons (CellD.v O) (.cons (CellD.v O) (.cons (CellD.v O) (.cons (CellD.v O) (.cons (CellD.v O) .nil))))))) O Tryz.runUnderlying23 Tryz.sizeOf9 Tryz.zeroValue9 O O O O).cv (Cv.shs (.cons cS (.cons cS (.cons cS (.cons cS (.cons cS (.cons cS (.cons cS .nil)))))))))) ?_)
       rintro _ _ ⟨rfl,rfl⟩
       refine tP O (z8 (n:=[(⟨#[115,117,109]⟩:ByteArray),(⟨#[98,121]⟩:ByteArray),(⟨#[108,105,109,105,116]⟩:ByteArray),(⟨#[114,97,116,101]⟩:ByteArray),(⟨#[111,114,100,101,114]⟩:ByteArray),(⟨#[97,115,99]⟩:ByteArray),(⟨#[111,110]⟩:ByteArray)].length) O Tryz.runUnderlying23 (by simp only[lm,lc,ln])) (g' 4 O ?_)
       refine T.sub [(0,.s s),(2,dB false),(3,dP g5 0),(4,dI (zaR s)),(5,dP g7 0),(6,dI (zaR s)),(15,dB (decide ((100:Int)<((s.size:Nat):Int)))),(17,.tup [.agg [.s no4,.s nt4,dI nn4,dI nm4,.sh 1 (nl4.map D.s),.sh 3 (ns4.map MatD.d),.sh 7 (Nd.ds nk4),dI qo4,dI qa4,dI qb4],dI (zaR s)]),(18,.s s),(19,.tup [.agg [.s no4,.s nt4,dI nn4,dI nm4,.sh 1 (nl4.map D.s),.sh 3 (ns4.map MatD.d),.sh 7 (Nd.ds nk4),dI qo4,dI qa4,dI qb4],dI (zaR s)]),(20,.agg [.s no4,.s nt4,dI nn4,dI nm4,.sh 1 (nl4.map D.s),.sh 3 (ns4.map MatD.d),.sh 7 (Nd.ds nk4),dI qo4,dI qa4,dI qb4]),(21,dI (zaR s)),(22,.tup [.agg [.s no6,.s nt6,dI nn6,dI nm6,.sh 1 (nl6.map D.s),.sh 3 (ns6.map MatD.d),.sh 7 (Nd.ds nk6),dI qo6,dI qa6,dI qb6],dI (zaR s)]),(23,.s s),(24,.tup [.agg [.s no6,.s nt6,dI nn6,dI nm6,.sh 1 (nl6.map D.s),.sh 3 (ns6.map MatD.d),.sh 7 (Nd.ds nk6),dI qo6,dI qa6,dI qb6],dI (zaR s)]),(25,.agg [.s no6,.s nt6,dI nn6,dI nm6,.sh 1 (nl6.map D.s),.sh 3 (ns6.map MatD.d),.sh 7 (Nd.ds nk6),dI qo6,dI qa6,dI qb6]),(26,dI (zaR s)),(27,dI (zaR s)),(28,dI (zaR s)),(29,dB (decide ((zaR s)≠(zaR s)))),(30,.sh 1 (kwW.map D.s)),(31,dN kwW.length),(32,dI 0)] ⟨sk O,sk O,sk O,sk O,sk O,sk O,sk O,sk O,sk O,sk O,sk O,sk O,sk O,sk O,sk O,sk O,sk O,sk O,sk O,sk O,sc O (Cv.eq O),sc O (Cv.eq O),sk O,trivial⟩ ?_
       refine tl1 (fun (a_:Nat)=>[(0,.s s),(3,dP g5 0),(4,dI (zaR s)),(5,dP g7 0),(6,dI (zaR s)),(30,.sh 1 (kwW.map D.s)),(31,dN kwW.length),(32,dN a_)]) (fun a_=>[.bx g7 29 (.agg [.s no6,.s nt6,dI nn6,dI nm6,.sh 1 (nl6.map D.s),.sh 3 (ns6.map MatD.d),.sh 7 (Nd.ds nk6),dI qo6,dI qa6,dI qb6]),.bx g5 29 (.agg [.s no4,.s nt4,dI nn4,dI nm4,.sh 1 (nl4.map D.s),.sh 3 (ns4.map MatD.d),.sh 7 (Nd.ds nk4),dI qo4,dI qa4,dI qb4]),HPow,HErr ev,HSyn es]) (fun a_=>(a_≤kwW.length)) (fun a_=>kwW.length-a_) 0 O (sa O) HSub.rfl' (Nat.zero_le _) ?_
       rintro k hk
       refine g' 6 O ?_
       refine tD O (fun hc9=>?_) (fun hc9=>?_)
       · skip
         refine g' 6 O ?_
         obtain ⟨x1,hx1⟩:=zN kwW k (by omega)
         refine tP O (zr (k:=k) O O Tryz.runUnderlying23 Tryz.sizeOf9 (by first | rfl | omega) (zI hx1)) (g' 10 O ?_)
         refine tAnd 3 2 (c:=decide ((zaR s)≠(2:Int))) O O O O O O (fun hb10 nx11=>?_) ?_
         · skip
           have hf12:=of_decide_eq_true hb10
           refine g' 2 O ?_
           exact nx11 _ O O (kx 2 O O)
         refine g' 2 O ?_
         refine tC O (fun hc13=>?_) (fun hc13=>?_)
         · simp only[bX,bJ] at hc13
           exfalso;exact hc13.2 (by rw[hc13.1];exact kw_read (List.mem_of_getElem? hx1))
         · simp only[bX,bJ] at hc13
           refine g' 4 O (tP O (zy (c:=((k+1:Nat):Int)) O O (zn (by omega) (by omega))) (g' 2 O ?_))
           exact tp1 (k+1) (sa O) HSub.rfl' (by omega) (by omega)
       · skip
         refine g' 10 O ?_
         refine tOr 2 5 (c:=((Nd.mk no4 nt4 nn4 nm4 nl4 ns4 nk4).eqB (Nd.mk no6 nt6 nn6 nm6 nl6 ns6 nk6))) O O O O O O (fun hb14 nx15=>?_) ?_
         · skip
           have hf16:=of_decide_eq_false hb14
           refine gQ 4 [1,0] O O (tW O acs (pSame_c (Nd.mk no4 nt4 nn4 nm4 nl4 ns4 nk4) (Nd.mk no6 nt6 nn6 nm6 nl6 ns6 nk6)) ?_)
           exact nx15 _ O O (kx 5 O O)
         refine g' 4 O (T.front 4 O (T.front 4 O (T.front 4 O ?_)))
         exact tRs rfl Tryz.results11 (.cons (zd (zc rfl) (cB ((by have he:=e4.trans e6.symm;injection he with i1 i2 i3 i4;rw[eqB_is.2 i1,Bool.or_true])))) .nil) rfl (HSub.fst 3 rfl) ⟨rfl,rfl⟩
end Lp
