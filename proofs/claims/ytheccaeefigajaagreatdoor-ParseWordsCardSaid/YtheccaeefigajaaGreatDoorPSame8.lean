import Derived.Test.YtheccaeefigajaaGreatDoorV52
set_option linter.unusedSimpArgs false
set_option linter.unusedVariables false
set_option maxHeartbeats 4000000
set_option maxRecDepth 100000
namespace Lp
open Go Go.RowKit Go.Proofs
theorem bd_106:BdP Tryz.prog #[⟨"l",67,0,false, "", "leporello/leporelloref7",0⟩,⟨"nodes",3,1,false, "", "leporello/leporelloref7",24⟩,⟨"bad",4,2,false, "", "leporello/leporelloref7",32⟩] [(0,1),(1,1),(2,1)]:=fun _=>by kernel_rfl
theorem ofT_lv (t:ByteArray):(ofT t=0↔hasN [tEqq,tNe,tLt,tLe,tGt,tGe] t=true)∧(ofT t=1↔hasN [zda,zaE] t=true)∧(ofT t=2↔hasN [zbO,zex,tMod] t=true):=by
 have key:∀ x∈[tEqq,tNe,tLt,tLe,tGt,tGe,zda,zaE,zbO,zex,tMod],(ofT x=0↔hasN [tEqq,tNe,tLt,tLe,tGt,tGe] x=true)∧(ofT x=1↔hasN [zda,zaE] x=true)∧(ofT x=2↔hasN [zbO,zex,tMod] x=true):=by decide+kernel
 by_cases h:t∈[tEqq,tNe,tLt,tLe,tGt,tGe,zda,zaE,zbO,zex,tMod]
 · exact key t h
 · simp only[List.mem_cons,List.not_mem_nil,or_false,not_or] at h
   obtain ⟨h1,h2,h3,h4,h5,h6,h7,h8,h9,h10,h11⟩:=h
   have n0:hasN [tEqq,tNe,tLt,tLe,tGt,tGe] t=false:=by simp[hasN,Ne.symm h1,Ne.symm h2,Ne.symm h3,Ne.symm h4,Ne.symm h5,Ne.symm h6]
   have n1:hasN [zda,zaE] t=false:=by simp[hasN,Ne.symm h7,Ne.symm h8]
   have n2:hasN [zbO,zex,tMod] t=false:=by simp[hasN,Ne.symm h9,Ne.symm h10,Ne.symm h11]
   have n3:ofT t= -1:=by unfold ofT;rw[n0,if_neg (by decide),if_neg (by simp[h7,h8]),if_neg (by simp[h9,h10,h11])]
   rw[n0,n1,n2,n3];decide
theorem chain3_c (L:Nat) (ex:Rd→Nd×Rd) (hex:zba 89 [dI 0] L ex) (hst:∀ s,Sk 1 s (ex s).2):zba 89 [dI 3] (L+1) (fun s=>zaV rmD ex (s.l.length+1) s):=fun g s hL hw hn hT=>chain3_s g s 3 (L+1) (fun s=>zaV rmD ex (s.l.length+1) s) rfl (unary7_c L ex hex hst) (fun s=>zck hst _ s) hL hw hn hT
theorem chain2_c (L:Nat) (ex:Rd→Nd×Rd) (hex:zba 89 [dI 0] L ex) (hst:∀ s,Sk 1 s (ex s).2):zba 89 [dI 2] (L+1) (prod7 rmD ex):=fun g s hL hw hn hT=>chain7_s g s 2 [zbO,zex,tMod] (L+1) _ (by decide) (fun t=>(ofT_lv t).2.2) (chain3_c L ex hex hst) (fun s=>zck hst _ s) hL hw hn hT
theorem chain1_c (L:Nat) (ex:Rd→Nd×Rd) (hex:zba 89 [dI 0] L ex) (hst:∀ s,Sk 1 s (ex s).2):zba 89 [dI 1] (L+1) (sum7 rmD ex):=fun g s hL hw hn hT=>chain7_s g s 1 [zda,zaE] (L+1) _ (by decide) (fun t=>(ofT_lv t).2.1) (chain2_c L ex hex hst) (fun s=>prod7_sk hst s) hL hw hn hT
theorem chain0_c (L:Nat) (ex:Rd→Nd×Rd) (hex:zba 89 [dI 0] L ex) (hst:∀ s,Sk 1 s (ex s).2):zba 89 [dI 0] (L+1) (fun s=>s.level7 (sum7 rmD ex) [tEqq,tNe,tLt,tLe,tGt,tGe]):=fun g s hL hw hn hT=>chain7_s g s 0 [tEqq,tNe,tLt,tLe,tGt,tGe] (L+1) _ (by decide) (fun t=>(ofT_lv t).1) (chain1_c L ex hex hst) (fun s=>sum7_sk hst s) hL hw hn hT
theorem exprOk7:∀ f:Nat,zba 89 [dI 0] f (zd9 rmD f)
 | 0=>fun g s h=>absurd h (by omega)
 | f+1=>chain0_c f (zd9 rmD f) (exprOk7 f) (fun s=>zcp f s)
section
variable {s:ByteArray} {z y u s1 s2 s3 s4:Rd} {n:Nd} {o a b:Int} {c t w:ByteArray}
theorem order7_e (e:(o,s1)=y.order7):Stp 0 y s1:=by have h:=(order7_sk (s:=y)).p;rw[←e] at h;exact h
theorem bound7_e (e:(o,s1)=y.bound7 w):Stp 0 y s1:=by have h:=(zcS (s:=y) (w:=w)).p;rw[←e] at h;exact h
theorem order7_n (h:¬y.is7 1 zbV=true):(0,y)=y.order7:=by unfold Rd.order7;rw[if_neg h]
theorem order7_a (h:y.is7 1 zbV=true) (e1:s1=y.tl) (e2:(c,s2)=s1.any 1) (hc:c=tAsc):(1,s2)=y.order7:=by unfold Rd.order7;rw[if_pos h];simp only;rw[←e1,←e2];simp only;rw[if_pos hc]
theorem order7_d (h:y.is7 1 zbV=true) (e1:s1=y.tl) (e2:(c,s2)=s1.any 1) (hc:¬c=tAsc) (hd:c=zdo):(2,s2)=y.order7:=by unfold Rd.order7;rw[if_pos h];simp only;rw[←e1,←e2];simp only;rw[if_neg hc,if_pos hd]
theorem order7_x (h:y.is7 1 zbV=true) (e1:s1=y.tl) (e2:(c,s2)=s1.any 1) (hc:¬c=tAsc) (hd:¬c=zdo):(0,(⟨s2.l,s2.n,true⟩:Rd))=y.order7:=by
 unfold Rd.order7;rw[if_pos h];simp only;rw[←e1,←e2];simp only;rw[if_neg hc,if_neg hd];unfold Rd.bd;rw[Bool.or_true]
theorem bound7_n (h:¬y.is7 1 w=true):(-1,y)=y.bound7 w:=by unfold Rd.bound7;rw[if_neg h]
theorem bound7_y (h:y.is7 1 w=true) (e1:s1=y.tl) (e2:(t,s2)=s1.any 2):(numV t,s2)=y.bound7 w:=by unfold Rd.bound7;rw[if_pos h,←e1];exact number_of e2
theorem read7_of (e0:z=⟨lexL s,0,false⟩) (e1:(n,s1)=zd9 rmD ((lexL s).length+1) z) (e2:(o,s2)=s1.order7) (e3:(a,s3)=s2.bound7 zcX) (e4:(b,s4)=s3.bound7 zcr):
 zcZ rmD (lexL s)=if s4.b=true∨0<s4.l.length∨200<s4.n∨2000<a∨2000<b then none else some ⟨n,o,a,b⟩:=by
 rw[←parse7_eq (by decide) (lexL s)];unfold parse7;simp only
 rw[←e0,←e1];simp only
 rw[←e2];simp only
 rw[←e3];simp only
 rw[←e4]
end
theorem Read7_c (s:ByteArray) (hs:s.size≤1000000):
 CD Tryz.prog 28 [] [.s s] (QdR (zdQ s) (zaR s) []):=by
 refine tZ Tryz.func28 O O (fun C=>?_)
 refine T.bd 0 O (fun bd0=>?_)
 have sz0:s.size≤9223372036854775807:=bd0
 refine g' 2 O ?_
 refine tA O (fun g1=>?_)
 refine g' 6 O (tX [] O O acs (rWords_c s) ?_)
 rintro _ _ ⟨v2,rfl,rfl⟩
 refine g' 14 O ?_
 refine tD O (fun hc3=>?_) (fun hc3=>?_)
 · skip
   obtain ⟨hre,hrq⟩:=read_lex (s:=s) hc3
   refine g' 2 O (tP O (zf [] [] (zv:=(.agg #[(.string ByteArray.empty),(.string ByteArray.empty),(.int .i64 0),(.int .i64 0),(.slice none 0 0),(.slice none 0 0),(.slice none 0 0),(.int .i64 0),(.int .i64 0),(.int .i64 0)])) O O (.nil) (Tryz.runUnderlying29) Tryz.zeroValue29 zfk ⟨O,O,O,O,O,O,O,O,O,O,trivial⟩ O) (gQ 7 [1] O O ?_))
   exact tRs O Tryz.results28 (.cons (zd (zh (X:=.agg [.v (.string ByteArray.empty),.v (.string ByteArray.empty),dI 0,dI 0,dZ,dZ,dZ,dI 0,dI 0,dI 0]) (d:=.agg [.v (.string ByteArray.empty),.v (.string ByteArray.empty),dI 0,dI 0,dZ,dZ,dZ,dI 0,dI 0,dI 0]) (i:=1) O O Tryz.isAgg29 Tryz.sizeOf29 O O) (Cv.agg (.cons cS (.cons cS (gc (gc (.cons Cv.nil (.cons Cv.nil (.cons Cv.nil (gc (gc (gc .nil)))))))))))) (.cons (zd (zc O) (Cv.eq (congrArg dI hre))) .nil)) O HSub.none ⟨ByteArray.empty,ByteArray.empty,0,0,[],[],[],0,0,0,hrq,O,O⟩
 · skip
   have hE:lexE s=0:=by simpa using hc3
   have hsz:=(ze5 hE).1
   have hll:=lexL_len s
   refine g' 3 O (T.mv (Mv.freeze (K':=[(0,.s s),(2,dP g1 0),(3,dI 0),(4,.sh 3 ((lexL s).map TokD.d)),(5,dI (lexE s)),(8,.tup [.sh 3 ((lexL s).map TokD.d),dI (lexE s)]),(9,.s s),(10,.tup [.sh 3 ((lexL s).map TokD.d),dI (lexE s)]),(11,.sh 3 ((lexL s).map TokD.d)),(12,dI (lexE s)),(13,dI (lexE s)),(14,dB (decide (lexE s≠(0:Int))))]) [.sl v2 3 135 ((lexL s).map TokD.d)] (H1:=[.bx g1 29 (.agg [.v (.string ByteArray.empty),.v (.string ByteArray.empty),dI 0,dI 0,dZ,dZ,dZ,dI 0,dI 0,dI 0])]) (H1':=[.bx g1 29 (.agg [.v (.string ByteArray.empty),.v (.string ByteArray.empty),dI 0,dI 0,dZ,dZ,dZ,dI 0,dI 0,dI 0])]) ⟨⟨_,O,ArgC.id⟩,⟨_,O,ArgC.id⟩,⟨_,O,ArgC.id⟩,⟨_,O,ArgC.own (j:=0) O O⟩,⟨_,O,ArgC.id⟩,⟨_,O,ArgC.tup (.cons (ArgC.own (j:=0) O O) (ga .nil))⟩,⟨_,O,ArgC.id⟩,⟨_,O,ArgC.tup (.cons (ArgC.own (j:=0) O O) (ga .nil))⟩,⟨_,O,ArgC.own (j:=0) O O⟩,⟨_,O,ArgC.id⟩,⟨_,O,ArgC.id⟩,⟨_,O,ArgC.id⟩,trivial⟩ (.same .nil)) (g' 2 O ?_))
   refine tP O (zf [0] [.tmp 17] (zv:=(.agg #[(.slice none 0 0),(.int .i64 0),(.bool false)])) O O (.cons CellD.sh .nil) (Tryz.runUnderlying106) Tryz.zeroValue106 bd_106 ⟨O,O,O,trivial⟩ O) ?_
   refine tA O (fun g4=>?_)
   refine g' 4 O ?_
   obtain ⟨s5,e5⟩:∃ x:Rd,x=⟨lexL s,0,false⟩:=⟨_,rfl⟩
   have hl5:s5.l=lexL s:=by rw[e5]
   have hn5:s5.n=0:=by rw[e5]
   have hT5:TOk s5.l:=by rw[hl5];exact lexL_tok s
   have hk5:s5.l.length=(lexL s).length:=by rw[hl5]
   refine T.norm [RB7 g4 s5,.bx g1 29 (.agg [.v (.string ByteArray.empty),.v (.string ByteArray.empty),dI 0,dI 0,dZ,dZ,dZ,dI 0,dI 0,dI 0])] (by rw[e5]<;>rfl) (g' 1 O (tP O (zf [2,3] [.const (.int .i64 (-1)),.const (.int .i64 (-1))] (zv:=(.agg #[(.string ByteArray.empty),(.string ByteArray.empty),(.int .i64 0),(.int .i64 0),(.slice none 0 0),(.slice none 0 0),(.slice none 0 0),(.int .i64 0),(.int .i64 0),(.int .i64 0)])) O O (.cons (CellD.v O) (.cons (CellD.v O) .nil)) (Tryz.runUnderlying29) Tryz.zeroValue29 zfk ⟨O,O,O,O,O,O,O,O,O,O,trivial⟩ O) ?_))
   refine tA O (fun g6=>?_)
   refine gQ 6 [0] O O (tX [1] O O acs (exprOk7 ((lexL s).length+1) g4 s5 (by omega) (by omega) (by omega) hT5) ?_)
   rintro _ _ ⟨no7,nt7,nn7,nm7,nl7,ns7,nk7,s7,e7,rfl,rfl⟩
   obtain ⟨ka7,kb7,kc7,hT7⟩:=(nd_e e7 ((zcp _ s5).p)).out hT5
   refine gQ 5 [1] O O (T.front 1 O (T.subH (HSub.turn (h':=.bx g6 29 (.agg [.s no7,.s nt7,dI nn7,dI nm7,.sh 1 (nl7.map D.s),.sh 3 (ns7.map MatD.d),.sh 7 (Nd.ds nk7),dI 0,dI (-1),dI (-1)])) O (Hp.cv_bx (Cv.agg (gc (gc (gc (gc (gc (gc (gc (gc (gc (gc .nil))))))))))))) ?_))
   refine tJ (fun (jg:Int×Rd)=>[(2,dP g1 0),(3,dI 0),(6,dP g4 0),(7,dP g6 0)]) (fun (jg:Int×Rd)=>[.bx g6 29 (.agg [.s no7,.s nt7,dI nn7,dI nm7,.sh 1 (nl7.map D.s),.sh 3 (ns7.map MatD.d),.sh 7 (Nd.ds nk7),dI jg.1,dI (-1),dI (-1)]),.bx g4 106 (.agg [.sh 3 (jg.2.l.map TokD.d),dI jg.2.n,dB jg.2.b]),.bx g1 29 (.agg [.v (.string ByteArray.empty),.v (.string ByteArray.empty),dI 0,dI 0,dZ,dZ,dZ,dI 0,dI 0,dI 0])]) (fun (jg:Int×Rd)=>((jg.1,jg.2)=s7.order7)) (fun _ hQ8=>?_) ?_
   · skip
     refine g' 3 O (tX [1] O O (ga (ga (.cons (ArgC.cv cS) .nil))) (zcK g4 s7 1 (⟨#[111,114,100,101,114]⟩:ByteArray) (by omega) (by omega) hT7 (by decide)) ?_)
     rintro _ _ ⟨rfl,rfl⟩
     refine g' 2 O ?_
     refine tC O (fun hc10=>?_) (fun hc10=>?_)
     · skip
       have hml:=zek hc10 (by decide)
       refine gQ 7 [0] O O (tP O ((za8 (a:=1) (b:=s7.l.length) O O O (by first | rfl | (show _=_;(try simp only[lm]);omega) | exact List.length_map _) (by first | rfl | (show _=_;(try simp only[lm]);omega) | exact List.length_map _) Tryz.runUnderlying67 Tryz.sizeOf135 (by omega) (by simp only[lm];omega)).cv (Cv.eq (by rw[←List.map_take,←List.map_drop]))) (gQ 6 [0] O O ?_))
       obtain ⟨s11,e11⟩:∃ x:Rd,x=⟨((s7.l.take s7.l.length).drop 1),s7.n,s7.b⟩:=⟨_,rfl⟩
       refine T.norm [RB7 g4 s11,.bx g6 29 (.agg [.s no7,.s nt7,dI nn7,dI nm7,.sh 1 (nl7.map D.s),.sh 3 (ns7.map MatD.d),.sh 7 (Nd.ds nk7),dI 0,dI (-1),dI (-1)]),.bx g1 29 (.agg [.v (.string ByteArray.empty),.v (.string ByteArray.empty),dI 0,dI 0,dZ,dZ,dZ,dI 0,dI 0,dI 0])] (by rw[e11]<;>rfl) ?_
       obtain ⟨hq11,ka11,kb11,kc11,hT11⟩:=tl_e e11 hml hT7
       refine g' 2 O (tX [0] O O acs (zb6 g4 s11 1 (by omega) (by omega) hT11 (by decide)) ?_)
       rintro _ _ ⟨t12,s12,e12,rfl,rfl⟩
       obtain ⟨ka12,kb12,kc12,hT12⟩:=(zch e12).out hT11
       have kz12:=zcg e12 hT11
       refine g' 9 O ?_
       refine tD O (fun hc13=>?_) (fun hc13=>?_)
       · skip
         refine gQ 5 [1] O O (T.front 2 O (T.front 1 O (T.front 2 O ?_)))
         exact tqe (hQ8 (1,s12) (order7_a hc10 hq11 e12 hc13)) O
       · skip
         refine g' 6 O ?_
         refine tD O (fun hc14=>?_) (fun hc14=>?_)
         · skip
           refine gQ 5 [1] O O (T.front 2 O (T.front 1 O (T.front 2 O ?_)))
           exact tqe (hQ8 (2,s12) (order7_d hc10 hq11 e12 hc13 hc14)) O
         · skip
           refine gQ 7 [0] O O (T.front 2 O (T.front 1 O (T.front 2 O ?_)))
           exact tqe (hQ8 (0,(⟨s12.l,s12.n,true⟩:Rd)) (order7_x hc10 hq11 e12 hc13 hc14)) O
     · skip
       refine g' 1 O (T.front 2 O (T.front 1 O (T.front 2 O ?_)))
       exact tqe (hQ8 (0,s7) (order7_n (by simpa using hc10))) O
   · skip
     rintro ⟨o,y⟩ hor
     replace hor:(o,y)=s7.order7:=hor
     refine T.kk [(2,dP g1 0),(3,dI 0),(6,dP g4 0),(7,dP g6 0)] O (T.norm [.bx g6 29 (.agg [.s no7,.s nt7,dI nn7,dI nm7,.sh 1 (nl7.map D.s),.sh 3 (ns7.map MatD.d),.sh 7 (Nd.ds nk7),dI o,dI (-1),dI (-1)]),RB7 g4 y,.bx g1 29 (.agg [.v (.string ByteArray.empty),.v (.string ByteArray.empty),dI 0,dI 0,dZ,dZ,dZ,dI 0,dI 0,dI 0])] (by rfl) (g' 2 O ?_))
     obtain ⟨kx1,ky1,kz1,hTj1⟩:=(order7_e hor).out hT7
     refine tJ (fun (jg:Int×Rd)=>[(2,dP g1 0),(3,dI 0),(6,dP g4 0),(7,dP g6 0)]) (fun (jg:Int×Rd)=>[.bx g6 29 (.agg [.s no7,.s nt7,dI nn7,dI nm7,.sh 1 (nl7.map D.s),.sh 3 (ns7.map MatD.d),.sh 7 (Nd.ds nk7),dI o,dI jg.1,dI (-1)]),.bx g4 106 (.agg [.sh 3 (jg.2.l.map TokD.d),dI jg.2.n,dB jg.2.b]),.bx g1 29 (.agg [.v (.string ByteArray.empty),.v (.string ByteArray.empty),dI 0,dI 0,dZ,dZ,dZ,dI 0,dI 0,dI 0])]) (fun (jg:Int×Rd)=>((jg.1,jg.2)=y.bound7 zcX)) (fun _ hQ15=>?_) ?_
     · skip
       refine g' 3 O (tX [1] O O (ga (ga (.cons (ArgC.cv cS) .nil))) (zcK g4 y 1 (⟨#[108,105,109,105,116]⟩:ByteArray) (by omega) (by omega) hTj1 (by decide)) ?_)
       rintro _ _ ⟨rfl,rfl⟩
       refine g' 2 O ?_
       refine tC O (fun hc17=>?_) (fun hc17=>?_)
       · skip
         have hml:=zek hc17 (by decide)
         refine gQ 7 [0] O O (tP O ((za8 (a:=1) (b:=y.l.length) O O O (by first | rfl | (show _=_;(try simp only[lm]);omega) | exact List.length_map _) (by first | rfl | (show _=_;(try simp only[lm]);omega) | exact List.length_map _) Tryz.runUnderlying67 Tryz.sizeOf135 (by omega) (by simp only[lm];omega)).cv (Cv.eq (by rw[←List.map_take,←List.map_drop]))) (gQ 5 [0] O O ?_))
         obtain ⟨s18,e18⟩:∃ x:Rd,x=⟨((y.l.take y.l.length).drop 1),y.n,y.b⟩:=⟨_,rfl⟩
         refine T.norm [RB7 g4 s18,.bx g6 29 (.agg [.s no7,.s nt7,dI nn7,dI nm7,.sh 1 (nl7.map D.s),.sh 3 (ns7.map MatD.d),.sh 7 (Nd.ds nk7),dI o,dI (-1),dI (-1)]),.bx g1 29 (.agg [.v (.string ByteArray.empty),.v (.string ByteArray.empty),dI 0,dI 0,dZ,dZ,dZ,dI 0,dI 0,dI 0])] (by rw[e18]<;>rfl) ?_
         obtain ⟨hq18,ka18,kb18,kc18,hT18⟩:=tl_e e18 hml hTj1
         refine g' 2 O (tX [0] O O acs (zb6 g4 s18 2 (by omega) (by omega) hT18 (by decide)) ?_)
         rintro _ _ ⟨t19,s19,e19,rfl,rfl⟩
         obtain ⟨ka19,kb19,kc19,hT19⟩:=(zch e19).out hT18
         have kz19:=zcg e19 hT18
         have hvd:DigO t19:=zeo e19 (by decide) hT18
         refine tW O acs (zdX t19 (by omega) hvd) (gQ 3 [1] O O (T.front 2 O (T.front 1 O (T.front 2 O ?_))))
         exact tqe (hQ15 (numV t19,s19) (bound7_y hc17 hq18 e19)) O
       · skip
         refine g' 1 O (T.front 2 O (T.front 1 O (T.front 2 O ?_)))
         exact tqe (hQ15 ((-1),y) (bound7_n (by simpa using hc17))) O
     · skip
       rintro ⟨a,v⟩ hb1
       replace hb1:(a,v)=y.bound7 zcX:=hb1
       refine T.kk [(2,dP g1 0),(3,dI 0),(6,dP g4 0),(7,dP g6 0)] O (T.norm [.bx g6 29 (.agg [.s no7,.s nt7,dI nn7,dI nm7,.sh 1 (nl7.map D.s),.sh 3 (ns7.map MatD.d),.sh 7 (Nd.ds nk7),dI o,dI a,dI (-1)]),RB7 g4 v,.bx g1 29 (.agg [.v (.string ByteArray.empty),.v (.string ByteArray.empty),dI 0,dI 0,dZ,dZ,dZ,dI 0,dI 0,dI 0])] (by rfl) (g' 2 O ?_))
       obtain ⟨kx2,ky2,kz2,hTj2⟩:=(bound7_e hb1).out hTj1
       refine tJ (fun (jg:Int×Rd)=>[(2,dP g1 0),(3,dI 0),(6,dP g4 0),(7,dP g6 0)]) (fun (jg:Int×Rd)=>[.bx g6 29 (.agg [.s no7,.s nt7,dI nn7,dI nm7,.sh 1 (nl7.map D.s),.sh 3 (ns7.map MatD.d),.sh 7 (Nd.ds nk7),dI o,dI a,dI jg.1]),.bx g4 106 (.agg [.sh 3 (jg.2.l.map TokD.d),dI jg.2.n,dB jg.2.b]),.bx g1 29 (.agg [.v (.string ByteArray.empty),.v (.string ByteArray.empty),dI 0,dI 0,dZ,dZ,dZ,dI 0,dI 0,dI 0])]) (fun (jg:Int×Rd)=>((jg.1,jg.2)=v.bound7 zcr)) (fun _ hQ20=>?_) ?_
       · skip
         refine g' 3 O (tX [1] O O (ga (ga (.cons (ArgC.cv cS) .nil))) (zcK g4 v 1 (⟨#[111,102,102,115,101,116]⟩:ByteArray) (by omega) (by omega) hTj2 (by decide)) ?_)
         rintro _ _ ⟨rfl,rfl⟩
         refine g' 2 O ?_
         refine tC O (fun hc22=>?_) (fun hc22=>?_)
         · skip
           have hml:=zek hc22 (by decide)
           refine gQ 7 [0] O O (tP O ((za8 (a:=1) (b:=v.l.length) O O O (by first | rfl | (show _=_;(try simp only[lm]);omega) | exact List.length_map _) (by first | rfl | (show _=_;(try simp only[lm]);omega) | exact List.length_map _) Tryz.runUnderlying67 Tryz.sizeOf135 (by omega) (by simp only[lm];omega)).cv (Cv.eq (by rw[←List.map_take,←List.map_drop]))) (gQ 5 [0] O O ?_))
           obtain ⟨s23,e23⟩:∃ x:Rd,x=⟨((v.l.take v.l.length).drop 1),v.n,v.b⟩:=⟨_,rfl⟩
           refine T.norm [RB7 g4 s23,.bx g6 29 (.agg [.s no7,.s nt7,dI nn7,dI nm7,.sh 1 (nl7.map D.s),.sh 3 (ns7.map MatD.d),.sh 7 (Nd.ds nk7),dI o,dI a,dI (-1)]),.bx g1 29 (.agg [.v (.string ByteArray.empty),.v (.string ByteArray.empty),dI 0,dI 0,dZ,dZ,dZ,dI 0,dI 0,dI 0])] (by rw[e23]<;>rfl) ?_
           obtain ⟨hq23,ka23,kb23,kc23,hT23⟩:=tl_e e23 hml hTj2
           refine g' 2 O (tX [0] O O acs (zb6 g4 s23 2 (by omega) (by omega) hT23 (by decide)) ?_)
           rintro _ _ ⟨t24,s24,e24,rfl,rfl⟩
           obtain ⟨ka24,kb24,kc24,hT24⟩:=(zch e24).out hT23
           have kz24:=zcg e24 hT23
           have hvd:DigO t24:=zeo e24 (by decide) hT23
           refine tW O acs (zdX t24 (by omega) hvd) (gQ 3 [1] O O (T.front 2 O (T.front 1 O (T.front 2 O ?_))))
           exact tqe (hQ20 (numV t24,s24) (bound7_y hc22 hq23 e24)) O
         · skip
           refine g' 1 O (T.front 2 O (T.front 1 O (T.front 2 O ?_)))
           exact tqe (hQ20 ((-1),v) (bound7_n (by simpa using hc22))) O
       · skip
         rintro ⟨b,w⟩ hb2
         replace hb2:(b,w)=v.bound7 zcr:=hb2
         refine T.kk [(2,dP g1 0),(3,dI 0),(6,dP g4 0),(7,dP g6 0)] O (T.norm [.bx g6 29 (.agg [.s no7,.s nt7,dI nn7,dI nm7,.sh 1 (nl7.map D.s),.sh 3 (ns7.map MatD.d),.sh 7 (Nd.ds nk7),dI o,dI a,dI b]),RB7 g4 w,.bx g1 29 (.agg [.v (.string ByteArray.empty),.v (.string ByteArray.empty),dI 0,dI 0,dZ,dZ,dZ,dI 0,dI 0,dI 0])] (by rfl) (g' 3 O ?_))
         obtain ⟨kx3,ky3,kz3,hTj3⟩:=(bound7_e hb2).out hTj2
         have hrd:=read7_of e5 e7 hor hb1 hb2
         refine gQ 6 [1] O O ?_
         refine tOr 4 6 (c:=decide ((0:Int)<((w.l.length:Nat):Int))) O O O O O O (fun hb25 nx26=>?_) ?_
         · skip
           refine gQ 4 [1] O O (tG O (z8 (n:=w.l.length) O Tryz.runUnderlying67 (by simp only[lm,lc,ln])) (g' 1 O ?_))
           exact nx26 _ O O (kx 6 O O)
         refine g' 1 O ?_
         refine tOr 12 5 (c:=decide ((200:Int)<w.n)) O O O O O O (fun hb27 nx28=>?_) ?_
         · skip
           obtain ⟨hf29,hf30⟩:=orF hb27
           have hf31:=of_decide_eq_false hf30
           refine gQ 5 [1] O O ?_
           exact nx28 _ O O (kx 5 O O)
         refine g' 1 O ?_
         refine tOr 19 3 (c:=decide ((2000:Int)<a)) O O O O O O (fun hb32 nx33=>?_) ?_
         · skip
           obtain ⟨hf34,hf35⟩:=orF hb32
           obtain ⟨hf36,hf37⟩:=orF hf34
           have hf38:=of_decide_eq_false hf37
           have hf39:=of_decide_eq_false hf35
           refine gQ 3 [0] O O ?_
           exact nx33 _ O O (kx 3 O O)
         refine g' 1 O ?_
         refine tOr 24 3 (c:=decide ((2000:Int)<b)) O O O O O O (fun hb40 nx41=>?_) ?_
         · skip
           obtain ⟨hf42,hf43⟩:=orF hb40
           obtain ⟨hf44,hf45⟩:=orF hf42
           obtain ⟨hf46,hf47⟩:=orF hf44
           have hf48:=of_decide_eq_false hf47
           have hf49:=of_decide_eq_false hf45
           have hf50:=of_decide_eq_false hf43
           refine gQ 3 [0] O O ?_
           exact nx41 _ O O (kx 3 O O)
         refine g' 2 O ?_
         refine tC O (fun hc51=>?_) (fun hc51=>?_)
         · simp only[bX,bJ] at hc51
           rw[if_pos (by have h:=hc51;rcases h with (((h | h) | h) | h) | h;exact .inl h;exact .inr (.inl (by omega));exact .inr (.inr (.inl h));exact .inr (.inr (.inr (.inl h)));exact .inr (.inr (.inr (.inr h))))] at hrd
           obtain ⟨hre,hrq⟩:=read_no hE hrd
           refine g' 2 O (tP O (zf [] [] (zv:=(.agg #[(.string ByteArray.empty),(.string ByteArray.empty),(.int .i64 0),(.int .i64 0),(.slice none 0 0),(.slice none 0 0),(.slice none 0 0),(.int .i64 0),(.int .i64 0),(.int .i64 0)])) O O (.nil) (Tryz.runUnderlying29) Tryz.zeroValue29 zfk ⟨O,O,O,O,O,O,O,O,O,O,trivial⟩ O) (gQ 6 [2] O O ?_))
           exact tRs O Tryz.results28 (.cons (zd (zh (X:=.agg [.v (.string ByteArray.empty),.v (.string ByteArray.empty),dI 0,dI 0,dZ,dZ,dZ,dI 0,dI 0,dI 0]) (d:=.agg [.v (.string ByteArray.empty),.v (.string ByteArray.empty),dI 0,dI 0,dZ,dZ,dZ,dI 0,dI 0,dI 0]) (i:=2) O O Tryz.isAgg29 Tryz.sizeOf29 O O) (Cv.agg (.cons cS (.cons cS (gc (gc (.cons Cv.nil (.cons Cv.nil (.cons Cv.nil (gc (gc (gc .nil)))))))))))) (.cons (zd (zc O) (Cv.eq (congrArg dI hre))) .nil)) O HSub.none ⟨ByteArray.empty,ByteArray.empty,0,0,[],[],[],0,0,0,hrq,O,O⟩
         · simp only[bX,bJ] at hc51
           rw[if_neg (by have h:=hc51;rintro (k | k);(rw[h.1.1.1.1] at k;cases k);omega)] at hrd
           obtain ⟨hre,hrq⟩:=read_yes hE hrd
           refine gQ 10 [0,2] O O ?_
           exact tRs O Tryz.results28 (.cons (zh (i:=2) O O Tryz.isAgg29 Tryz.sizeOf29 O O) (.cons (zd (zc O) (Cv.eq (congrArg dI hre))) .nil)) O HSub.none ⟨no7,nt7,nn7,nm7,nl7,ns7,nk7,o,a,b,hrq,O,O⟩
end Lp
set_option linter.unusedSimpArgs false
set_option linter.unusedVariables false
set_option maxHeartbeats 4000000
set_option maxRecDepth 100000
namespace Lp
open Go Go.RowKit Go.Proofs
theorem bd_113:BdP Tryz.prog #[⟨"n",3,0,false, "", "leporello/parse",0⟩] [(0,1)]:=fun _=>by kernel_rfl
theorem bd_116:BdP Tryz.prog #[⟨"kid",27,0,false, "", "leporello/parse",0⟩] [(0,7)]:=fun _=>by kernel_rfl
theorem bd_119:BdP Tryz.prog #[⟨"n",27,0,false, "", "leporello/parse",0⟩] [(0,7)]:=fun _=>by kernel_rfl
abbrev PrT (t:ByteArray):D→List Hp→Prop:=fun r H'=>r=.s t∧H'=[HPow]
theorem lift_num (text:ByteArray) (n:Nat) (mode:Int) (names:List ByteArray) (ms:List MatD) :
 CD Tryz.prog 98 [] [.agg [.s (⟨#[110,117,109]⟩:ByteArray),.s text,dN n,dI mode,.sh 1 (names.map D.s),.sh 3 (ms.map MatD.d),.sh 7 []]] (isR (.ifc 113 (.agg [dN n]))):=by
 refine tZ Tryz.func98 O O (fun C=>?_)
 refine T.bd 0 O (fun bd0=>?_)
 refine g' 2 O ?_
 refine tA O (fun g1=>?_)
 refine gQ 7 [0] O O (tP O (z8 (n:=0) O Tryz.runUnderlying25 O) (gQ 9 [0] O O (tP O (zeA O O (decide_eq_true (by decide))) (gQ 8 [0] O O (tP O (zf [0] [.tmp 12] (zv:=(.agg #[(.int .i64 0)])) O O (.cons (CellD.v O) .nil) (Tryz.runUnderlying113) Tryz.zeroValue113 bd_113 ⟨O,trivial⟩ O) (g' 7 O ?_))))))
 exact tR O HSub.none ⟨O,O⟩
theorem lift_neg (text:ByteArray) (n:Nat) (mode:Int) (names:List ByteArray) (ms:List MatD) (xa xb:ByteArray) (xc xd:Int) (xe:List ByteArray) (xf:List MatD) (xg:List Nd) :
 CD Tryz.prog 98 [] [.agg [.s (⟨#[110,101,103]⟩:ByteArray),.s text,dN n,dI mode,.sh 1 (names.map D.s),.sh 3 (ms.map MatD.d),.sh 7 [.agg [.s xa,.s xb,dI xc,dI xd,.sh 1 (xe.map D.s),.sh 3 (xf.map MatD.d),.sh 7 (Nd.ds xg)]]]] (isR (.ifc 116 (.agg [.s xa,.s xb,dI xc,dI xd,.sh 1 (xe.map D.s),.sh 3 (xf.map MatD.d),.sh 7 (Nd.ds xg)]))):=by
 refine tZ Tryz.func98 O O (fun C=>?_)
 refine T.bd 0 O (fun bd0=>?_)
 refine g' 2 O ?_
 refine tA O (fun g1=>?_)
 refine gQ 7 [0] O O (tP O (z8 (n:=1) O Tryz.runUnderlying25 O) (gQ 9 [0] O O (tP O (zeA O O (decide_eq_false (by decide))) (gQ 8 [0] O O (tP O (zeA O O (decide_eq_true (by decide))) (g' 2 O (tG O (zag O O (decide_eq_true (by decide))) (gQ 9 [0] O O (tP O (zr (k:=0) O O Tryz.runUnderlying25 Tryz.sizeOf27 (by first | rfl | omega) O) (g' 1 O (tP O (zf [0] [.tmp 26] (zv:=n9) O O (.cons CellD.agg .nil) (Tryz.runUnderlying116) Tryz.zeroValue116 bd_116 ⟨O,O,O,O,O,O,O,trivial⟩ O) (g' 7 O ?_))))))))))))
 exact tR O HSub.none ⟨O,O⟩
theorem lift_bin (text:ByteArray) (n:Nat) (mode:Int) (names:List ByteArray) (ms:List MatD) (xa xb:ByteArray) (xc xd:Int) (xe:List ByteArray) (xf:List MatD) (xg:List Nd) (ya yb:ByteArray) (yc yd:Int) (ye:List ByteArray) (yf:List MatD) (yg:List Nd) :
 CD Tryz.prog 98 [] [.agg [.s (⟨#[98,105,110]⟩:ByteArray),.s text,dN n,dI mode,.sh 1 (names.map D.s),.sh 3 (ms.map MatD.d),.sh 7 [.agg [.s xa,.s xb,dI xc,dI xd,.sh 1 (xe.map D.s),.sh 3 (xf.map MatD.d),.sh 7 (Nd.ds xg)],.agg [.s ya,.s yb,dI yc,dI yd,.sh 1 (ye.map D.s),.sh 3 (yf.map MatD.d),.sh 7 (Nd.ds yg)]]]] (isR (.ifc 119 (.agg [.s (⟨#[98,105,110]⟩:ByteArray),.s text,dN n,dI mode,.sh 1 (names.map D.s),.sh 3 (ms.map MatD.d),.sh 7 [.agg [.s xa,.s xb,dI xc,dI xd,.sh 1 (xe.map D.s),.sh 3 (xf.map MatD.d),.sh 7 (Nd.ds xg)],.agg [.s ya,.s yb,dI yc,dI yd,.sh 1 (ye.map D.s),.sh 3 (yf.map MatD.d),.sh 7 (Nd.ds yg)]]]))):=by
 refine tZ Tryz.func98 O O (fun C=>?_)
 refine T.bd 0 O (fun bd0=>?_)
 refine g' 2 O ?_
 refine tA O (fun g1=>?_)
 refine gQ 7 [0] O O (tP O (z8 (n:=2) O Tryz.runUnderlying25 O) (gQ 9 [0] O O (tP O (zeA O O (decide_eq_false (by decide))) (gQ 8 [0] O O (tP O (zeA O O (decide_eq_false (by decide))) (gQ 12 [0] O O (tP O (zeA O O (decide_eq_true (by decide))) (g' 2 O (tG O (zag O O (decide_eq_true (by decide))) (gQ 8 [0] O O (tP O (zf [0] [.tmp 37] (zv:=n9) O O (.cons CellD.agg .nil) (Tryz.runUnderlying119) Tryz.zeroValue119 bd_119 ⟨O,O,O,O,O,O,O,trivial⟩ O) (g' 7 O ?_))))))))))))
 exact tR O HSub.none ⟨O,O⟩
theorem inner_num (text:ByteArray) (n:Nat) (mode:Int) (names:List ByteArray) (ms:List MatD) (t:ByteArray) (ht:t.size≤100000000) (hn:CD Tryz.prog 34 [HPow] [.agg [.s (⟨#[110,117,109]⟩:ByteArray),.s text,dN n,dI mode,.sh 1 (names.map D.s),.sh 3 (ms.map MatD.d),.sh 7 []]] (PrT t)):
 CD Tryz.prog 99 [HPow] [.agg [.s (⟨#[110,117,109]⟩:ByteArray),.s text,dN n,dI mode,.sh 1 (names.map D.s),.sh 3 (ms.map MatD.d),.sh 7 []]] (PrT (t)):=by
 refine tZ Tryz.func99 O O (fun C=>?_)
 refine T.bd 0 O (fun bd0=>?_)
 refine g' 2 O ?_
 refine tA O (fun g1=>?_)
 refine gQ 6 [0] O O (tW O acs (lift_num text n mode names ms) (g' 6 O (tP O ((zaw (zv:=n9) O (fun _ _=>by kernel_rfl)).cv (Cv.tup (.cons (Cv.vagg (by decide)) (gc .nil)))) (g' 3 O ?_))))
 refine tA O (fun g2=>?_)
 refine gQ 8 [0] O O (tP O ((zaw (zv:=n9) O (fun _ _=>by kernel_rfl)).cv (Cv.tup (.cons (Cv.vagg (by decide)) (gc .nil)))) (g' 3 O ?_))
 refine tA O (fun g3=>?_)
 refine gQ 18 [0,2] O O (tX [3] O O acs (hn) ?_)
 rintro _ _ ⟨rfl,rfl⟩
 refine g' 4 O ?_
 exact tR O (HSub.fst 1 O) ⟨O,O⟩
theorem inner_neg (text:ByteArray) (n:Nat) (mode:Int) (names:List ByteArray) (ms:List MatD) (xa xb:ByteArray) (xc xd:Int) (xe:List ByteArray) (xf:List MatD) (xg:List Nd) (t:ByteArray) (ht:t.size≤100000000) (hn:CD Tryz.prog 34 [HPow] [.agg [.s (⟨#[110,101,103]⟩:ByteArray),.s text,dN n,dI mode,.sh 1 (names.map D.s),.sh 3 (ms.map MatD.d),.sh 7 [.agg [.s xa,.s xb,dI xc,dI xd,.sh 1 (xe.map D.s),.sh 3 (xf.map MatD.d),.sh 7 (Nd.ds xg)]]]] (PrT t)):
 CD Tryz.prog 99 [HPow] [.agg [.s (⟨#[110,101,103]⟩:ByteArray),.s text,dN n,dI mode,.sh 1 (names.map D.s),.sh 3 (ms.map MatD.d),.sh 7 [.agg [.s xa,.s xb,dI xc,dI xd,.sh 1 (xe.map D.s),.sh 3 (xf.map MatD.d),.sh 7 (Nd.ds xg)]]]] (PrT (zC++t++zH)):=by
 refine tZ Tryz.func99 O O (fun C=>?_)
 refine T.bd 0 O (fun bd0=>?_)
 refine g' 2 O ?_
 refine tA O (fun g1=>?_)
 refine gQ 6 [0] O O (tW O acs (lift_neg text n mode names ms xa xb xc xd xe xf xg) (g' 6 O (tP O (zbD O (fun _ _=>by kernel_rfl)) (g' 3 O ?_))))
 refine tA O (fun g2=>?_)
 refine gQ 8 [0] O O (tP O ((zaw (zv:=n9) O (fun _ _=>by kernel_rfl)).cv (Cv.tup (.cons (Cv.vagg (by decide)) (gc .nil)))) (g' 3 O ?_))
 refine tA O (fun g3=>?_)
 refine gQ 16 [0,2] O O (tX [3] O O acs (hn) ?_)
 rintro _ _ ⟨rfl,rfl⟩
 refine tP O (zbn O O (by unfold maxLen;(try simp only[ByteArray.size_append]);(try simp only[ByteArray.size_append]);have kz:=catz;omega)) (tP O (zbn O O (by unfold maxLen;(try simp only[ByteArray.size_append]);(try simp only[ByteArray.size_append]);have kz:=catz;omega)) (g' 5 O ?_))
 exact tRs O Tryz.results99 (.cons (zd (zc O) (Cv.eq (congrArg D.s (show (((⟨#[40]⟩:ByteArray)++t)++(⟨#[41]⟩:ByteArray))=zC++t++zH from(by rfl))))) .nil) O (HSub.fst 1 O) ⟨O,O⟩
theorem inner_bin (text:ByteArray) (n:Nat) (mode:Int) (names:List ByteArray) (ms:List MatD) (xa xb:ByteArray) (xc xd:Int) (xe:List ByteArray) (xf:List MatD) (xg:List Nd) (ya yb:ByteArray) (yc yd:Int) (ye:List ByteArray) (yf:List MatD) (yg:List Nd) (t:ByteArray) (ht:t.size≤100000000) (hn:CD Tryz.prog 34 [HPow] [.agg [.s (⟨#[98,105,110]⟩:ByteArray),.s text,dN n,dI mode,.sh 1 (names.map D.s),.sh 3 (ms.map MatD.d),.sh 7 [.agg [.s xa,.s xb,dI xc,dI xd,.sh 1 (xe.map D.s),.sh 3 (xf.map MatD.d),.sh 7 (Nd.ds xg)],.agg [.s ya,.s yb,dI yc,dI yd,.sh 1 (ye.map D.s),.sh 3 (yf.map MatD.d),.sh 7 (Nd.ds yg)]]]] (PrT t)):
 CD Tryz.prog 99 [HPow] [.agg [.s (⟨#[98,105,110]⟩:ByteArray),.s text,dN n,dI mode,.sh 1 (names.map D.s),.sh 3 (ms.map MatD.d),.sh 7 [.agg [.s xa,.s xb,dI xc,dI xd,.sh 1 (xe.map D.s),.sh 3 (xf.map MatD.d),.sh 7 (Nd.ds xg)],.agg [.s ya,.s yb,dI yc,dI yd,.sh 1 (ye.map D.s),.sh 3 (yf.map MatD.d),.sh 7 (Nd.ds yg)]]]] (PrT (zC++t++zH)):=by
 refine tZ Tryz.func99 O O (fun C=>?_)
 refine T.bd 0 O (fun bd0=>?_)
 refine g' 2 O ?_
 refine tA O (fun g1=>?_)
 refine gQ 6 [0] O O (tW O acs (lift_bin text n mode names ms xa xb xc xd xe xf xg ya yb yc yd ye yf yg) (g' 6 O (tP O ((zaw (zv:=n9) O (fun _ _=>by kernel_rfl)).cv (Cv.tup (.cons (Cv.vagg (by decide)) (gc .nil)))) (g' 3 O ?_))))
 refine tA O (fun g2=>?_)
 refine gQ 8 [0] O O (tP O (zbD O (fun _ _=>by kernel_rfl)) (g' 3 O ?_))
 refine tA O (fun g3=>?_)
 refine gQ 16 [0,2] O O (tX [3] O O acs (hn) ?_)
 rintro _ _ ⟨rfl,rfl⟩
 refine tP O (zbn O O (by unfold maxLen;(try simp only[ByteArray.size_append]);(try simp only[ByteArray.size_append]);have kz:=catz;omega)) (tP O (zbn O O (by unfold maxLen;(try simp only[ByteArray.size_append]);(try simp only[ByteArray.size_append]);have kz:=catz;omega)) (g' 5 O ?_))
 exact tRs O Tryz.results99 (.cons (zd (zc O) (Cv.eq (congrArg D.s (show (((⟨#[40]⟩:ByteArray)++t)++(⟨#[41]⟩:ByteArray))=zC++t++zH from(by rfl))))) .nil) O (HSub.fst 1 O) ⟨O,O⟩
end Lp
set_option linter.unusedSimpArgs false
set_option linter.unusedVariables false
set_option maxHeartbeats 4000000
set_option maxRecDepth 100000
namespace Lp
open Go Go.RowKit Go.Proofs
theorem node_num (text:ByteArray) (n:Nat) (mode:Int) (names:List ByteArray) (ms:List MatD) (h1:n≤1000000000000):
 CD Tryz.prog 34 [HPow] [.agg [.s (⟨#[110,117,109]⟩:ByteArray),.s text,dN n,dI mode,.sh 1 (names.map D.s),.sh 3 (ms.map MatD.d),.sh 7 []]] (PrT (digB n)):=by
 refine tZ Tryz.func34 O O (fun C=>?_)
 refine T.bd 0 O (fun bd0=>?_)
 refine g' 2 O ?_
 refine tA O (fun g1=>?_)
 refine gQ 6 [0] O O (tW O acs (lift_num text n mode names ms) (g' 7 O (tP O (zbD O (fun _ _=>by kernel_rfl)) (g' 3 O ?_))))
 refine tA O (fun g2=>?_)
 refine gQ 14 [0,0] O O ?_
 have hdz:=digB_le h1
 refine tX [2] O O acs (itoa_c n (by omega)) ?_
 rintro _ _ ⟨rfl,rfl⟩
 refine g' 5 O ?_
 exact tRs O Tryz.results34 (.cons (zd (zc O) (Cv.eq (congrArg D.s (show (digB n)=digB n from(by rfl))))) .nil) O (HSub.fst 1 O) ⟨O,O⟩
theorem node_neg (text:ByteArray) (n:Nat) (mode:Int) (names:List ByteArray) (ms:List MatD) (xa xb:ByteArray) (xc xd:Int) (xe:List ByteArray) (xf:List MatD) (xg:List Nd) (ta:ByteArray) (hxt:ta.size≤10000000) (hx:CD Tryz.prog 99 [HPow] [.agg [.s xa,.s xb,dI xc,dI xd,.sh 1 (xe.map D.s),.sh 3 (xf.map MatD.d),.sh 7 (Nd.ds xg)]] (PrT ta)):
 CD Tryz.prog 34 [HPow] [.agg [.s (⟨#[110,101,103]⟩:ByteArray),.s text,dN n,dI mode,.sh 1 (names.map D.s),.sh 3 (ms.map MatD.d),.sh 7 [.agg [.s xa,.s xb,dI xc,dI xd,.sh 1 (xe.map D.s),.sh 3 (xf.map MatD.d),.sh 7 (Nd.ds xg)]]]] (PrT (zaE++ta)):=by
 refine tZ Tryz.func34 O O (fun C=>?_)
 refine T.bd 0 O (fun bd0=>?_)
 refine g' 2 O ?_
 refine tA O (fun g1=>?_)
 refine gQ 6 [0] O O (tW O acs (lift_neg text n mode names ms xa xb xc xd xe xf xg) (g' 7 O (tP O ((zaw (zv:=(.agg #[(.int .i64 0)])) O (fun _ _=>by kernel_rfl)).cv (Cv.tup (.cons (Cv.vagg (by decide)) (gc .nil)))) (g' 3 O ?_))))
 refine tA O (fun g2=>?_)
 refine gQ 16 [0] O O (tP O (zbD O (fun _ _=>by kernel_rfl)) (g' 3 O ?_))
 refine tA O (fun g3=>?_)
 refine gQ 14 [0,0] O O (tX [3] O O acs (hx) ?_)
 rintro _ _ ⟨rfl,rfl⟩
 refine tP O (zbn O O (by unfold maxLen;(try simp only[ByteArray.size_append]);(try simp only[ByteArray.size_append]);have kz:=catz;omega)) (g' 5 O ?_)
 exact tRs O Tryz.results34 (.cons (zd (zc O) (Cv.eq (congrArg D.s (show ((⟨#[45]⟩:ByteArray)++ta)=zaE++ta from(by rfl))))) .nil) O (HSub.fst 1 O) ⟨O,O⟩
end Lp
set_option linter.unusedVariables false
namespace Lp
open Go
def asc (l:List UInt8):Bool:=l.all (fun b=>decide (b.toNat<128))
theorem asc_cons {b:UInt8} {l:List UInt8} (h:asc (b::l)=true):b.toNat<128∧asc l=true:=by
 unfold asc at h ⊢;simp only[List.all_cons,Bool.and_eq_true,decide_eq_true_eq] at h;exact h
theorem asc_drop {l:List UInt8} (h:asc l=true) (n:Nat):asc (l.drop n)=true:=by
 unfold asc at h ⊢;rw[List.all_eq_true] at h ⊢;exact fun b hb=>h b (List.mem_of_mem_drop hb)
theorem asc_take {l:List UInt8} (h:asc l=true) (n:Nat):asc (l.take n)=true:=by
 unfold asc at h ⊢;rw[List.all_eq_true] at h ⊢;exact fun b hb=>h b (List.mem_of_mem_take hb)
def runA (f:Int→Bool):List UInt8→Nat
 | []=>0
 | b::r=>if f (b.toNat:Int)=true then 1+runA f r else 0
theorem zey (f:Int→Bool):∀ (l:List UInt8),asc l=true→runL f l=runA f l
 | [],_=>zcY
 | b::r,h=>by
  obtain ⟨h1,h2⟩:=asc_cons h
  unfold runA
  have hd:=zR (t:=r) h1
  by_cases hf:f (b.toNat:Int)=true
  · rw[if_pos hf,zb8 (by simp) (by rw[hd];exact hf),hd]
    show 1+runL f r=_
    rw[zey f r h2]
  · rw[if_neg hf,zdI (by rw[hd];simpa using hf)]
theorem runes_asc {l:List UInt8} (h:asc l=true):zo (mkB l)=l.map (fun b=>(b.toNat:Int)):=by
 have key:∀ (n p:Nat),(mkB l).size-p=n→zao (mkB l) p=(l.drop p).map (fun b=>(b.toNat:Int)):=by
  intro n
  induction n using Nat.strongRecOn with
  | _ n ih=>
   intro p hn
   rw[zM] at hn
   rcases Nat.lt_or_ge p l.length with hp | hp
   · have hb:bts (mkB l) p=l.drop p:=by unfold bts;rw[←zaP l];rfl
     obtain ⟨b,hx⟩:∃ b,l[p]?=some b:=⟨l[p],List.getElem?_eq_getElem hp⟩
     have hdr:l.drop p=b::l.drop (p+1):=by
      rw[List.drop_eq_getElem_cons hp];congr 1
      rw[List.getElem?_eq_getElem hp] at hx;injection hx
     have hb1:b.toNat<128:=(asc_cons (by rw[←hdr];exact asc_drop h p)).1
     have hd:decL (bts (mkB l) p)=(b.toNat,1):=by rw[hb,hdr];exact zR hb1
     rw[zX (by rw[zM];exact hp),zaO,zbq,hd,hdr]
     rw[ih (l.length-(p+1)) (by omega) (p+1) (by rw[zM])]
     rfl
   · rw[zaf (by rw[zM];exact hp),List.drop_eq_nil_of_le hp];rfl
 rw[show zo (mkB l)=zao (mkB l) 0 from rfl,key _ 0 rfl,List.drop_zero]
def digK:Nat→Nat→List UInt8
 | 0,_=>[]
 | f+1,n=>if n<10 then [UInt8.ofNat (48+n)] else digK f (n / 10)++[UInt8.ofNat (48+n % 10)]
theorem digK_eq:∀ (f n:Nat),0<f→n<10 ^ f→digK f n=digL n
 | 0,n,h,_=>absurd h (by omega)
 | f+1,n,_,h=>by
  unfold digK digL
  by_cases hn:n<10
  · rw[if_pos hn,dif_pos hn]
  · rw[if_neg hn,dif_neg hn]
    rw[Nat.pow_succ] at h
    cases f with
    | zero=>simp at h;omega
    | succ f=>rw[digK_eq (f+1) (n / 10) (by omega) (by omega)]
theorem digK_B {n:Nat} (h:n≤1000000000000):mkB (digK 20 n)=digB n:=by
 unfold digB;rw[digK_eq 20 n (by decide) (Nat.lt_of_le_of_lt h (by decide))]
def za3 (b:UInt8):Bool:=decide (b.toNat<128)&&decide (b.toNat≠34)&&decide (b.toNat≠92)&&decide (b.toNat≠10)
theorem enc_asc {c:Nat} (h:c<128):encR c=[UInt8.ofNat c]:=by unfold encR;rw[if_pos (by omega),Nat.mod_eq_of_lt (by omega)]
theorem quote_plain {l:List UInt8} (h:∀ b∈l,za3 b=true):zat (mkB l)=34::(l++[34]):=by
 have key:∀ (n p:Nat),(mkB l).size-p=n→zD (mkB l) p=l.drop p:=by
  intro n
  induction n using Nat.strongRecOn with
  | _ n ih=>
   intro p hn
   rw[zM] at hn
   rcases Nat.lt_or_ge p l.length with hp | hp
   · have hb:bts (mkB l) p=l.drop p:=by unfold bts;rw[←zaP l];rfl
     have hdr:l.drop p=l[p]::l.drop (p+1):=List.drop_eq_getElem_cons hp
     have hq:=h l[p] (List.getElem_mem hp)
     unfold za3 at hq;simp only[Bool.and_eq_true,decide_eq_true_eq] at hq
     obtain ⟨⟨⟨h1,h2⟩,h3⟩,h4⟩:=hq
     have hd:decL (bts (mkB l) p)=(l[p].toNat,1):=by rw[hb,hdr];exact zR h1
     have hr:decR (mkB l) p=l[p].toNat:=by rw[zaO,hd]
     have hw:decW (mkB l) p=1:=by rw[zbq,hd]
     rw[zau (by rw[zM];exact hp),piece_4 (by rw[hr];omega) (by rw[hr];exact h4) (by rw[hr];omega),hr,hw,enc_asc h1,ih (l.length-(p+1)) (by omega) (p+1) (by rw[zM]),hdr]
     simp
   · rw[za2 (by rw[zM];exact hp),List.drop_eq_nil_of_le hp]
 unfold zat;rw[key _ 0 rfl,List.drop_zero]
def firstA (l:List UInt8):Option (TokD×Nat):=
 match l with
 | []=>none
 | c::r=>
  if zt (c.toNat:Int)=1 then
   if zc1 0 ((l.take (runA isLD l)).map (fun b=>(b.toNat:Int)))=true∧0<runA isLD l then some (⟨1,0,mkB (l.take (runA isLD l))⟩,runA isLD l) else none
  else if zt (c.toNat:Int)=2 then
   if 13<runA isD l∨1000000000000<digV (l.take (runA isD l))∨runA isD l=0 then none
   else if runA isLD l=runA isD l then some (⟨2,0,mkB (digK 20 (digV (l.take (runA isD l))))⟩,runA isD l)
   else if secB (mkB ((l.take (runA isLD l)).drop (runA isD l)))=0∨1000000000 / secB (mkB ((l.take (runA isLD l)).drop (runA isD l)))<digV (l.take (runA isD l))∨1000000000000<digV (l.take (runA isD l))*secB (mkB ((l.take (runA isLD l)).drop (runA isD l)))∨runA isLD l=0 then none
   else some (⟨4,0,mkB (digK 20 (digV (l.take (runA isD l))*secB (mkB ((l.take (runA isLD l)).drop (runA isD l)))))⟩,runA isLD l)
  else if c.toNat=34 then
   if (r.drop (r.takeWhile za3).length).head?=some 34 then some (⟨3,0,mkB (r.takeWhile za3)⟩,(r.takeWhile za3).length+2) else none
  else if (zbz l).2=0 then none else some (zbz l)
theorem firstA_ok {l:List UInt8} (ha:asc l=true) {t:TokD} {n:Nat} (h:firstA l=some (t,n)):zg l=(t,n)∧n≠0:=by
 cases l with
 | nil=>cases h
 | cons c r=>
  have hc:=(asc_cons ha).1
  have hd:=zR (t:=r) hc
  unfold firstA at h
  simp only at h
  unfold zg;rw[hd]
  by_cases h1:zt (c.toNat:Int)=1
  · rw[if_pos h1] at h ⊢
    split at h
    · rename_i h2
      injection h with h;injection h with e1 e2
      subst e1;subst e2
      refine⟨?_,by omega⟩
      unfold zbM
      rw[zey _ _ ha]
      have hn:zbN (mkB ((c::r).take (runA isLD (c::r))))=true:=by unfold zbN;rw[runes_asc (asc_take ha _)];exact h2.1
      rw[if_pos hn]
    · cases h
  · rw[if_neg h1] at h ⊢
    by_cases h2:zt (c.toNat:Int)=2
    · rw[if_pos h2] at h ⊢
      unfold numT
      rw[zey _ _ ha,zey _ _ ha]
      split at h
      · cases h
      · rename_i h3
        rw[if_neg (by omega)]
        split at h
        · rename_i h4
          injection h with h;injection h with e1 e2
          subst e1;subst e2
          rw[if_pos h4,digK_B (by omega)];exact⟨rfl,by omega⟩
        · rename_i h4
          split at h
          · cases h
          · rename_i h5
            injection h with h;injection h with e1 e2
            subst e1;subst e2
            rw[if_neg h4,if_neg (by omega),digK_B (by omega)];exact⟨rfl,by omega⟩
    · rw[if_neg h2] at h ⊢
      by_cases h3:c.toNat=34
      · rw[if_pos h3] at h
        split at h
        · rename_i h4
          injection h with h;injection h with e1 e2
          subst e1;subst e2
          refine⟨?_,by omega⟩
          have hr:r=r.takeWhile za3++34::r.drop ((r.takeWhile za3).length+1):=by
           have e1:r=r.take (r.takeWhile za3).length++r.drop (r.takeWhile za3).length:=(List.take_append_drop _ _).symm
           have e2:r.take (r.takeWhile za3).length=r.takeWhile za3:=by
            have:=List.takeWhile_prefix (l:=r) za3
            exact(List.prefix_iff_eq_take.1 this).symm
           have e3:r.drop (r.takeWhile za3).length=34::r.drop ((r.takeWhile za3).length+1):=by
            cases hh:r.drop (r.takeWhile za3).length with
            | nil=>rw[hh] at h4;cases h4
            | cons y z=>
             rw[hh] at h4
             have:y=34:=by simpa using h4
             subst this
             congr 1
             have:=congrArg List.tail hh
             rw[List.tail_drop] at this
             exact this.symm
           rw[←e3,←e2];rw[e2];exact e1.trans (by rw[e2])
          have hq:=quote_plain (l:=r.takeWhile za3) (fun b hb=>by
           have:=List.all_takeWhile (p:=za3) (l:=r)
           exact List.all_eq_true.1 this b hb)
          have hc34:c=34:=UInt8.toNat_inj.1 h3
          have hl:c::r=zat (mkB (r.takeWhile za3))++r.drop ((r.takeWhile za3).length+1):=by
           rw[hq,hc34];simp only[List.cons_append,List.append_assoc,List.nil_append];congr 1
          have hs:=strT_quote (mkB (r.takeWhile za3)) (r.drop ((r.takeWhile za3).length+1))
          rw[←hl] at hs
          unfold zg at hs
          rw[hd,if_neg h1,if_neg h2] at hs
          rw[hs,hq]
          simp
        · cases h
      · rw[if_neg h3] at h
        have h3':¬(c.toNat,1).1=34:=h3
        rw[if_neg h3']
        split at h
        · cases h
        · rename_i h4;injection h with h;rw[h] at h4 ⊢;exact⟨rfl,h4⟩
def lexA:Nat→List UInt8→Nat→Option (List TokD)
 | 0,_,_=>none
 | f+1,l,a=>
  if l.drop (runA isB l)=[] then some []
  else match firstA (l.drop (runA isB l)) with
   | none=>none
   | some (t,n)=>(lexA f ((l.drop (runA isB l)).drop n) (a+runA isB l+n)).map (t.put (a+runA isB l)::·)
theorem lexA_ok:∀ (f:Nat) (l:List UInt8) (a:Nat) (ts:List TokD),asc l=true→lexA f l a=some ts→zT l a=some ts
 | 0,l,a,ts,_,h=>by cases h
 | f+1,l,a,ts,ha,h=>by
  unfold lexA at h
  have hb:=zey isB l ha
  unfold zT;rw[hb]
  split at h
  · rename_i h0;injection h with h;subst h;rw[h0];exact za0
  · rename_i h0
    cases e:firstA (l.drop (runA isB l)) with
    | none=>rw[e] at h;cases h
    | some p=>
     obtain ⟨t,n⟩:=p
     rw[e] at h
     simp only at h
     obtain ⟨e1,e2⟩:=firstA_ok (asc_drop ha _) e
     cases e3:lexA f ((l.drop (runA isB l)).drop n) (a+runA isB l+n) with
     | none=>rw[e3] at h;cases h
     | some t2=>
      rw[e3] at h
      have h:t.put (a+runA isB l)::t2=ts:=by injection h
      have ih:=lexA_ok f _ _ _ (asc_drop (asc_drop ha _) n) e3
      have hlen:(l.drop (runA isB l)).length≤l.length:=by rw[List.length_drop];omega
      rw[zbY h0 (by rw[e1];exact e2) hlen,e1]
      simp only
      rw[ih]
      show some _=some _
      rw[←h]
theorem lexA_lex {s:ByteArray} {ts:List TokD} (h:lexA (s.size+1) (bl8 s) 0=some ts) (ha:asc (bl8 s)=true) (hs:s.size≤600):lexL s=ts∧lexE s=0:=lex_of hs (lexA_ok _ _ _ _ ha h)
end Lp
set_option linter.unusedVariables false
namespace Lp
open Go
abbrev a8S1:ByteArray:=(⟨#[49,43,50,42,45,51]⟩:ByteArray)
abbrev a8S2:ByteArray:=(⟨#[115,117,109,32,98,121,32,40,104,111,115,116,41,32,40,99,112,117,123,97,61,34,98,34,125,41,32,111,114,100,101,114,32,100,101,115,99,32,108,105,109,105,116,32,51]⟩:ByteArray)
abbrev a8T1:List TokD:=[⟨2,0,(⟨#[49]⟩:ByteArray)⟩,⟨5,1,(⟨#[43]⟩:ByteArray)⟩,⟨2,2,(⟨#[50]⟩:ByteArray)⟩,⟨5,3,(⟨#[42]⟩:ByteArray)⟩,⟨5,4,(⟨#[45]⟩:ByteArray)⟩,⟨2,5,(⟨#[51]⟩:ByteArray)⟩]
abbrev a8T2:List TokD:=[⟨1,0,(⟨#[115,117,109]⟩:ByteArray)⟩,⟨1,4,(⟨#[98,121]⟩:ByteArray)⟩,⟨5,7,(⟨#[40]⟩:ByteArray)⟩,⟨1,8,(⟨#[104,111,115,116]⟩:ByteArray)⟩,⟨5,12,(⟨#[41]⟩:ByteArray)⟩,⟨5,14,(⟨#[40]⟩:ByteArray)⟩,⟨1,15,(⟨#[99,112,117]⟩:ByteArray)⟩,⟨5,18,(⟨#[123]⟩:ByteArray)⟩,⟨1,19,(⟨#[97]⟩:ByteArray)⟩,⟨5,20,(⟨#[61]⟩:ByteArray)⟩,⟨3,21,(⟨#[98]⟩:ByteArray)⟩,⟨5,24,(⟨#[125]⟩:ByteArray)⟩,⟨5,25,(⟨#[41]⟩:ByteArray)⟩,⟨1,27,(⟨#[111,114,100,101,114]⟩:ByteArray)⟩,⟨1,33,(⟨#[100,101,115,99]⟩:ByteArray)⟩,⟨1,38,(⟨#[108,105,109,105,116]⟩:ByteArray)⟩,⟨2,44,(⟨#[51]⟩:ByteArray)⟩]
abbrev a8P:ByteArray:=(⟨#[49,32,43,32,40,50,32,42,32,40,45,51,41,41]⟩:ByteArray)
theorem al8_1:lexL a8S1=a8T1∧lexE a8S1=0:=lexA_lex (by kernel_rfl) (by decide) (by decide)
theorem al8_2:lexL a8S2=a8T2∧lexE a8S2=0:=lexA_lex (by kernel_rfl) (by decide) (by decide)
def a8n (n:Nat):Nd:=.mk tNum ByteArray.empty (n:Int) 0 [] [] []
def a8K1:List Nd:=[a8n 1,.mk tBin zbO 0 0 [] [] [a8n 2,.mk tNeg ByteArray.empty 0 0 [] [] [a8n 3]]]
def a8K2:List Nd:=[.mk nSel (⟨#[99,112,117]⟩:ByteArray) 0 0 [] [⟨(⟨#[97]⟩:ByteArray),1,(⟨#[98]⟩:ByteArray)⟩] []]
theorem rd_is {s:ByteArray} {l:List TokD} {q:QryD} (h:lexL s=l∧lexE s=0) (hp:zcZ rmD l=some q):zaR s=0∧zdQ s=q:=by
 unfold zaR zdQ;rw[if_pos h.2,if_pos h.2,h.1,hp];exact⟨rfl,rfl⟩
theorem al8_r1:zaR a8S1=0∧zdQ a8S1=⟨.mk tBin zda 0 0 [] [] a8K1,0,-1,-1⟩:=rd_is al8_1 (by kernel_rfl)
theorem al8_r2:zaR a8S2=0∧zdQ a8S2=⟨.mk tAgg (⟨#[115,117,109]⟩:ByteArray) 0 1 [(⟨#[104,111,115,116]⟩:ByteArray)] [] a8K2,2,3,-1⟩:=rd_is al8_2 (by kernel_rfl)
end Lp
set_option linter.unusedVariables false
namespace Lp
open Go
abbrev d1:ByteArray:=⟨#[49]⟩
end Lp
set_option linter.unusedVariables false
namespace Lp
open Go
theorem cnt_mem {l:List Nd} {x:Nd} (h:x∈l):x.cnt≤Nd.cntL l:=by
 induction l with
 | nil=>cases h
 | cons y l ih=>
  simp only[Nd.cntL]
  rcases List.mem_cons.1 h with e | e
  · rw[e];omega
  · have:=ih e;omega
theorem Nd.ind {p:Nd→Prop} (h:∀ op text n mode names ms kids,(∀ x∈kids,p x)→p (.mk op text n mode names ms kids)):∀ q,p q:=by
 have key:∀ (n:Nat) (q:Nd),q.cnt=n→p q:=by
  intro n
  induction n using Nat.strongRecOn with
  | _ n ih=>
   intro q hq
   obtain ⟨op,text,n',mode,names,ms,kids⟩:=q
   refine h op text n' mode names ms kids (fun x hx=>ih x.cnt ?_ x O)
   have:=cnt_mem hx
   simp only[Nd.cnt] at hq;omega
 exact fun q=>key q.cnt q O
inductive Ask where
 | leaf (k:Int)
 | whole (a b:Int)
 | plain
 | pair (m:Int)
 | none
end Lp
set_option linter.unusedVariables false
namespace Lp
open Go
deriving instance DecidableEq for MatD
noncomputable def Nd.eqB (a b:Nd):Bool:=@decide (a=b) (Classical.propDecidable _)
theorem eqB_t {a b:Nd} (h:a=b):true=a.eqB b:=(@decide_eq_true _ (Classical.propDecidable _) h).symm
theorem eqB_f {a b:Nd} (h:a≠b):false=a.eqB b:=(@decide_eq_false _ (Classical.propDecidable _) h).symm
theorem eqB_is {a b:Nd}:a.eqB b=true↔a=b:=⟨fun h=>@of_decide_eq_true _ (Classical.propDecidable _) h,fun h=>(eqB_t h).symm⟩
theorem eqB_no {a b:Nd}:a.eqB b=false↔a≠b:=⟨fun h=>@of_decide_eq_false _ (Classical.propDecidable _) h,fun h=>(eqB_f h).symm⟩
theorem tk_ne {α:Type} {a b:List α} {k:Nat} {x y:α} (hx:a[k]?=some x) (hy:b[k]?=some y) (h:x≠y):a≠b:=by
 rintro rfl;rw[hx] at hy;injection hy with e;exact h e
theorem tk_go {α:Type} {a b:List α} {k:Nat} {x y:α} (hx:a[k]?=some x) (hy:b[k]?=some y) (hf:a.take k=b.take k) (h:x=y):a.take (k+1)=b.take (k+1):=by
 rw[zbZ hx,zbZ hy,hf,h]
theorem zdG {α:Type} {a b:List α} {k:Nat} (h1:a.length≤k) (h2:b.length≤k) (hf:a.take k=b.take k):a=b:=by
 rwa [List.take_of_length_le h1,List.take_of_length_le h2] at hf
end Lp
