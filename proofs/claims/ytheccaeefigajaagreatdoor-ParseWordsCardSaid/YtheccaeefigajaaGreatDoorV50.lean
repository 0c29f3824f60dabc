import Derived.Test.YtheccaeefigajaaGreatDoorV100
set_option linter.unusedSimpArgs false
set_option linter.unusedVariables false
set_option maxHeartbeats 4000000
set_option maxRecDepth 100000
namespace Lp
open Go Go.RowKit Go.Proofs
theorem zfk:BdP Tryz.prog #[⟨"Root",27,0,false, "", "",0⟩,⟨"Order",3,7,false, "", "",120⟩,⟨"Limit",3,8,false, "", "",128⟩,⟨"Offset",3,9,false, "", "",136⟩] [(0,7),(7,1),(8,1),(9,1)]:=fun _=>by kernel_rfl
theorem bd_72:BdP Tryz.prog #[⟨"l",67,0,false, "", "leporello/parse",0⟩,⟨"nodes",3,1,false, "", "leporello/parse",24⟩,⟨"bad",4,2,false, "", "leporello/parse",32⟩] [(0,1),(1,1),(2,1)]:=fun _=>by kernel_rfl
def QdR (q:QryD) (e:Int) (tabs:List Hp):D→List Hp→Prop:=fun r H'=>∃ op text n mode names ms kids o a b,(⟨Nd.mk op text n mode names ms kids,o,a,b⟩:QryD)=q∧r=.tup [.agg [.s op,.s text,dI n,dI mode,.sh 1 (names.map D.s),.sh 3 (ms.map MatD.d),.sh 7 (Nd.ds kids),dI o,dI a,dI b],dI e]∧H'=tabs
theorem order_e {s s':Rd} {o:Int} (e:(o,s')=s.order):Stp 0 s s':=by
 have h:s'=s.order.2:=congrArg Prod.snd e
 rw[h];unfold Rd.order;simp only;split
 · exact zZ s 1 _
 · split
   · exact((zZ s 1 [zbV]).trans (zZ _ 1 _)).le (by omega)
   · exact((((zZ s 1 [zbV]).trans (zZ _ 1 [zdo])).trans (zcu _ 1)).le (by omega)).bad _
theorem order_1t {s s1 s2 s3:Rd} {t t' c:ByteArray} {q q':Bool} (e:(t,q,s1)=s.take 1 [zbV]) (hq:q=true) (e2:(t',q',s2)=s1.take 1 [zdo]) (hq':¬q'=true) (e3:(c,s3)=s2.any 1) (hc:c≠tAsc):(1,(⟨s3.l,s3.n,true⟩:Rd))=s.order:=by
 rw[←order_1 e hq e2 hq' e3,decide_eq_true hc,Bool.or_true]
theorem order_1f {s s1 s2 s3:Rd} {t t' c:ByteArray} {q q':Bool} (e:(t,q,s1)=s.take 1 [zbV]) (hq:q=true) (e2:(t',q',s2)=s1.take 1 [zdo]) (hq':¬q'=true) (e3:(c,s3)=s2.any 1) (hc:¬c≠tAsc):(1,(⟨s3.l,s3.n,s3.b⟩:Rd))=s.order:=by
 rw[←order_1 e hq e2 hq' e3,decide_eq_false hc,Bool.or_false]
section
variable {s:ByteArray} {z s1 s2 s3 s4:Rd} {n:Nd} {o a b:Int}
theorem read_of (hE:lexE s=0) (e0:z=⟨lexL s,0,false⟩) (e1:(n,s1)=zdW rmD ((lexL s).length+1) z) (e2:(o,s2)=s1.order) (e3:(a,s3)=s2.bound zcX) (e4:(b,s4)=s3.bound zcr):zcZ rmD (lexL s)=if s4.b=true∨0<s4.l.length then none else some ⟨n,o,a,b⟩:=by
 unfold zcZ;simp only
 rw[←e0,←e1];simp only
 rw[←e2];simp only
 rw[←e3];simp only
 rw[←e4]
theorem read_no (hE:lexE s=0) (h:zcZ rmD (lexL s)=none):2=zaR s∧noQ=zdQ s:=by
 unfold zaR zdQ;rw[if_pos hE,if_pos hE,h];exact⟨rfl,rfl⟩
theorem read_yes (hE:lexE s=0) {q:QryD} (h:zcZ rmD (lexL s)=some q):0=zaR s∧q=zdQ s:=by
 unfold zaR zdQ;rw[if_pos hE,if_pos hE,h];exact⟨rfl,rfl⟩
theorem read_lex (hE:¬lexE s=0):lexE s=zaR s∧noQ=zdQ s:=by
 unfold zaR zdQ;rw[if_neg hE,if_neg hE];exact⟨rfl,rfl⟩
end
theorem Read_c (s:ByteArray) (ev es:Value) (hev:EvOk ev) (hes:EvOk es):
 CD Tryz.prog 14 [HPow,HErr ev,HSyn es] [.s s] (QdR (zdQ s) (zaR s) [HPow,HErr ev,HSyn es]):=by
 refine tZ Tryz.func14 O O (fun C=>?_)
 refine T.bd 0 O (fun bd0=>?_)
 have sz0:s.size≤9223372036854775807:=bd0
 refine g' 2 O ?_
 refine tA O (fun g1=>?_)
 refine g' 6 O (tX [1,1] O O acs (Words_c s ev hev) ?_)
 rintro _ _ ⟨wv2,rfl,rfl⟩
 refine g' 14 O ?_
 refine tD O (fun hc3=>?_) (fun hc3=>?_)
 · skip
   obtain ⟨hre,hrq⟩:=read_lex (s:=s) hc3
   refine g' 2 O (tP O (zf [] [] (zv:=(.agg #[(.string ByteArray.empty),(.string ByteArray.empty),(.int .i64 0),(.int .i64 0),(.slice none 0 0),(.slice none 0 0),(.slice none 0 0),(.int .i64 0),(.int .i64 0),(.int .i64 0)])) O O (.nil) (Tryz.runUnderlying29) Tryz.zeroValue29 zfk ⟨O,O,O,O,O,O,O,O,O,O,trivial⟩ O) (gQ 7 [3] O O (T.front 4 O (T.front 3 O (T.front 3 O ?_)))))
   exact tRs O Tryz.results14 (.cons (zd (zh (X:=.agg [.v (.string ByteArray.empty),.v (.string ByteArray.empty),dI 0,dI 0,dZ,dZ,dZ,dI 0,dI 0,dI 0]) (d:=.agg [.v (.string ByteArray.empty),.v (.string ByteArray.empty),dI 0,dI 0,dZ,dZ,dZ,dI 0,dI 0,dI 0]) (i:=4) O O Tryz.isAgg29 Tryz.sizeOf29 O O) (Cv.agg (.cons cS (.cons cS (gc (gc (.cons Cv.nil (.cons Cv.nil (.cons Cv.nil (gc (gc (gc .nil)))))))))))) (.cons (zd (zc O) (Cv.eq (congrArg dI hre))) .nil)) O (HSub.fst 3 O) ⟨ByteArray.empty,ByteArray.empty,0,0,[],[],[],0,0,0,hrq,O,O⟩
 · skip
   have hE:lexE s=0:=by simpa using hc3
   have hsz:=(ze5 hE).1
   have hll:=lexL_len s
   refine g' 3 O ?_
   refine T.mv (Mv.freeze (K':=[(0,.s s),(2,dP g1 0),(3,dI 0),(4,.sh 3 ((lexL s).map TokD.d)),(5,dI (lexE s)),(13,.tup [.sh 3 ((lexL s).map TokD.d),dI (lexE s)]),(14,.s s),(15,.tup [.sh 3 ((lexL s).map TokD.d),dI (lexE s)]),(16,.sh 3 ((lexL s).map TokD.d)),(17,dI (lexE s)),(18,dI (lexE s)),(19,dB (decide ((lexE s)≠(0:Int))))]) [.sl wv2 3 135 ((lexL s).map TokD.d)] (H1:=[HPow,HErr ev,.bx g1 29 (.agg [.v (.string ByteArray.empty),.v (.string ByteArray.empty),dI 0,dI 0,dZ,dZ,dZ,dI 0,dI 0,dI 0]),HSyn es]) (H1':=[HPow,HErr ev,.bx g1 29 (.agg [.v (.string ByteArray.empty),.v (.string ByteArray.empty),dI 0,dI 0,dZ,dZ,dZ,dI 0,dI 0,dI 0]),HSyn es]) ⟨⟨_,O,ArgC.id⟩,⟨_,O,ArgC.id⟩,⟨_,O,ArgC.id⟩,⟨_,O,ArgC.own (j:=0) O O⟩,⟨_,O,ArgC.id⟩,⟨_,O,ArgC.tup (.cons (ArgC.own (j:=0) O O) (ga .nil))⟩,⟨_,O,ArgC.id⟩,⟨_,O,ArgC.tup (.cons (ArgC.own (j:=0) O O) (ga .nil))⟩,⟨_,O,ArgC.own (j:=0) O O⟩,⟨_,O,ArgC.id⟩,⟨_,O,ArgC.id⟩,⟨_,O,ArgC.id⟩,trivial⟩ (.same (.same (.same (.same .nil))))) ?_
   refine g' 2 O (tP O (zf [0] [.tmp 22] (zv:=(.agg #[(.slice none 0 0),(.int .i64 0),(.bool false)])) O O (.cons CellD.sh .nil) (Tryz.runUnderlying72) Tryz.zeroValue72 bd_72 ⟨O,O,O,trivial⟩ O) ?_)
   refine tA O (fun g4=>?_)
   refine g' 4 O ?_
   obtain ⟨s5,e5⟩:∃ x:Rd,x=⟨(lexL s),0,false⟩:=⟨_,rfl⟩
   have hl5:s5.l=(lexL s):=by rw[e5]
   have hn5:s5.n=0:=by rw[e5]
   have hT5:TOk s5.l:=by rw[hl5];exact lexL_tok s
   have hk5:s5.l.length=(lexL s).length:=by rw[hl5]
   refine T.norm [RB g4 s5,HPow,HErr ev,.bx g1 29 (.agg [.v (.string ByteArray.empty),.v (.string ByteArray.empty),dI 0,dI 0,dZ,dZ,dZ,dI 0,dI 0,dI 0]),HSyn es] (by rw[e5]<;>rfl) (g' 2 O (tX [0,0,0,1] O O acs (exprOk ev es hev hes ((lexL s).length+1) g4 s5 (by omega) (by omega) (by omega) hT5) ?_))
   rintro _ _ ⟨no6,nt6,nn6,nm6,nl6,ns6,nk6,s6,e6,rfl,rfl⟩
   obtain ⟨ka6,kb6,kc6,hT6⟩:=(nd_e e6 (zbd rmD _ s5)).out hT5
   refine tP O (zf [0] [.tmp 26] (zv:=(.agg #[(.string ByteArray.empty),(.string ByteArray.empty),(.int .i64 0),(.int .i64 0),(.slice none 0 0),(.slice none 0 0),(.slice none 0 0),(.int .i64 0),(.int .i64 0),(.int .i64 0)])) O O (.cons CellD.agg .nil) (Tryz.runUnderlying29) Tryz.zeroValue29 zfk ⟨O,O,O,O,O,O,O,O,O,O,trivial⟩ O) ?_
   refine tA O (fun g7=>?_)
   refine gQ 7 [0] O O (tE O (Qu.ef (d:=.sh 1 ([(⟨#[111,114,100,101,114]⟩:ByteArray)].map D.s)) ((ze [.const (.string (⟨#[111,114,100,101,114]⟩:ByteArray))] O O (.cons (CellD.v O) .nil) O Tryz.runUnderlying23 Tryz.sizeOf9 Tryz.zeroValue9 O O O O).cv (Cv.shs (.cons cS .nil)))) ?_)
   rintro _ _ ⟨rfl,rfl⟩
   refine tX [1] O O acs (zcW g4 s6 1 [(⟨#[111,114,100,101,114]⟩:ByteArray)] (by omega) (by omega) hT6 (by decide)) ?_
   rintro _ _ ⟨t8,q8,s8,e8,rfl,rfl⟩
   obtain ⟨ka8,kb8,kc8,hT8⟩:=(zcV e8).out hT6
   have kz8:=zcU e8 hT6
   refine g' 12 O ?_
   refine tJ (fun (jg:Int×Rd)=>[(2,dP g1 0),(3,dI 0),(6,dP g4 0),(7,dP g7 0)]) (fun (jg:Int×Rd)=>[.bx g1 29 (.agg [.v (.string ByteArray.empty),.v (.string ByteArray.empty),dI 0,dI 0,dZ,dZ,dZ,dI 0,dI 0,dI 0]),.bx g7 29 (.agg [.s no6,.s nt6,dI nn6,dI nm6,.sh 1 (nl6.map D.s),.sh 3 (ns6.map MatD.d),.sh 7 (Nd.ds nk6),dI jg.1,dI 0,dI 0]),.bx g4 72 (.agg [.sh 3 (jg.2.l.map TokD.d),dI jg.2.n,dB jg.2.b]),HPow,HErr ev,HSyn es]) (fun (jg:Int×Rd)=>((jg.1,jg.2)=s6.order)) (fun _ hQ9=>?_) ?_
   · skip
     refine tC O (fun hc10=>?_) (fun hc10=>?_)
     · skip
       refine gQ 9 [1] O O (tE O (Qu.ef (d:=.sh 1 ([(⟨#[100,101,115,99]⟩:ByteArray)].map D.s)) ((ze [.const (.string (⟨#[100,101,115,99]⟩:ByteArray))] O O (.cons (CellD.v O) .nil) O Tryz.runUnderlying23 Tryz.sizeOf9 Tryz.zeroValue9 O O O O).cv (Cv.shs (.cons cS .nil)))) ?_)
       rintro _ _ ⟨rfl,rfl⟩
       refine tX [0] O O acs (zcW g4 s8 1 [(⟨#[100,101,115,99]⟩:ByteArray)] (by omega) (by omega) hT8 (by decide)) ?_
       rintro _ _ ⟨t11,q11,s11,e11,rfl,rfl⟩
       obtain ⟨ka11,kb11,kc11,hT11⟩:=(zcV e11).out hT8
       have kz11:=zcU e11 hT8
       refine g' 12 O ?_
       refine tC O (fun hc12=>?_) (fun hc12=>?_)
       · skip
         refine gQ 4 [1] O O (T.front 4 O (T.front 4 O (T.front 4 O (T.front 3 O (T.front 4 O (T.front 5 O ?_))))))
         exact tqe (hQ9 (2,s11) (order_2 e8 hc10 e11 hc12)) O
       · skip
         refine g' 3 O (tX [0] O O acs (zeX g4 s11 1 (by omega) (by omega) hT11 (by decide)) ?_)
         rintro _ _ ⟨t13,s13,e13,rfl,rfl⟩
         obtain ⟨ka13,kb13,kc13,hT13⟩:=(zch e13).out hT11
         have kz13:=zcg e13 hT11
         refine g' 9 O ?_
         refine tD O (fun hc14=>?_) (fun hc14=>?_)
         · skip
           refine gQ 6 [0] O O (T.front 4 O (T.front 4 O (T.front 4 O (T.front 3 O (T.front 4 O (T.front 5 O ?_))))))
           exact tqe (hQ9 (1,(⟨s13.l,s13.n,true⟩:Rd)) (order_1t e8 hc10 e11 (by simpa using hc12) e13 hc14)) O
         · skip
           refine g' 1 O (T.front 4 O (T.front 4 O (T.front 4 O (T.front 3 O (T.front 4 O (T.front 5 O ?_))))))
           exact tqe (hQ9 (1,(⟨s13.l,s13.n,s13.b⟩:Rd)) (order_1f e8 hc10 e11 (by simpa using hc12) e13 hc14)) O
     · skip
       refine g' 1 O (T.front 4 O (T.front 4 O (T.front 4 O (T.front 3 O (T.front 4 O (T.front 5 O ?_))))))
       exact tqe (hQ9 (0,s8) (order_0 e8 (by simpa using hc10))) O
   · skip
     rintro ⟨o,z⟩ hor
     replace hor:(o,z)=s6.order:=hor
     refine T.kk [(2,dP g1 0),(3,dI 0),(6,dP g4 0),(7,dP g7 0)] O (T.norm [.bx g1 29 (.agg [.v (.string ByteArray.empty),.v (.string ByteArray.empty),dI 0,dI 0,dZ,dZ,dZ,dI 0,dI 0,dI 0]),.bx g7 29 (.agg [.s no6,.s nt6,dI nn6,dI nm6,.sh 1 (nl6.map D.s),.sh 3 (ns6.map MatD.d),.sh 7 (Nd.ds nk6),dI o,dI 0,dI 0]),RB g4 z,HPow,HErr ev,HSyn es] (by rfl) (g' 2 O ?_))
     obtain ⟨kx1,ky1,kz1,hTj⟩:=(order_e hor).out hT6
     refine g' 2 O (tX [2,2,2,2] O O (ga (.cons (ArgC.cv cS) .nil)) (bound_c g4 z (⟨#[108,105,109,105,116]⟩:ByteArray) ev es hev hes (by omega) (by omega) hTj) ?_)
     rintro _ _ ⟨v15,s15,e15,rfl,rfl⟩
     obtain ⟨ka15,kb15,kc15,hT15⟩:=(bound_e e15).out hTj
     refine gQ 7 [5] O O (tX [0,0,0,0] O O (ga (.cons (ArgC.cv cS) .nil)) (bound_c g4 s15 (⟨#[111,102,102,115,101,116]⟩:ByteArray) ev es hev hes (by omega) (by omega) hT15) ?_)
     rintro _ _ ⟨v16,s16,e16,rfl,rfl⟩
     obtain ⟨ka16,kb16,kc16,hT16⟩:=(bound_e e16).out hT15
     refine gQ 6 [5] O O ?_
     have hrd:=read_of hE e5 e6 hor e15 e16
     refine gQ 6 [0] O O ?_
     refine tOr 4 6 (c:=decide ((0:Int)<((s16.l.length:Nat):Int))) O O O O O O (fun hb17 nx18=>?_) ?_
     · skip
       refine gQ 4 [0] O O (tG O (z8 (n:=s16.l.length) O Tryz.runUnderlying67 (by simp only[lm,lc,ln])) (g' 1 O ?_))
       exact nx18 _ O O (kx 6 O O)
     refine g' 2 O ?_
     refine tC O (fun hc19=>?_) (fun hc19=>?_)
     · simp only[bX,bJ] at hc19
       rw[if_pos (by have h:=hc19;rcases h with h | h;exact .inl h;exact .inr (by omega))] at hrd
       obtain ⟨hre,hrq⟩:=read_no hE hrd
       refine g' 2 O (tP O (zf [] [] (zv:=(.agg #[(.string ByteArray.empty),(.string ByteArray.empty),(.int .i64 0),(.int .i64 0),(.slice none 0 0),(.slice none 0 0),(.slice none 0 0),(.int .i64 0),(.int .i64 0),(.int .i64 0)])) O O (.nil) (Tryz.runUnderlying29) Tryz.zeroValue29 zfk ⟨O,O,O,O,O,O,O,O,O,O,trivial⟩ O) (gQ 6 [4] O O (T.front 3 O (T.front 3 O (T.front 3 O ?_)))))
       exact tRs O Tryz.results14 (.cons (zd (zh (X:=.agg [.v (.string ByteArray.empty),.v (.string ByteArray.empty),dI 0,dI 0,dZ,dZ,dZ,dI 0,dI 0,dI 0]) (d:=.agg [.v (.string ByteArray.empty),.v (.string ByteArray.empty),dI 0,dI 0,dZ,dZ,dZ,dI 0,dI 0,dI 0]) (i:=4) O O Tryz.isAgg29 Tryz.sizeOf29 O O) (Cv.agg (.cons cS (.cons cS (gc (gc (.cons Cv.nil (.cons Cv.nil (.cons Cv.nil (gc (gc (gc .nil)))))))))))) (.cons (zd (zc O) (Cv.eq (congrArg dI hre))) .nil)) O (HSub.fst 3 O) ⟨ByteArray.empty,ByteArray.empty,0,0,[],[],[],0,0,0,hrq,O,O⟩
     · simp only[bX,bJ] at hc19
       rw[if_neg (by have h:=hc19;rintro (k | k);(rw[h.1] at k;cases k);omega)] at hrd
       obtain ⟨hre,hrq⟩:=read_yes hE hrd
       refine gQ 10 [5,4] O O (T.front 3 O (T.front 3 O (T.front 3 O ?_)))
       exact tRs O Tryz.results14 (.cons (zh (i:=4) O O Tryz.isAgg29 Tryz.sizeOf29 O O) (.cons (zd (zc O) (Cv.eq (congrArg dI hre))) .nil)) O (HSub.fst 3 O) ⟨no6,nt6,nn6,nm6,nl6,ns6,nk6,o,v15,v16,hrq,O,O⟩
end Lp
set_option linter.unusedSimpArgs false
set_option linter.unusedVariables false
set_option maxHeartbeats 4000000
set_option maxRecDepth 100000
namespace Lp
open Go Go.RowKit Go.Proofs
theorem rhex_u (u:UInt8):CD Tryz.prog 185 [] [dU8 u] (isR (dI (hexI u.toNat))):=rhex_c u.toNat (by have:=UInt8.toNat_lt u;omega)
theorem rUnq_c (s:ByteArray) (hs:s.size≤1000000):
 CD Tryz.prog 164 [] [.s s] (isR (.tup [D.s (unqT s),dB (zbx s)])):=by
 refine tZ Tryz.func164 O O (fun C=>?_)
 refine T.bd 0 O (fun bd0=>?_)
 have sz0:s.size≤9223372036854775807:=bd0
 refine g' 8 O ?_
 by_cases hc1:((s.size:Nat):Int)<(2:Int)
 · skip
   refine g' 2 O (tP O (zu O Tryz.runUnderlying9) (tP O (za5 O O (decide_eq_true hc1)) (g' 24 O ?_)))
   exact tRs O Tryz.results164 (.cons (zd (zc O) ((cS).trans (Cv.eq (congrArg D.s (by first | (have T:=unq_short (s:=s) (by omega);first | exact T.1 | exact T.2)))))) (.cons (zd (zc O) (cB ((by first | (have T:=unq_short (s:=s) (by omega);first | exact T.1 | exact T.2))))) .nil)) O HSub.none ⟨O,O⟩
 · skip
   obtain ⟨w2,hw2⟩:=zai s 0 (by omega)
   have hlw2:=w2.toNat_lt
   obtain ⟨w3,hw3⟩:=zai s (s.size-1) (by omega)
   have hlw3:=w3.toNat_lt
   refine g' 2 O (tP O (zu O Tryz.runUnderlying9) (tP O (za5 O O (decide_eq_false hc1)) (g' 2 O (tG O (zl (k:=0) O O Tryz.runUnderlying9 (by first | rfl | omega) hw2) (g' 3 O ?_)))))
   refine tOr 8 6 (c:=decide (((w3.toNat:Nat):Int)≠(34:Int))) O O O O O O (fun hb4 nx5=>?_) ?_
   · skip
     have hf6:=of_decide_eq_false hb4
     refine g' 2 O (tG O (zu O Tryz.runUnderlying9) (tG O (zcI (c:=((s.size-1:Nat):Int)) O O (zn (by omega) (by omega))) (tG O (zl (k:=s.size-1) O O Tryz.runUnderlying9 (by first | rfl | omega) hw3) (g' 1 O ?_))))
     exact nx5 _ O O (kx 6 O O)
   refine g' 2 O ?_
   refine tC O (fun hc7=>?_) (fun hc7=>?_)
   · simp only[bX,bJ] at hc7
     refine g' 8 O ?_
     exact tRs O Tryz.results164 (.cons (zd (zc O) ((cS).trans (Cv.eq (congrArg D.s (by first | (have T:=unq_short (s:=s) (by omega);first | exact T.1 | exact T.2) | (have T:=unq_head (s:=s) hw2 (by omega);first | exact T.1 | exact T.2) | (have T:=unq_last (s:=s) hw3 (by omega);first | exact T.1 | exact T.2) | (have T:=(show ByteArray.empty=unqT s∧false=zbx s from(by by_cases e1:w2.toNat=34;exact unq_last (s:=s) hw3 (by omega);exact unq_head (s:=s) hw2 e1));first | exact T.1 | exact T.2)))))) (.cons (zd (zc O) (cB ((by first | (have T:=unq_short (s:=s) (by omega);first | exact T.1 | exact T.2) | (have T:=unq_head (s:=s) hw2 (by omega);first | exact T.1 | exact T.2) | (have T:=unq_last (s:=s) hw3 (by omega);first | exact T.1 | exact T.2) | (have T:=(show ByteArray.empty=unqT s∧false=zbx s from(by by_cases e1:w2.toNat=34;exact unq_last (s:=s) hw3 (by omega);exact unq_head (s:=s) hw2 e1));first | exact T.1 | exact T.2))))) .nil)) O HSub.none ⟨O,O⟩
   · simp only[bX,bJ] at hc7
     refine g' 6 O (tP O (zu O Tryz.runUnderlying9) (tP O (zcI (c:=((s.size-1:Nat):Int)) O O (zn (by omega) (by omega))) (tP O (zw (a:=1) (c:=s.size-1) O O O (by first | rfl | (show _=_;omega)) (by first | rfl | (show _=_;omega)) Tryz.runUnderlying9 (by omega) (by omega)) (g' 4 O ?_))))
     obtain ⟨b,hb⟩:∃ b,s.extract 1 (s.size-1)=b:=⟨_,rfl⟩
     have hbz:b.size=s.size-2:=by rw[←hb,ByteArray.size_extract];omega
     refine T.sub [(0,.s s),(2,.v (.string ByteArray.empty)),(3,dB false),(4,.s b)] ⟨sk O,sk O,sk O,sc O (Cv.eq (congrArg D.s hb)),trivial⟩ (g' 11 O (tl3 (fun (a_:Nat) (b_:Value) (c_:List UInt8)=>[(0,.s s),(4,.s b),(6,dN a_),(5,.ov b_)]) (fun a_ b_ c_=>[.sl b_ 1 5 (c_.map dU8)]) (fun a_ b_ c_=>(EInv b a_ c_)∧(a_≤b.size)∧(c_.length≤a_)) (fun a_ b_ c_=>b.size-a_) 0 (.slice none 0 0) [] O ⟨sk O,sk O,sk O,sc O (Cv.ov O),trivial⟩ (HSub.nil 1 5) ⟨EInv.zero,Nat.zero_le _,Nat.le_refl _⟩ ?_))
     rintro i ov out ⟨hE,hi,ho⟩
     refine g' 5 O (tP O (zu O Tryz.runUnderlying9) (g' 3 O ?_))
     refine tD O (fun hc8=>?_) (fun hc8=>?_)
     · skip
       refine g' 9 O ?_
       obtain ⟨u3,hu3⟩:=zai b i (by omega)
       have hlu3:=u3.toNat_lt
       refine tP O (zl (k:=i) O O Tryz.runUnderlying9 (by first | rfl | omega) hu3) (g' 4 O ?_)
       refine tD O (fun hc9=>?_) (fun hc9=>?_)
       · skip
         refine g' 4 O (tP O (zl (k:=i) O O Tryz.runUnderlying9 (by first | rfl | omega) hu3) (tE O (zE [.tmp 43] O O (.cons (CellD.v O) .nil) O Tryz.runUnderlying103 Tryz.sizeOf5 Tryz.zeroValue5 O O O O) ?_))
         rintro _ _ ⟨g10,rfl,rfl⟩
         refine tE O (zz (f:=dU8) (l:=out) (l':=[u3]) (i:=1) O O O (SrcD.own (j:=0) O O) za6 zcf O O (by unfold maxLen;(try simp only[la,lc,ln,lm,lt',ld,ls,lr]);omega) (by (try simp only[la,lc,ln,lm,lt',ld,ls,lr]);omega)) ?_
         rintro _ _ ⟨v11,rfl,rfl⟩
         refine g' 7 O (tP O (zy (c:=((i+1:Nat):Int)) O O (zn (by omega) (by omega))) (g' 2 O (T.front 1 O (T.subH (HSub.fst 1 O) ?_))))
         exact tp3 (i+1) v11 (out++[u3]) (sa O) HSub.rfl' ⟨hE.raw hu3 (by omega),by omega,by (try simp only[la,List.length_singleton]);omega⟩ (by omega)
       · skip
         refine g' 1 O ?_
         by_cases hc12:((i+1:Nat):Int)<((b.size:Nat):Int)
         · skip
           obtain ⟨w13,hw13⟩:=zai b (i+1) (by omega)
           have hlw13:=w13.toNat_lt
           refine tS 46 ((decide (((w13.toNat:Nat):Int)=(34:Int))||decide (((w13.toNat:Nat):Int)=(92:Int)))) (fun _ hQ14=>?_) ?_
           · skip
             by_cases hg15:((w13.toNat:Nat):Int)=(34:Int)
             · skip
               refine g' 2 O (tP O (zy (c:=((i+1:Nat):Int)) O O (zn (by omega) (by omega))) (g' 1 O (tP O (zu O Tryz.runUnderlying9) (tP O (za5 O O (decide_eq_true hc12)) (g' 3 O (tG O (zy (c:=((i+1:Nat):Int)) O O (zn (by omega) (by omega))) (tG O (zl (k:=i+1) O O Tryz.runUnderlying9 (by first | rfl | omega) hw13) (tG O (zag O O (decide_eq_true hg15)) (g' 10 O ?_)))))))))
               exact tQ hQ14 O O (by first | (simp[hc12,hc8,hc9,hg15];done) | (simp_all;done))
             · skip
               refine g' 2 O (tP O (zy (c:=((i+1:Nat):Int)) O O (zn (by omega) (by omega))) (g' 1 O (tP O (zu O Tryz.runUnderlying9) (tP O (za5 O O (decide_eq_true hc12)) (g' 3 O (tG O (zy (c:=((i+1:Nat):Int)) O O (zn (by omega) (by omega))) (tG O (zl (k:=i+1) O O Tryz.runUnderlying9 (by first | rfl | omega) hw13) (tG O (zag O O (decide_eq_false hg15)) (g' 3 O (tG O (zy (c:=((i+1:Nat):Int)) O O (zn (by omega) (by omega))) (tG O (zl (k:=i+1) O O Tryz.runUnderlying9 (by first | rfl | omega) hw13) (g' 5 O ?_))))))))))))
               exact tQ hQ14 O O (by first | (simp[hc12,hc8,hc9,hg15];done) | (simp_all;done))
           · skip
             refine g' 1 O ?_
             refine tC O (fun hc16=>?_) (fun hc16=>?_)
             · simp only[bX,bJ] at hc16
               refine g' 5 O (tP O (zy (c:=((i+1:Nat):Int)) O O (zn (by omega) (by omega))) (tP O (zl (k:=i+1) O O Tryz.runUnderlying9 (by first | rfl | omega) hw13) (tE O (zE [.tmp 70] O O (.cons (CellD.v O) .nil) O Tryz.runUnderlying103 Tryz.sizeOf5 Tryz.zeroValue5 O O O O) ?_)))
               rintro _ _ ⟨g17,rfl,rfl⟩
               refine tE O (zz (f:=dU8) (l:=out) (l':=[w13]) (i:=1) O O O (SrcD.own (j:=0) O O) za6 zcf O O (by unfold maxLen;(try simp only[la,lc,ln,lm,lt',ld,ls,lr]);omega) (by (try simp only[la,lc,ln,lm,lt',ld,ls,lr]);omega)) ?_
               rintro _ _ ⟨v18,rfl,rfl⟩
               refine g' 5 O (tP O (zy (c:=((i+1:Nat):Int)) O O (zn (by omega) (by omega))) (g' 7 O (tP O (zy (c:=(((i+1)+1:Nat):Int)) O O (zn (by omega) (by omega))) (g' 2 O (T.front 1 O (T.subH (HSub.fst 1 O) ?_))))))
               exact tp3 ((i+1)+1) v18 (out++[w13]) (sa O) HSub.rfl' ⟨hE.e1 hu3 (by omega) hw13 (by omega),by omega,by (try simp only[la,List.length_singleton]);omega⟩ (by omega)
             · simp only[bX,bJ] at hc16
               refine g' 3 O (tP O (zy (c:=((i+1:Nat):Int)) O O (zn (by omega) (by omega))) (g' 1 O (tP O (zu O Tryz.runUnderlying9) (tP O (za5 O O (decide_eq_true hc12)) (g' 3 O (tG O (zy (c:=((i+1:Nat):Int)) O O (zn (by omega) (by omega))) (tG O (zl (k:=i+1) O O Tryz.runUnderlying9 (by first | rfl | omega) hw13) (g' 5 O ?_))))))))
               refine tD O (fun hc19=>?_) (fun hc19=>?_)
               · skip
                 refine g' 3 O (tE O (zE [.const (.int .u8 10)] O O (.cons (CellD.v O) .nil) O Tryz.runUnderlying103 Tryz.sizeOf5 Tryz.zeroValue5 O O O O) ?_)
                 rintro _ _ ⟨g20,rfl,rfl⟩
                 refine tE O (zz (f:=dU8) (l:=out) (l':=[(10:UInt8)]) (i:=1) O O O (SrcD.own (j:=0) O O) za6 zcf O O (by unfold maxLen;(try simp only[la,lc,ln,lm,lt',ld,ls,lr]);omega) (by (try simp only[la,lc,ln,lm,lt',ld,ls,lr]);omega)) ?_
                 rintro _ _ ⟨v21,rfl,rfl⟩
                 refine g' 5 O (tP O (zy (c:=((i+1:Nat):Int)) O O (zn (by omega) (by omega))) (g' 7 O (tP O (zy (c:=(((i+1)+1:Nat):Int)) O O (zn (by omega) (by omega))) (g' 2 O (T.front 1 O (T.subH (HSub.fst 1 O) ?_))))))
                 exact tp3 ((i+1)+1) v21 (out++[(10:UInt8)]) (sa O) HSub.rfl' ⟨hE.e2 hu3 (by omega) hw13 (by omega) (by omega),by omega,by (try simp only[la,List.length_singleton]);omega⟩ (by omega)
               · skip
                 refine g' 1 O ?_
                 by_cases hc22:((i+3:Nat):Int)<((b.size:Nat):Int)
                 · skip
                   obtain ⟨w23,hw23⟩:=zai b (i+2) (by omega)
                   have hlw23:=w23.toNat_lt
                   obtain ⟨w24,hw24⟩:=zai b (i+3) (by omega)
                   have hlw24:=w24.toNat_lt
                   refine g' 2 O (tP O (zy (c:=((i+3:Nat):Int)) O O (zn (by omega) (by omega))) (g' 1 O (tP O (zu O Tryz.runUnderlying9) (tP O (za5 O O (decide_eq_true hc22)) (g' 3 O (tG O (zy (c:=((i+1:Nat):Int)) O O (zn (by omega) (by omega))) (tG O (zl (k:=i+1) O O Tryz.runUnderlying9 (by first | rfl | omega) hw13) (g' 3 O ?_))))))))
                   refine tAnd 12 6 (c:=decide ((0:Int)≤hexI w23.toNat)) O O O O O O (fun hb25 nx26=>?_) ?_
                   · skip
                     have hf27:=of_decide_eq_true hb25
                     refine g' 2 O (tG O (zy (c:=((i+2:Nat):Int)) O O (zn (by omega) (by omega))) (tG O (zl (k:=i+2) O O Tryz.runUnderlying9 (by first | rfl | omega) hw23) (tW O acs (rhex_u w23) (g' 1 O ?_))))
                     exact nx26 _ O O (kx 6 O O)
                   refine g' 1 O ?_
                   refine tAnd 20 6 (c:=decide ((0:Int)≤hexI w24.toNat)) O O O O O O (fun hb28 nx29=>?_) ?_
                   · skip
                     obtain ⟨hf30,hf31⟩:=andT hb28
                     have hf32:=of_decide_eq_true hf30
                     have hf33:=of_decide_eq_true hf31
                     refine g' 2 O (tG O (zy (c:=((i+3:Nat):Int)) O O (zn (by omega) (by omega))) (tG O (zl (k:=i+3) O O Tryz.runUnderlying9 (by first | rfl | omega) hw24) (tW O acs (rhex_u w24) (g' 1 O ?_))))
                     exact nx29 _ O O (kx 6 O O)
                   refine g' 3 O ?_
                   refine tC O (fun hc34=>?_) (fun hc34=>?_)
                   · simp only[bX,bJ] at hc34
                     have hbp:=hexI_bd w23.toNat (by omega)
                     obtain ⟨p,hp⟩:∃ n:Nat,hexI w23.toNat=(n:Int):=⟨(hexI w23.toNat).toNat,by omega⟩
                     have hbq:=hexI_bd w24.toNat (by omega)
                     obtain ⟨q,hq⟩:∃ n:Nat,hexI w24.toNat=(n:Int):=⟨(hexI w24.toNat).toNat,by omega⟩
                     refine g' 1 O (T.keep [0,4,5,6,29,30,31,32,35,36,37,38,39,46,75,76,77,78,79,80,81,82,83,84,85,86,87,93,94,95,96,97,98,99,100,101,102,103,104,105,106,113,114,121] O ?_)
                     refine tDr 15 [(122,.ov ov,none),(123,.s b,none),(124,dN i,none),(125,dN (i+2),none),(126,.v (.int .u8 ((w23.toNat:Nat):Int)),none),(127,dI (hexI w23.toNat),none),(128,dN (16*p),none),(129,.s b,none),(130,dN i,none),(131,dN (i+3),none),(132,.v (.int .u8 ((w24.toNat:Nat):Int)),none),(133,dI (hexI w24.toNat),none),(134,dN (16*p+q),none),(135,.v (.int .u8 ((16*p+q:Nat):Int)),none),(136,.sh 1 ([(UInt8.ofNat (16*p+q))].map dU8),none)] [.sl ov 1 5 (out.map dU8)] (Hn:=[.sl ov 1 5 (out.map dU8)]) mixed O O O O HSub.rfl' O ⟨sa_p O O O (zi O),sa_p O O O (zi O),sa_p O O O (zi O),sa_p O O O (zy (c:=((i+2:Nat):Int)) O O (zn (by omega) (by omega))),sa_p O O O (zl (k:=i+2) O O Tryz.runUnderlying9 (by first | rfl | omega) hw23),sa_q O O O (qu_call O (gc .nil) Tryz.call185 (rhex_u w23) isR_share),sa_p O O O (zeq (c:=((16*p:Nat):Int)) O O (zn (by rw[hp];omega) (by omega))),sa_p O O O (zi O),sa_p O O O (zi O),sa_p O O O (zy (c:=((i+3:Nat):Int)) O O (zn (by omega) (by omega))),sa_p O O O (zl (k:=i+3) O O Tryz.runUnderlying9 (by first | rfl | omega) hw24),sa_q O O O (qu_call O (gc .nil) Tryz.call185 (rhex_u w24) isR_share),sa_p O O O (zy (c:=((16*p+q:Nat):Int)) O O (zn (by rw[hq];omega) (by omega))),sa_p O O O (zav O (c:=((16*p+q:Nat):Int)) (cv_3_5 (by omega))),sa_q O O O ((ze [.tmp 135] O O (.cons (CellD.v O) .nil) O Tryz.runUnderlying103 Tryz.sizeOf5 Tryz.zeroValue5 O O O O).cv (Cv.shs (.cons (Cv.eq (zci O (by omega))) .nil))),trivial⟩ ?_
                     refine tK O (tE O (zz (f:=dU8) (l:=out) (l':=[(UInt8.ofNat (16*p+q))]) (i:=0) O O O (SrcD.sh) za6 zcf O O (by unfold maxLen;(try simp only[la,lc,ln,lm,lt',ld,ls,lr]);omega) (by (try simp only[la,lc,ln,lm,lt',ld,ls,lr]);omega)) ?_)
                     rintro _ _ ⟨v35,rfl,rfl⟩
                     refine g' 5 O (tP O (zy (c:=((i+3:Nat):Int)) O O (zn (by omega) (by omega))) (g' 7 O (tP O (zy (c:=(((i+3)+1:Nat):Int)) O O (zn (by omega) (by omega))) (g' 2 O ?_))))
                     exact tp3 ((i+3)+1) v35 (out++[(UInt8.ofNat (16*p+q))]) (sa O) HSub.rfl' ⟨by have h3:=hE.e3 hu3 (by omega) hw13 (by omega) (by omega) (by omega) hw23 hw24 hp hq;rw[show p*16+q=16*p+q by omega] at h3;exact h3,by omega,by (try simp only[la,List.length_singleton]);omega⟩ (by omega)
                   · simp only[bX,bJ] at hc34
                     refine g' 13 O ?_
                     exact tRs O Tryz.results164 (.cons (zd (zc O) ((cS).trans (Cv.eq (congrArg D.s (by have T:=zef (s:=s) (by rw[hb];exact hE.n1 hu3 (by omega) hw13 (by omega) (by omega) (fun e=>by have e1:=e.1;have e2:=e.2.1;have e3:=e.2.2.1;have e4:=e.2.2.2;rw[←zx hw23] at e3;rw[←zx hw24] at e4;omega));first | exact T.1 | exact T.2))))) (.cons (zd (zc O) (cB ((by have T:=zef (s:=s) (by rw[hb];exact hE.n1 hu3 (by omega) hw13 (by omega) (by omega) (fun e=>by have e1:=e.1;have e2:=e.2.1;have e3:=e.2.2.1;have e4:=e.2.2.2;rw[←zx hw23] at e3;rw[←zx hw24] at e4;omega));first | exact T.1 | exact T.2)))) .nil)) O HSub.none ⟨O,O⟩
                 · skip
                   refine g' 2 O (tP O (zy (c:=((i+3:Nat):Int)) O O (zn (by omega) (by omega))) (g' 1 O (tP O (zu O Tryz.runUnderlying9) (tP O (za5 O O (decide_eq_false hc22)) (g' 40 O ?_)))))
                   exact tRs O Tryz.results164 (.cons (zd (zc O) ((cS).trans (Cv.eq (congrArg D.s (by have T:=zef (s:=s) (by rw[hb];exact hE.n1 hu3 (by omega) hw13 (by omega) (by omega) (fun e=>by have e1:=e.1;have e2:=e.2.1;have e3:=e.2.2.1;have e4:=e.2.2.2;omega));first | exact T.1 | exact T.2))))) (.cons (zd (zc O) (cB ((by have T:=zef (s:=s) (by rw[hb];exact hE.n1 hu3 (by omega) hw13 (by omega) (by omega) (fun e=>by have e1:=e.1;have e2:=e.2.1;have e3:=e.2.2.1;have e4:=e.2.2.2;omega));first | exact T.1 | exact T.2)))) .nil)) O HSub.none ⟨O,O⟩
         · skip
           refine g' 2 O (tP O (zy (c:=((i+1:Nat):Int)) O O (zn (by omega) (by omega))) (g' 1 O (tP O (zu O Tryz.runUnderlying9) (tP O (za5 O O (decide_eq_false hc12)) (g' 21 O (tP O (zy (c:=((i+1:Nat):Int)) O O (zn (by omega) (by omega))) (g' 1 O (tP O (zu O Tryz.runUnderlying9) (tP O (za5 O O (decide_eq_false hc12)) (g' 12 O ?_))))))))))
           have hno3:¬(((i+3:Nat):Int)<((b.size:Nat):Int)):=by omega
           refine g' 2 O (tP O (zy (c:=((i+3:Nat):Int)) O O (zn (by omega) (by omega))) (g' 1 O (tP O (zu O Tryz.runUnderlying9) (tP O (za5 O O (decide_eq_false hno3)) (g' 40 O ?_)))))
           exact tRs O Tryz.results164 (.cons (zd (zc O) ((cS).trans (Cv.eq (congrArg D.s (by have T:=zef (s:=s) (by rw[hb];exact hE.n0 hu3 (by omega) (by omega));first | exact T.1 | exact T.2))))) (.cons (zd (zc O) (cB ((by have T:=zef (s:=s) (by rw[hb];exact hE.n0 hu3 (by omega) (by omega));first | exact T.1 | exact T.2)))) .nil)) O HSub.none ⟨O,O⟩
     · skip
       have hms:(mkB out).size=out.length:=zM _
       have hdn:=hE.done (by omega)
       refine g' 8 O (tP O (p_bytesU (j:=0) O O Tryz.underlying103 (by kernel_rfl) (by kernel_rfl) (by unfold maxLen;omega)) (g' 7 O (tW O acs (refQuote_c (mkB out) (by omega)) (g' 4 O ?_))))
       refine tD O (fun hc36=>?_) (fun hc36=>?_)
       · skip
         refine g' 8 O ?_
         exact tRs O Tryz.results164 (.cons (zd (zc O) ((cS).trans (Cv.eq (congrArg D.s (by have T:=unq_off (s:=s) (by rw[hb];exact hdn) (by simpa using hc36);first | exact T.1 | exact T.2))))) (.cons (zd (zc O) (cB ((by have T:=unq_off (s:=s) (by rw[hb];exact hdn) (by simpa using hc36);first | exact T.1 | exact T.2)))) .nil)) O HSub.none ⟨O,O⟩
       · skip
         refine g' 10 O ?_
         exact tRs O Tryz.results164 (.cons (zd (zc O) (Cv.eq (congrArg D.s (by have T:=unq_yes (s:=s) (o:=out) (by simpa using hc36);first | exact T.1 | exact T.2)))) (.cons (zd (zc O) (cB ((by have T:=unq_yes (s:=s) (o:=out) (by simpa using hc36);first | exact T.1 | exact T.2)))) .nil)) O HSub.none ⟨O,O⟩
end Lp
set_option linter.unusedSimpArgs false
set_option linter.unusedVariables false
set_option maxHeartbeats 4000000
set_option maxRecDepth 100000
namespace Lp
open Go Go.RowKit Go.Proofs
theorem zcE (v:Nat) (hv:v≤9223372036854775807):
 CD Tryz.prog 26 [] [dN v] (isR (.s (digB v))):=by
 refine tZ Tryz.func26 O O (fun C=>?_)
 refine g' 19 O ?_
 refine tD O (fun hc1=>?_) (fun hc1=>?_)
 · skip
   exfalso;omega
 · skip
   refine g' 4 O (tl2 (fun (a_:Nat) (b_:ByteArray)=>[(0,dN v),(2,.v (.string ByteArray.empty)),(4,dN a_),(3,.s b_)]) (fun a_ b_=>[]) (fun a_ b_=>(DigI v a_ b_)∧(2*b_.size≤v+4∧(a_=0∨2*b_.size+a_≤v+2))) (fun a_ b_=>2*a_+(1-b_.size)) v ByteArray.empty O ⟨sk O,sk O,sk O,sc O cS,trivial⟩ HSub.rfl' ⟨DigI.zero,by show 2*0≤_∧(_∨2*0+_≤_);omega⟩ ?_)
   rintro n o ⟨hI,hz⟩
   refine g' 6 O ?_
   refine tOr 2 2 (c:=decide (o=ByteArray.empty)) O O O O O O (fun hb2 nx3=>?_) ?_
   · skip
     have hf4:=of_decide_eq_false hb2
     refine g' 2 O ?_
     exact nx3 _ O O (kx 2 O O)
   refine g' 2 O ?_
   refine tC O (fun hc5=>?_) (fun hc5=>?_)
   · simp only[bX,bJ] at hc5
     refine g' 6 O (tP O (zfp (c:=((n % 10:Nat):Int)) O O (by omega) (by rw[Int.tmod_eq_emod_of_nonneg (by omega)];omega)) (tP O (zy (c:=((48+(n % 10):Nat):Int)) O O (zn (by omega) (by omega))) (tP O (zav O (c:=((48+(n % 10):Nat):Int)) (cv_3_5 (by omega))) (tE O (zE [.tmp 19] O O (.cons (CellD.v O) .nil) O Tryz.runUnderlying103 Tryz.sizeOf5 Tryz.zeroValue5 O O O O) ?_))))
     rintro _ _ ⟨g6,rfl,rfl⟩
     refine tP O ((p_bytes (j:=0) (xs:=[((48+(n % 10):Nat):Int)]) O O (by simp) za6 (by kernel_rfl) (by kernel_rfl)).cv (Cv.str (by rw[strOfNums_size];show 1≤maxLen;decide))) (g' 1 O (tP O (zbn O O (by unfold maxLen;(try simp only[ByteArray.size_append]);(try simp only[ByteArray.size_append,strOfNums_size]);have e1:[((48+(n % 10):Nat):Int)].length=1:=O;omega)) (g' 5 O (tP O (zdS (c:=((n / 10:Nat):Int)) O O (by omega) (zn (by rw[Int.tdiv_eq_ediv_of_nonneg (by omega)];omega) (by omega))) (g' 3 O ?_)))))
     exact tp2 (n / 10) ((⟨#[UInt8.ofNat (48+n % 10)]⟩:ByteArray)++o) ⟨sk rfl,sk rfl,sk rfl,sc rfl (Cv.eq (congrArg D.s (by rw[nums_one (by omega)];rfl))),trivial⟩ HSub.none ⟨hI.next (by have h:=hc5;rcases h with h | h;(exact .inl (by omega));(exact .inr h)),by have ho:0<n∨o.size=0:=(by have h:=hc5;rcases h with h | h;(exact .inl (by omega));(exact .inr (by rw[h];rfl)));have h1:(⟨#[UInt8.ofNat (48+n % 10)]⟩:ByteArray).size=1:=rfl;(try simp only[ByteArray.size_append]);omega⟩ (by have ho:0<n∨o.size=0:=(by have h:=hc5;rcases h with h | h;(exact .inl (by omega));(exact .inr (by rw[h];rfl)));have h1:(⟨#[UInt8.ofNat (48+n % 10)]⟩:ByteArray).size=1:=rfl;show _<_;simp only[ByteArray.size_append];omega)
   · simp only[bX,bJ] at hc5
     refine g' 12 O ?_
     refine tD O (fun hc7=>?_) (fun hc7=>?_)
     · skip
       exfalso;omega
     · skip
       refine g' 9 O ?_
       exact tRs O Tryz.results26 (.cons (zd (zc O) (Cv.eq (congrArg D.s (by have h:=hc5;exact hI.done (by omega) h.2)))) .nil) O HSub.none ⟨O,O⟩
theorem rword_c (s:ByteArray) :
 CD Tryz.prog 162 [] [.s s] (isR (.tup [dN (runL (inK [1,2]) (bl8 s)),dN (wcL (bl8 s))])):=by
 refine tZ Tryz.func162 O O (fun C=>?_)
 refine T.bd 0 O (fun bd0=>?_)
 have sz0:s.size≤9223372036854775807:=bd0
 refine g' 14 O (tl2 (fun (a_:Nat) (b_:Nat)=>[(0,.s s),(2,dI 0),(3,dI 0),(4,dN a_),(5,dN b_)]) (fun a_ b_=>[]) (fun a_ b_=>(runL (inK [1,2]) (bl8 s)=a_+runL (inK [1,2]) (bts s a_))∧(wcL (bl8 s)=b_+wcL (bts s a_))∧(a_≤s.size)∧(b_≤a_)) (fun a_ b_=>s.size-a_) 0 0 O (sa O) HSub.rfl' ⟨run_start,wc_start,Nat.zero_le _,Nat.le_refl _⟩ ?_)
 rintro n k ⟨hf,hk,hn,hkn⟩
 refine g' 5 O (tP O (zu O Tryz.runUnderlying9) (g' 3 O ?_))
 refine tD O (fun hc1=>?_) (fun hc1=>?_)
 · skip
   have hlt:n<s.size:=by omega
   refine g' 7 O (tP O (zw (a:=n) (c:=s.size) O O O (by first | rfl | (show _=_;omega)) (by first | rfl | (show _=_;omega)) Tryz.runUnderlying9 (by omega) (by omega)) (tW O acs (rfirst_c (s.extract n s.size) (by first | omega | (simp only[ByteArray.size_extract];omega))) (tW O acs (zcO ((decR (s.extract n s.size) 0:Nat):Int)) (g' 9 O ?_))))
   refine tAnd 2 2 (c:=decide (zt ((decR (s.extract n s.size) 0:Nat):Int)≠(2:Int))) O O O O O O (fun hb2 nx3=>?_) ?_
   · skip
     have hf4:=of_decide_eq_true hb2
     refine g' 2 O ?_
     exact nx3 _ O O (kx 2 O O)
   refine g' 2 O ?_
   refine tC O (fun hc5=>?_) (fun hc5=>?_)
   · simp only[bX,bJ] at hc5
     have hk0:=hc5
     rw[show (decR (s.extract n s.size) 0)=decR s n by rw[decR_extract,Nat.add_zero]] at hk0
     have hst:=notLD hk0
     refine g' 15 O ?_
     exact tRs O Tryz.results162 (.cons (zd (zc O) (Cv.eq (congrArg dN (by first | exact run_stop hf hst | exact wc_stop hk hst)))) (.cons (zd (zc O) (Cv.eq (congrArg dN (by first | exact run_stop hf hst | exact wc_stop hk hst)))) .nil)) O HSub.none ⟨O,O⟩
   · simp only[bX,bJ] at hc5
     have hk0:=hc5
     rw[show (decR (s.extract n s.size) 0)=decR s n by rw[decR_extract,Nat.add_zero]] at hk0
     have hgo:isLD ((decR s n:Nat):Int)=true:=zdz.2 (by omega)
     have hdw:=zJ s n hlt
     have hdp:=zp s n
     have hde:decW (s.extract n s.size) 0=decW s n:=by rw[decW_extract,Nat.add_zero]
     refine g' 7 O (tP O (zw (a:=n) (c:=s.size) O O O (by first | rfl | (show _=_;omega)) (by first | rfl | (show _=_;omega)) Tryz.runUnderlying9 (by omega) (by omega)) (tW O acs (rwide_c (s.extract n s.size) (by first | omega | (simp only[ByteArray.size_extract];omega))) (tP O (zy (c:=((n+(decW (s.extract n s.size) 0):Nat):Int)) O O (zn (by omega) (by omega))) (g' 5 O (tP O (zy (c:=((k+1:Nat):Int)) O O (zn (by omega) (by omega))) (g' 3 O ?_))))))
     exact tp2 (n+(decW (s.extract n s.size) 0)) (k+1) (sa O) HSub.rfl' ⟨by rw[hde];exact run_next hf hlt hgo,by rw[hde];exact wc_next hk hlt hgo,by omega,by omega⟩ (by omega)
 · skip
   have hge:s.size≤n:=by omega
   refine g' 14 O ?_
   exact tRs O Tryz.results162 (.cons (zd (zc O) (Cv.eq (congrArg dN (by first | exact(Nat.le_antisymm hn hge).trans (run_end hf hge hn) | exact wc_end hk hge)))) (.cons (zd (zc O) (Cv.eq (congrArg dN (by first | exact(Nat.le_antisymm hn hge).trans (run_end hf hge hn) | exact wc_end hk hge)))) .nil)) O HSub.none ⟨O,O⟩
end Lp
