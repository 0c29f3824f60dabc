import Derived.Test.YtheccaeefigajaaGreatDoorV97
set_option linter.unusedSimpArgs false
set_option linter.unusedVariables false
set_option maxHeartbeats 4000000
set_option maxRecDepth 100000
namespace Lp
open Go Go.RowKit Go.Proofs
theorem zdd:BdP Tryz.prog #[⟨"Op",9,0,false, "", "",0⟩,⟨"Text",9,1,false, "", "",16⟩,⟨"N",3,2,false, "", "",32⟩,⟨"Mode",3,3,false, "", "",40⟩,⟨"Names",23,4,false, "", "",48⟩,⟨"Matchers",24,5,false, "", "",72⟩,⟨"Kids",25,6,false, "", "",96⟩] [(0,1),(1,1),(2,1),(3,1),(4,1),(5,1),(6,1)]:=fun _=>by kernel_rfl
theorem bd_65:BdP Tryz.prog #[⟨"Name",9,0,false, "", "",0⟩,⟨"Op",3,1,false, "", "",16⟩,⟨"Value",9,2,false, "", "",24⟩] [(0,1),(1,1),(2,1)]:=fun _=>by kernel_rfl
theorem infz_65:IzP Tryz.prog 65 (.agg #[(.string ByteArray.empty),(.int .i64 0),(.string ByteArray.empty)]) 3 40:=zcs (by kernel_rfl)
theorem und_24:Tryz.prog.underlying 24=some (.slice 65):=by kernel_rfl
theorem snoc_all {α:Type} {p:α→Prop} {l:List α} {x:α} (h:∀ y∈l,p y) (hx:p x):∀ y∈l++[x],p y:=fun y hy=>by
 rcases List.mem_append.1 hy with k | k
 · exact h y k
 · rw[List.mem_singleton.1 k];exact hx
theorem braces_c (g:Nat) (s:Rd) (hw:s.n+2*(s.l.length:Int)≤3000000) (hn:0≤s.n) (hT:TOk s.l):
 CD Tryz.prog 233 [RB g s] [dP g 0] (fun r H'=>∃ l s',(l,s')=s.braces rmD∧r=.sh 3 (l.map MatD.d)∧H'=[RB g s']):=by
 refine tZ Tryz.func233 O O (fun C=>?_)
 refine g' 13 O (tX [0] O O (kl (.cons (ArgC.cv cS) .nil)) (zbP g s gT (by omega) (by omega) hT) ?_)
 rintro _ _ ⟨s1,e1,rfl,rfl⟩
 obtain ⟨ka1,kb1,kc1,hT1⟩:=(zah e1).out hT
 refine g' 6 O (tE O (Qu.ef (d:=.sh 1 ([gG].map D.s)) ((ze [.const (.string gG)] O O (.cons (CellD.v O) .nil) O Tryz.runUnderlying23 Tryz.sizeOf9 Tryz.zeroValue9 O O O O).cv (Cv.shs (.cons cS .nil)))) ?_)
 rintro _ _ ⟨rfl,rfl⟩
 refine tX [0] O O acs (is_c g s1 5 [gG] (by omega) (by omega) hT1) ?_
 rintro _ _ ⟨rfl,rfl⟩
 refine g' 2 O ?_
 refine tC O (fun hc3=>?_) (fun hc3=>?_)
 · skip
   refine g' 3 O (tX [0] O O (kl (.cons (ArgC.cv cS) .nil)) (zbP g s1 gG (by omega) (by omega) hT1) ?_)
   rintro _ _ ⟨s4,e4,rfl,rfl⟩
   obtain ⟨ka4,kb4,kc4,hT4⟩:=(zah e4).out hT1
   refine g' 9 O ?_
   exact tRs O Tryz.results233 (.cons (zd (zc O) (Cv.nil)) .nil) O (HSub.fst 1 O) ⟨[],⟨s4.l,s4.n,s4.b⟩,braces_0 rmD e1 hc3 e4,O,O⟩
 · skip
   refine g' 4 O (tl4 (fun (a_:Nat) (b_:Rd) (c_:Value) (d_:List MatD)=>[(0,dP g 0),(2,dZ),(3,.ov c_)]) (fun a_ b_ c_ d_=>[.sl c_ 3 65 (d_.map MatD.d),RB g b_]) (fun a_ b_ c_ d_=>(b_.l.length<a_)∧(zaq a_ d_ b_=zaq (s1.l.length+1) [] s1)∧(b_.n+2*(b_.l.length:Int)≤3000000)∧(0≤b_.n)∧(TOk b_.l)∧(d_.length+b_.l.length≤1500000)∧(∀ x∈d_,x.n.size≤1000∧x.v.size≤1000)) (fun a_ b_ c_ d_=>a_) (s1.l.length+1) s1 (.slice none 0 0) [] O ⟨sk O,sk O,sc O (Cv.ov O),trivial⟩ (HSub.nil 3 65) ⟨Nat.lt_succ_self _,O,(by omega),(by omega),hT1,(by show 0+s1.l.length≤_;omega),(fun x hx=>by cases hx)⟩ ?_)
   rintro f z ov o ⟨hlf,hf,hzw,hzn,hz,hol,hmo⟩
   obtain ⟨f,rfl⟩:∃ k,f=k+1:=⟨f-1,by omega⟩
   refine gQ 10 [1] O O ?_
   refine tC O (fun hc5=>?_) (fun hc5=>?_)
   · simp only[bX,bJ] at hc5
     have hbf:z.b=false:=by simpa using hc5
     refine g' 6 O (tX [1] O O acs (zeX g z 1 (by omega) (by omega) hz (by decide)) ?_)
     rintro _ _ ⟨t6,s6,e6,rfl,rfl⟩
     obtain ⟨ka6,kb6,kc6,hT6⟩:=(zch e6).out hz
     have kz6:=zcg e6 hz
     refine tP O (zf [0] [.tmp 22] (zv:=(.agg #[(.string ByteArray.empty),(.int .i64 0),(.string ByteArray.empty)])) O O (.cons CellD.s .nil) (Tryz.runUnderlying65) Tryz.zeroValue65 bd_65 ⟨O,O,O,trivial⟩ O) ?_
     refine tA O (fun g7=>?_)
     refine gQ 6 [0] O O (tE O (Qu.ef (d:=.sh 1 ([gW,gw,gy,gx].map D.s)) ((ze [.const (.string gW),.const (.string gw),.const (.string gy),.const (.string gx)] O O (.cons (CellD.v O) (.cons (CellD.v O) (.cons (CellD.v O) (.cons (CellD.v O) .nil)))) O Tryz.runUnderlying23 Tryz.sizeOf9 Tryz.zeroValue9 O O O O).cv (Cv.shs (.cons cS (.cons cS (.cons cS (.cons cS .nil))))))) ?_)
     rintro _ _ ⟨rfl,rfl⟩
     refine tX [1] O O acs (zcW g s6 5 [gW,gw,gy,gx] (by omega) (by omega) hT6 (by decide)) ?_
     rintro _ _ ⟨t8,q8,s8,e8,rfl,rfl⟩
     obtain ⟨ka8,kb8,kc8,hT8⟩:=(zcV e8).out hT6
     have kz8:=zcU e8 hT6
     refine gQ 15 [0] O O ?_
     refine tOr 5 2 (c:=!q8) O O O O O O (fun hb9 nx10=>?_) ?_
     · skip
       refine g' 2 O ?_
       exact nx10 _ O O (kx 2 O O)
     refine gQ 6 [0] O O ?_
     obtain ⟨s11,e11⟩:∃ x:Rd,x=⟨s8.l,s8.n,(s8.b||!q8)⟩:=⟨_,rfl⟩
     have hl11:s11.l=s8.l:=by rw[e11]
     have hn11:s11.n=s8.n:=by rw[e11]
     have hT11:TOk s11.l:=by rw[hl11];exact hT8
     have hk11:s11.l.length=s8.l.length:=by rw[hl11]
     refine T.norm [RB g s11,.bx g7 65 (.agg [.s t6,dI 0,.v (.string ByteArray.empty)]),.sl ov 3 65 (o.map MatD.d)] (by rw[e11]<;>rfl) (g' 2 O (tW O acs (opM_c t8) (g' 1 O (tX [0] O O acs (zeX g s11 3 (by omega) (by omega) hT11 (by decide)) ?_))))
     rintro _ _ ⟨t12,s12,e12,rfl,rfl⟩
     obtain ⟨ka12,kb12,kc12,hT12⟩:=(zch e12).out hT11
     have kz12:=zcg e12 hT11
     refine gQ 10 [1,1,1] O O (tE O (Qu.ef (d:=.sh 3 ([(MatD.mk t6 (opM t8) t12)].map MatD.d)) (ze [.tmp 48] O O (.cons CellD.agg .nil) O Tryz.runUnderlying24 Tryz.sizeOf65 Tryz.zeroValue65 O O O O)) ?_)
     rintro _ _ ⟨rfl,rfl⟩
     refine tE O (zz (f:=MatD.d) (l:=o) (l':=[(MatD.mk t6 (opM t8) t12)]) (i:=2) O O O (SrcD.sh) und_24 infz_65 O O (by unfold maxLen;(try simp only[la,lc,ln,lm,lt',ld,ls,lr]);omega) (by (try simp only[la,lc,ln,lm,lt',ld,ls,lr]);omega)) ?_
     rintro _ _ ⟨v13,rfl,rfl⟩
     refine g' 6 O (tE O (Qu.ef (d:=.sh 1 ([gV].map D.s)) ((ze [.const (.string gV)] O O (.cons (CellD.v O) .nil) O Tryz.runUnderlying23 Tryz.sizeOf9 Tryz.zeroValue9 O O O O).cv (Cv.shs (.cons cS .nil)))) ?_)
     rintro _ _ ⟨rfl,rfl⟩
     refine tX [0] O O acs (zcW g s12 5 [gV] (by omega) (by omega) hT12 (by decide)) ?_
     rintro _ _ ⟨t14,q14,s14,e14,rfl,rfl⟩
     obtain ⟨ka14,kb14,kc14,hT14⟩:=(zcV e14).out hT12
     have kz14:=zcU e14 hT12
     refine g' 13 O ?_
     refine tC O (fun hc15=>?_) (fun hc15=>?_)
     · simp only[bX,bJ] at hc15
       have hff:=hf.symm.trans (braces_end hbf e6 e8 e11 e12 e14 (by simpa using hc15))
       have hmq:∀ x∈(o++[(MatD.mk t6 (opM t8) t12)]),x.n.size≤1000∧x.v.size≤1000:=snoc_all hmo ⟨by omega,by omega⟩
       have hlq:(o++[(MatD.mk t6 (opM t8) t12)]).length≤2000000:=by simp only[la,List.length_singleton];omega
       refine g' 8 O (tX [0] O O (kl (.cons (ArgC.cv cS) .nil)) (zbP g s14 gG (by omega) (by omega) hT14) ?_)
       rintro _ _ ⟨s16,e16,rfl,rfl⟩
       obtain ⟨ka16,kb16,kc16,hT16⟩:=(zah e16).out hT14
       refine gQ 10 [0] O O ?_
       refine tOr 5 3 (c:=!(rmD (o++[(MatD.mk t6 (opM t8) t12)]))) O O O O O O (fun hb17 nx18=>?_) ?_
       · skip
         refine g' 1 O (tV [2] O O (.cons (ArgC.own (j:=0) O O) .nil) (rightM_c (o++[(MatD.mk t6 (opM t8) t12)]) (by omega) hmq) O (g' 1 O ?_))
         exact nx18 _ O O (kx 3 O O)
       refine gQ 12 [0] O O (T.front 2 O ?_)
       refine T.mv (Mv.freeze (K':=[(0,dP g 0),(2,.sh 3 ((o++[(MatD.mk t6 (opM t8) t12)]).map MatD.d)),(3,.sh 3 ((o++[(MatD.mk t6 (opM t8) t12)]).map MatD.d)),(4,dP g7 0),(5,.s t8),(6,dB q8),(7,.s t14),(8,dB q14),(16,dP g 0),(17,dP g 0),(18,dP g 2),(19,dB z.b),(20,dB (!z.b)),(21,dP g 0),(22,.s t6),(23,.agg [.s t6,dI 0,.v (.string ByteArray.empty)]),(24,.tup [.s t8,dB q8]),(25,dP g 0),(26,.sh 1 ([gW,gw,gy,gx].map D.s)),(27,.tup [.s t8,dB q8]),(28,.s t8),(29,dB q8),(30,dP g 0),(31,dP g 0),(32,dP g 0),(33,dP g 2),(34,dB s8.b),(35,dB s8.b),(38,dB (s8.b||!q8)),(39,dP g 0),(40,dP g 2),(41,.s t8),(42,dI (opM t8)),(43,dP g 0),(44,.s t12),(45,dP g7 1),(46,dP g7 2),(47,.ov ov),(48,.agg [.s t6,dI (opM t8),.s t12]),(49,.sh 3 ([(MatD.mk t6 (opM t8) t12)].map MatD.d)),(50,.sh 3 ((o++[(MatD.mk t6 (opM t8) t12)]).map MatD.d)),(51,.tup [.s t14,dB q14]),(52,dP g 0),(53,.sh 1 ([gV].map D.s)),(54,.tup [.s t14,dB q14]),(55,.s t14),(56,dB q14),(57,dB q14),(58,dB (!q14)),(59,dP g 0),(60,.tup []),(61,dP g 0),(62,dP g 0),(63,dP g 0),(64,dP g 2),(65,dB s16.b),(66,dB s16.b),(70,dB (s16.b||!(rmD (o++[(MatD.mk t6 (opM t8) t12)])))),(71,dP g 0),(72,dP g 2),(73,.sh 3 ((o++[(MatD.mk t6 (opM t8) t12)]).map MatD.d))]) [.sl v13 3 65 ((o++[(MatD.mk t6 (opM t8) t12)]).map MatD.d)] (H1:=[.bx g 72 (.agg [.sh 3 (s16.l.map TokD.d),dI s16.n,dB (s16.b||!(rmD (o++[(MatD.mk t6 (opM t8) t12)])))]),.bx g7 65 (.agg [.s t6,dI (opM t8),.s t12])]) (H1':=[.bx g 72 (.agg [.sh 3 (s16.l.map TokD.d),dI s16.n,dB (s16.b||!(rmD (o++[(MatD.mk t6 (opM t8) t12)])))]),.bx g7 65 (.agg [.s t6,dI (opM t8),.s t12])]) ⟨⟨_,O,ArgC.id⟩,⟨_,O,ArgC.own (j:=0) O O⟩,⟨_,O,ArgC.own (j:=0) O O⟩,⟨_,O,ArgC.id⟩,⟨_,O,ArgC.id⟩,⟨_,O,ArgC.id⟩,⟨_,O,ArgC.id⟩,⟨_,O,ArgC.id⟩,⟨_,O,ArgC.id⟩,⟨_,O,ArgC.id⟩,⟨_,O,ArgC.id⟩,⟨_,O,ArgC.id⟩,⟨_,O,ArgC.id⟩,⟨_,O,ArgC.id⟩,⟨_,O,ArgC.id⟩,⟨_,O,ArgC.id⟩,⟨_,O,ArgC.id⟩,⟨_,O,ArgC.id⟩,⟨_,O,ArgC.id⟩,⟨_,O,ArgC.id⟩,⟨_,O,ArgC.id⟩,⟨_,O,ArgC.id⟩,⟨_,O,ArgC.id⟩,⟨_,O,ArgC.id⟩,⟨_,O,ArgC.id⟩,⟨_,O,ArgC.id⟩,⟨_,O,ArgC.id⟩,⟨_,O,ArgC.id⟩,⟨_,O,ArgC.id⟩,⟨_,O,ArgC.id⟩,⟨_,O,ArgC.id⟩,⟨_,O,ArgC.id⟩,⟨_,O,ArgC.id⟩,⟨_,O,ArgC.id⟩,⟨_,O,ArgC.id⟩,⟨_,O,ArgC.id⟩,⟨_,O,ArgC.id⟩,⟨_,O,ArgC.id⟩,⟨_,O,ArgC.id⟩,⟨_,O,ArgC.id⟩,⟨_,O,ArgC.own (j:=0) O O⟩,⟨_,O,ArgC.id⟩,⟨_,O,ArgC.id⟩,⟨_,O,ArgC.id⟩,⟨_,O,ArgC.id⟩,⟨_,O,ArgC.id⟩,⟨_,O,ArgC.id⟩,⟨_,O,ArgC.id⟩,⟨_,O,ArgC.id⟩,⟨_,O,ArgC.id⟩,⟨_,O,ArgC.id⟩,⟨_,O,ArgC.id⟩,⟨_,O,ArgC.id⟩,⟨_,O,ArgC.id⟩,⟨_,O,ArgC.id⟩,⟨_,O,ArgC.id⟩,⟨_,O,ArgC.id⟩,⟨_,O,ArgC.id⟩,⟨_,O,ArgC.id⟩,⟨_,O,ArgC.id⟩,⟨_,O,ArgC.own (j:=0) O O⟩,trivial⟩ (.same (.same .nil))) ?_
       exact tR O (HSub.fst 1 O) ⟨(o++[(MatD.mk t6 (opM t8) t12)]),⟨s16.l,s16.n,(s16.b||!(rmD (o++[(MatD.mk t6 (opM t8) t12)])))⟩,braces_1 rmD e1 (by simpa using hc3) hff e16,O,O⟩
     · simp only[bX,bJ] at hc15
       obtain ⟨ky,_⟩:=take_y e14 (by decide) (by simpa using hc15)
       refine g' 2 O (T.front 2 O (T.subH (HSub.fst 2 O) ?_))
       exact tp4 f s14 v13 (o++[(MatD.mk t6 (opM t8) t12)]) (sa O) HSub.rfl' ⟨by omega,(braces_go hbf e6 e8 e11 e12 e14 (by simpa using hc15)).symm.trans hf,by omega,by omega,hT14,by simp only[la,List.length_singleton];omega,snoc_all hmo ⟨by omega,by omega⟩⟩ (by omega)
   · simp only[bX,bJ] at hc5
     have hff:=hf.symm.trans (braces_bad (by simpa using hc5))
     have hmq:=hmo
     have hlq:o.length≤2000000:=by omega
     refine g' 8 O (tX [1] O O (kl (.cons (ArgC.cv cS) .nil)) (zbP g z gG (by omega) (by omega) hz) ?_)
     rintro _ _ ⟨s19,e19,rfl,rfl⟩
     obtain ⟨ka19,kb19,kc19,hT19⟩:=(zah e19).out hz
     refine gQ 10 [0] O O ?_
     refine tOr 5 3 (c:=!(rmD o)) O O O O O O (fun hb20 nx21=>?_) ?_
     · skip
       refine g' 1 O (tV [1] O O (.cons (ArgC.own (j:=0) O O) .nil) (rightM_c o (by omega) hmq) O (g' 1 O ?_))
       exact nx21 _ O O (kx 3 O O)
     refine gQ 12 [0] O O (T.front 1 O ?_)
     refine T.mv (Mv.freeze (K':=[(0,dP g 0),(2,.sh 3 (o.map MatD.d)),(3,.sh 3 (o.map MatD.d)),(16,dP g 0),(17,dP g 0),(18,dP g 2),(19,dB z.b),(20,dB (!z.b)),(59,dP g 0),(60,.tup []),(61,dP g 0),(62,dP g 0),(63,dP g 0),(64,dP g 2),(65,dB s19.b),(66,dB s19.b),(70,dB (s19.b||!(rmD o))),(71,dP g 0),(72,dP g 2),(73,.sh 3 (o.map MatD.d))]) [.sl ov 3 65 (o.map MatD.d)] (H1:=[.bx g 72 (.agg [.sh 3 (s19.l.map TokD.d),dI s19.n,dB (s19.b||!(rmD o))])]) (H1':=[.bx g 72 (.agg [.sh 3 (s19.l.map TokD.d),dI s19.n,dB (s19.b||!(rmD o))])]) ⟨⟨_,O,ArgC.id⟩,⟨_,O,ArgC.own (j:=0) O O⟩,⟨_,O,ArgC.own (j:=0) O O⟩,⟨_,O,ArgC.id⟩,⟨_,O,ArgC.id⟩,⟨_,O,ArgC.id⟩,⟨_,O,ArgC.id⟩,⟨_,O,ArgC.id⟩,⟨_,O,ArgC.id⟩,⟨_,O,ArgC.id⟩,⟨_,O,ArgC.id⟩,⟨_,O,ArgC.id⟩,⟨_,O,ArgC.id⟩,⟨_,O,ArgC.id⟩,⟨_,O,ArgC.id⟩,⟨_,O,ArgC.id⟩,⟨_,O,ArgC.id⟩,⟨_,O,ArgC.id⟩,⟨_,O,ArgC.id⟩,⟨_,O,ArgC.own (j:=0) O O⟩,trivial⟩ (.same .nil)) ?_
     exact tR O (HSub.fst 1 O) ⟨o,⟨s19.l,s19.n,(s19.b||!(rmD o))⟩,braces_1 rmD e1 (by simpa using hc3) hff e19,O,O⟩
theorem selName_e {s s':Rd} {t:ByteArray} (e:(t,s')=s.selName):Stp 0 s s':=by
 have h:s'=s.selName.2:=congrArg Prod.snd e
 rw[h];unfold Rd.selName;split;exact zcu s 1;exact Stp.rfl' s
theorem selMs_e {s s':Rd} {t:ByteArray} {ms:List MatD} (e:(ms,s')=s.selMs rmD t):Stp 0 s s':=by
 have h:s'=(s.selMs rmD t).2:=congrArg Prod.snd e
 rw[h];unfold Rd.selMs;split;exact braces_stp rmD s;exact(Stp.rfl' s).bad _
theorem selWin_e {s s':Rd} {w:Int} (e:(w,s')=s.selWin):Stp 0 s s':=by
 have h:s'=s.selWin.2:=congrArg Prod.snd e
 rw[h];unfold Rd.selWin;split
 · exact(((zZ s 5 [tSq]).trans (zbj _ 4)).trans (zP _ _)).le (by omega)
 · exact zZ s 5 _
theorem selMs_bad {s:Rd} {t:ByteArray} (h:¬s.is 5 [zbb]=true) (ht:t=ByteArray.empty):([],(⟨s.l,s.n,true⟩:Rd))=s.selMs rmD t:=by rw[←selMs_0 rmD h,decide_eq_true ht,Bool.or_true]
theorem selMs_no {s:Rd} {t:ByteArray} (h:¬s.is 5 [zbb]=true) (ht:¬t=ByteArray.empty):([],(⟨s.l,s.n,s.b⟩:Rd))=s.selMs rmD t:=by rw[←selMs_0 rmD h,decide_eq_false ht,Bool.or_false]
theorem selector_c (g:Nat) (s:Rd) (ev es:Value) (hev:EvOk ev) (hes:EvOk es) (hw:s.n+2*(s.l.length:Int)≤3000000) (hn:0≤s.n) (hT:TOk s.l):
 CD Tryz.prog 222 [RB g s,HPow,HErr ev,HSyn es] [dP g 0] (NdR g ev es (s.selector rmD)):=by
 refine tZ Tryz.func222 O O (fun C=>?_)
 refine g' 2 O ?_
 refine tA O (fun g1=>?_)
 refine g' 4 O (tP O (zf [0] [.const (.string g9)] (zv:=n9) O O (.cons (CellD.v O) .nil) (Tryz.runUnderlying27) Tryz.zeroValue27 zdd ⟨O,O,O,O,O,O,O,trivial⟩ O) ?_)
 refine tA O (fun g2=>?_)
 refine gQ 4 [0] O O (T.subH (HSub.turn (h':=.bx g2 27 (.agg [.s nSel,.s ByteArray.empty,dI 0,dI 0,.sh 1 (([]:List ByteArray).map D.s),.sh 3 (([]:List MatD).map MatD.d),.sh 7 (Nd.ds ([]:List Nd))])) O (Hp.cv_bx (Cv.agg (.cons cS (.cons cS (km (km (.cons Cv.nil (.cons Cv.nil (.cons Cv.nil .nil)))))))))) (g' 2 O (tX [2] O O acs (peek_c g s (by omega) (by omega) hT) ?_)))
 rintro _ _ ⟨rfl,rfl⟩
 refine tA O (fun g4=>?_)
 refine gQ 10 [0,0] O O ?_
 refine tAnd 3 4 (c:=!(zdc s.pk.t)) O O O O O O (fun hb5 nx6=>?_) ?_
 · skip
   have hf7:=of_decide_eq_true hb5
   refine gQ 2 [0] O O (tW O acs (kept_c s.pk.t) (g' 1 O ?_))
   exact nx6 _ O O (kx 4 O O)
 refine g' 2 O ?_
 refine tJ (fun (jg:ByteArray×Rd)=>[(0,dP g 0),(2,dP g1 0),(3,dP g2 0)]) (fun (jg:ByteArray×Rd)=>[.bx g1 27 (.agg [.v (.string ByteArray.empty),.v (.string ByteArray.empty),dI 0,dI 0,dZ,dZ,dZ]),.bx g2 27 (.agg [.s nSel,.s jg.1,dI 0,dI 0,.sh 1 (([]:List ByteArray).map D.s),.sh 3 (([]:List MatD).map MatD.d),.sh 7 (Nd.ds ([]:List Nd))]),.bx g 72 (.agg [.sh 3 (jg.2.l.map TokD.d),dI jg.2.n,dB jg.2.b]),HPow,HErr ev,HSyn es]) (fun (jg:ByteArray×Rd)=>((jg.1,jg.2)=s.selName)) (fun _ hQ8=>?_) ?_
 · skip
   refine tC O (fun hc9=>?_) (fun hc9=>?_)
   · simp only[bX,bJ] at hc9
     have hkk:s.pk.k=1∧zdc s.pk.t=false:=by simpa using hc9
     refine g' 2 O (tX [1] O O acs (zeX g s 1 (by omega) (by omega) hT (by decide)) ?_)
     rintro _ _ ⟨t10,s10,e10,rfl,rfl⟩
     obtain ⟨ka10,kb10,kc10,hT10⟩:=(zch e10).out hT
     have kz10:=zcg e10 hT
     refine gQ 3 [2] O O (T.front 6 O (T.front 6 O (T.front 6 O (T.front 3 O (T.front 5 O (T.front 6 O (T.subH (HSub.fst 6 O) ?_)))))))
     exact tqe (hQ8 (t10,s10) (selName_1 hkk e10)) O
   · simp only[bX,bJ] at hc9
     have hkk:¬(s.pk.k=1∧zdc s.pk.t=false):=by rintro ⟨a,b⟩;have h:=hc9;rcases h with h | h;exact h a;(rw[b] at h;cases h)
     refine g' 1 O (T.front 6 O (T.front 6 O (T.front 6 O (T.front 4 O (T.front 5 O (T.front 6 O (T.subH (HSub.fst 6 O) ?_)))))))
     exact tqe (hQ8 (ByteArray.empty,s) (selName_0 hkk)) O
 · skip
   rintro ⟨t,z⟩ hsel
   replace hsel:(t,z)=s.selName:=hsel
   refine T.kk [(0,dP g 0),(2,dP g1 0),(3,dP g2 0)] O (T.norm [.bx g1 27 (.agg [.v (.string ByteArray.empty),.v (.string ByteArray.empty),dI 0,dI 0,dZ,dZ,dZ]),.bx g2 27 (.agg [.s nSel,.s t,dI 0,dI 0,.sh 1 (([]:List ByteArray).map D.s),.sh 3 (([]:List MatD).map MatD.d),.sh 7 (Nd.ds ([]:List Nd))]),RB g z,HPow,HErr ev,HSyn es] (by rfl) (g' 3 O ?_))
   obtain ⟨kx1,ky1,kz1,hTj1⟩:=(selName_e hsel).out hT
   refine g' 2 O (tE O (Qu.ef (d:=.sh 1 ([gT].map D.s)) ((ze [.const (.string gT)] O O (.cons (CellD.v O) .nil) O Tryz.runUnderlying23 Tryz.sizeOf9 Tryz.zeroValue9 O O O O).cv (Cv.shs (.cons cS .nil)))) ?_)
   rintro _ _ ⟨rfl,rfl⟩
   refine tX [2] O O acs (is_c g z 5 [gT] (by omega) (by omega) hTj1) ?_
   rintro _ _ ⟨rfl,rfl⟩
   refine g' 2 O ?_
   refine tJ (fun (jg:List MatD×Rd)=>[(0,dP g 0),(2,dP g1 0),(3,dP g2 0)]) (fun (jg:List MatD×Rd)=>[.bx g1 27 (.agg [.v (.string ByteArray.empty),.v (.string ByteArray.empty),dI 0,dI 0,dZ,dZ,dZ]),.bx g2 27 (.agg [.s nSel,.s t,dI 0,dI 0,.sh 1 (([]:List ByteArray).map D.s),.sh 3 (jg.1.map MatD.d),.sh 7 (Nd.ds ([]:List Nd))]),.bx g 72 (.agg [.sh 3 (jg.2.l.map TokD.d),dI jg.2.n,dB jg.2.b]),HPow,HErr ev,HSyn es]) (fun (jg:List MatD×Rd)=>((jg.1,jg.2)=z.selMs rmD t)) (fun _ hQ12=>?_) ?_
   · skip
     refine tC O (fun hc13=>?_) (fun hc13=>?_)
     · skip
       refine g' 2 O (tX [0] O O acs (braces_c g z (by omega) (by omega) hTj1) ?_)
       rintro _ _ ⟨l14,s14,e14,rfl,rfl⟩
       obtain ⟨ka14,kb14,kc14,hT14⟩:=(braces_e rmD e14).out hTj1
       refine gQ 3 [2] O O (T.front 5 O (T.front 5 O (T.front 5 O (T.front 3 O (T.front 5 O (T.front 5 O ?_))))))
       exact tqe (hQ12 (l14,s14) (selMs_1 rmD hc13 e14)) O
     · skip
       refine gQ 7 [2] O O ?_
       refine tD O (fun hc15=>?_) (fun hc15=>?_)
       · skip
         refine gQ 6 [0] O O (T.front 5 O (T.front 5 O (T.front 5 O (T.front 3 O (T.front 5 O (T.front 5 O ?_))))))
         exact tqe (hQ12 (([]:List MatD),(⟨z.l,z.n,true⟩:Rd)) (selMs_bad (by simpa using hc13) hc15)) O
       · skip
         refine g' 1 O (T.front 5 O (T.front 5 O (T.front 5 O (T.front 3 O (T.front 5 O (T.front 5 O ?_))))))
         exact tqe (hQ12 (([]:List MatD),(⟨z.l,z.n,z.b⟩:Rd)) (selMs_no (by simpa using hc13) hc15)) O
   · skip
     rintro ⟨ms,y⟩ hms
     replace hms:(ms,y)=z.selMs rmD t:=hms
     refine T.kk [(0,dP g 0),(2,dP g1 0),(3,dP g2 0)] O (T.norm [.bx g1 27 (.agg [.v (.string ByteArray.empty),.v (.string ByteArray.empty),dI 0,dI 0,dZ,dZ,dZ]),.bx g2 27 (.agg [.s nSel,.s t,dI 0,dI 0,.sh 1 (([]:List ByteArray).map D.s),.sh 3 (ms.map MatD.d),.sh 7 (Nd.ds ([]:List Nd))]),RB g y,HPow,HErr ev,HSyn es] (by rfl) (g' 3 O ?_))
     obtain ⟨kx2,ky2,kz2,hTj2⟩:=(selMs_e hms).out hTj1
     refine g' 2 O (tE O (Qu.ef (d:=.sh 1 ([hC].map D.s)) ((ze [.const (.string hC)] O O (.cons (CellD.v O) .nil) O Tryz.runUnderlying23 Tryz.sizeOf9 Tryz.zeroValue9 O O O O).cv (Cv.shs (.cons cS .nil)))) ?_)
     rintro _ _ ⟨rfl,rfl⟩
     refine tX [2] O O acs (zcW g y 5 [hC] (by omega) (by omega) hTj2 (by decide)) ?_
     rintro _ _ ⟨t16,q16,s16,e16,rfl,rfl⟩
     obtain ⟨ka16,kb16,kc16,hT16⟩:=(zcV e16).out hTj2
     have kz16:=zcU e16 hTj2
     refine g' 12 O ?_
     refine tJ (fun (jg:Int×Rd)=>[(0,dP g 0),(2,dP g1 0),(3,dP g2 0)]) (fun (jg:Int×Rd)=>[.bx g1 27 (.agg [.v (.string ByteArray.empty),.v (.string ByteArray.empty),dI 0,dI 0,dZ,dZ,dZ]),.bx g2 27 (.agg [.s nSel,.s t,dI jg.1,dI 0,.sh 1 (([]:List ByteArray).map D.s),.sh 3 (ms.map MatD.d),.sh 7 (Nd.ds ([]:List Nd))]),.bx g 72 (.agg [.sh 3 (jg.2.l.map TokD.d),dI jg.2.n,dB jg.2.b]),HPow,HErr ev,HSyn es]) (fun (jg:Int×Rd)=>((jg.1,jg.2)=y.selWin)) (fun _ hQ17=>?_) ?_
     · skip
       refine tC O (fun hc18=>?_) (fun hc18=>?_)
       · skip
         refine g' 3 O (tX [0,2,2,2] O O acs (rdnum_c g s16 4 ev es hev hes (by omega) (by omega) hT16 (by omega)) ?_)
         rintro _ _ ⟨v19,s19,e19,rfl,rfl⟩
         obtain ⟨ka19,kb19,kc19,hT19⟩:=(number_e e19).out hT16
         have kv19:=number_bd e19 (by omega) hT16
         refine gQ 6 [5] O O (tX [0] O O (kl (.cons (ArgC.cv cS) .nil)) (zbP g s19 kh (by omega) (by omega) hT19) ?_)
         rintro _ _ ⟨s20,e20,rfl,rfl⟩
         obtain ⟨ka20,kb20,kc20,hT20⟩:=(zah e20).out hT19
         refine g' 1 O (T.front 3 O (T.front 3 O (T.front 3 O (T.front 3 O (T.front 5 O (T.front 5 O ?_))))))
         exact tqe (hQ17 (v19,s20) (selWin_1 e16 hc18 e19 e20)) O
       · skip
         refine g' 1 O (T.front 5 O (T.front 5 O (T.front 5 O (T.front 3 O (T.front 5 O (T.front 5 O ?_))))))
         exact tqe (hQ17 (0,s16) (selWin_0 e16 (by simpa using hc18))) O
     · skip
       rintro ⟨w,v⟩ hwi
       replace hwi:(w,v)=y.selWin:=hwi
       refine T.kk [(0,dP g 0),(2,dP g1 0),(3,dP g2 0)] O (T.norm [.bx g1 27 (.agg [.v (.string ByteArray.empty),.v (.string ByteArray.empty),dI 0,dI 0,dZ,dZ,dZ]),.bx g2 27 (.agg [.s nSel,.s t,dI w,dI 0,.sh 1 (([]:List ByteArray).map D.s),.sh 3 (ms.map MatD.d),.sh 7 (Nd.ds ([]:List Nd))]),RB g v,HPow,HErr ev,HSyn es] (by rfl) (g' 2 O ?_))
       obtain ⟨kx3,ky3,kz3,hTj3⟩:=(selWin_e hwi).out hTj2
       refine gQ 3 [1] O O (tX [2] O O acs (zeP g v (.s nSel) (.s t) (dI w) (dI 0) (.sh 1 (([]:List ByteArray).map D.s)) (.sh 3 (ms.map MatD.d)) (.sh 7 (Nd.ds ([]:List Nd))) (by omega) (by omega) hTj3) ?_)
       rintro _ _ ⟨s21,e21,rfl,rfl⟩
       obtain ⟨ka21,kb21,kc21,hT21⟩:=(zeO e21).out hTj3
       refine gQ 4 [1] O O (T.front 5 O (T.front 5 O (T.front 5 O (T.front 3 O ?_))))
       exact tRs O Tryz.results222 (.cons (zh (i:=4) O O Tryz.isAgg27 Tryz.sizeOf27 O O) .nil) O (HSub.fst 4 O) ⟨nSel,t,w,0,([]:List ByteArray),ms,([]:List Nd),⟨s21.l,s21.n,s21.b⟩,selector_of rmD hsel hms hwi e21,O,O⟩
end Lp
set_option linter.unusedVariables false
namespace Lp
open Go
section
variable (p:List Int)
def nx (a:Nat):Int:=p.getD a (-1)
def zaN (a:Nat) (b:Bool):Int×Nat×Bool:=
 if nx p a=92 then(nx p (a+1),a+1+1,b||decide (nx p (a+1)<0)) else(nx p a,a+1,b||decide (nx p a<0))
def zc5 (a:Nat):Prop:=nx p a=45∧a+1<p.length∧nx p (a+1)≠93
instance (a:Nat):Decidable (zc5 p a):=by unfold zc5;infer_instance
def two7 (a:Nat) (b:Bool):Int×Int×Nat×Bool:=
 let i:=zaN p a b
 if zc5 p i.2.1 then(i.1,(zaN p (i.2.1+1) i.2.2).1,(zaN p (i.2.1+1) i.2.2).2.1,(zaN p (i.2.1+1) i.2.2).2.2) else(i.1,i.1,i.2.1,i.2.2)
def zaB:Nat→Nat→Nat→Bool→Nat×Bool
 | 0,_,a,b=>(a,b)
 | f+1,n,a,b=>
  if b=true∨(nx p a=93∧n≠0) then(a,b)
  else if nx p a=93∨p.length≤a then(a,true)
  else
   let t:=two7 p a b
   zaB f (n+1) t.2.2.1 (t.2.2.2||decide (t.2.1<t.1))
def zc6 (a:Nat) (b:Bool):Nat×Bool:=
 let a0:=if nx p a=94 then a+1 else a
 let r:=zaB p (p.length+1) 0 a0 b
 (r.1+1,r.2)
def zbf (alt:Nat→Bool→Nat×Bool) (a:Nat) (b:Bool):Nat×Bool:=
 if nx p a=40 then((alt (a+1) b).1+1,(alt (a+1) b).2||decide (nx p (alt (a+1) b).1≠41))
 else if nx p a=91 then zc6 p (a+1) b
 else if nx p a=46 then(a+1,b)
 else if nx p a=92 then(a+1+1,b||decide (p.length≤a+1))
 else(a+1,b||decide (nx p a=42∨nx p a=43∨nx p a=63∨nx p a=93))
def zbv (alt:Nat→Bool→Nat×Bool) (a:Nat) (b:Bool):Nat×Bool:=
 let x:=zbf p alt a b
 if nx p x.1=42∨nx p x.1=43∨nx p x.1=63 then(x.1+1,x.2) else x
def zas (alt:Nat→Bool→Nat×Bool):Nat→Nat→Bool→Nat×Bool
 | 0,a,b=>(a,b)
 | f+1,a,b=>if b=true∨p.length≤a∨nx p a=124∨nx p a=41 then(a,b) else zas alt f (zbv p alt a b).1 (zbv p alt a b).2
def zaH (alt:Nat→Bool→Nat×Bool) (a:Nat) (b:Bool):Nat×Bool:=zas p alt (p.length+1-a) a b
def zaz (alt:Nat→Bool→Nat×Bool):Nat→Nat→Bool→Nat×Bool
 | 0,a,b=>(a,b)
 | f+1,a,b=>if nx p a=124∧b=false then zaz alt f (zaH p alt (a+1) b).1 (zaH p alt (a+1) b).2 else(a,b)
def alt7:Nat→Nat→Bool→Nat×Bool
 | 0,a,b=>(a,b)
 | f+1,a,b=>zaz p (alt7 f) (p.length+1-(zaH p (alt7 f) a b).1) (zaH p (alt7 f) a b).1 (zaH p (alt7 f) a b).2
def pat7:Bool:=!(alt7 p (p.length+1) 0 false).2&&decide (p.length≤(alt7 p (p.length+1) 0 false).1)
structure Rl (u:PR) (t:Nat×Bool):Prop where
 g:u.b=false→t.2=false∧t.1≤p.length∧u.l=p.drop t.1
 d:u.b=true→t.2=true
variable {p}
theorem Rl.no {u:PR} {t:Nat×Bool} (h:u.b=true) (k:t.2=true):Rl p u t:=⟨fun e=>(by rw[h] at e;cases e),fun _=>k⟩
theorem Rl.yes {u:PR} {t:Nat×Bool} (h:u.b=false) (k:t.2=false) (a:t.1≤p.length) (e:u.l=p.drop t.1):Rl p u t:=⟨fun _=>⟨k,a,e⟩,fun e=>(by rw[h] at e;cases e)⟩
theorem nx_head {a:Nat} {x:Int} (h0:0≤x):nx p a=x↔(p.drop a).head?=some x:=by
 unfold nx
 rw[List.getD_eq_getElem?_getD,List.head?_drop]
 cases h:p[a]? with
 | none=>simp;omega
 | some y=>simp
theorem zd6 {a:Nat} {c:Int} {b:Bool} (h0:0≤c):PR.has ⟨p.drop a,b⟩ c=decide (nx p a=c):=by
 unfold PR.has;simp only[nx_head h0]
theorem drop_ne {a:Nat} (h:a<p.length):p.drop a=nx p a::p.drop (a+1):=by
 rw[List.drop_eq_getElem_cons h]
 unfold nx;rw[List.getD_eq_getElem?_getD,List.getElem?_eq_getElem h];rfl
theorem zd4 {a:Nat} {x:Int} (h0:0≤x) (h:nx p a=x):a<p.length:=by
 have:=(nx_head h0).1 h
 rcases Nat.lt_or_ge a p.length with k | k
 · exact k
 · rw[List.drop_eq_nil_of_le k] at this;cases this
theorem zeu {a:Nat} {b:Bool} (h:a<p.length):PR.any ⟨p.drop a,b⟩=(nx p a,⟨p.drop (a+1),b⟩):=by
 unfold PR.any;rw[drop_ne h]
theorem any_end {a:Nat} {b:Bool} (h:p.length≤a):PR.any ⟨p.drop a,b⟩=(0,⟨[],true⟩):=by
 unfold PR.any;rw[List.drop_eq_nil_of_le h]
theorem nx_end {a:Nat} (h:p.length≤a):nx p a= -1:=by
 unfold nx;rw[List.getD_eq_getElem?_getD,List.getElem?_eq_none h];rfl
theorem zdH {a:Nat} {c:Int} {b:Bool} (h0:0≤c):PR.take ⟨p.drop a,b⟩ c=if nx p a=c then(true,⟨p.drop (a+1),b⟩) else(false,⟨p.drop a,b⟩):=by
 unfold PR.take;rw[zd6 h0]
 by_cases e:nx p a=c
 · rw[if_pos e,if_pos (by simpa using e)]
   have:=zd4 h0 e
   simp only[List.tail_drop]
 · rw[if_neg e,if_neg (by simpa using e)]
theorem dash_7 {a:Nat}:(1<(p.drop a).length∧(p.drop a).headD 0=45∧(p.drop a).tail.headD 0≠93)↔zc5 p a:=by
 unfold zc5
 rw[List.length_drop]
 rcases Nat.lt_or_ge (a+1) p.length with k | k
 · rw[drop_ne (show a<p.length by omega),drop_ne k]
   simp only[List.headD_cons,List.tail_cons]
   constructor
   · rintro ⟨_,h1,h2⟩;exact⟨h1,k,h2⟩
   · rintro ⟨h1,_,h2⟩;exact⟨by omega,h1,h2⟩
 · constructor
   · rintro ⟨h,_,_⟩;omega
   · rintro ⟨_,h,_⟩;omega
theorem two_adv {a:Nat} {b:Bool}:a<(two7 p a b).2.2.1:=by
 have h:∀ a b,a<(zaN p a b).2.1:=fun a b=>by unfold zaN;split<;>simp<;>omega
 unfold two7;simp only;split
 · have h1:=h a b;have h2:=h ((zaN p a b).2.1+1) (zaN p a b).2.2;simp only;omega
 · exact h a b
theorem classF_nx {nt:Bool} {F a:Nat} {o:List RngD}:zaG nt (F+1) o ⟨p.drop a,false⟩=if 0<o.length∧nx p a=93 then(⟨false,nt,o⟩,⟨p.drop (a+1),false⟩) else if p.length≤a∨nx p a=93 then(⟨false,nt,o⟩,⟨p.drop a,true⟩)
 else zaG nt F (o++[(PR.item ⟨p.drop a,false⟩).1]) ⟨(PR.item ⟨p.drop a,false⟩).2.l,(PR.item ⟨p.drop a,false⟩).2.b||decide ((PR.item ⟨p.drop a,false⟩).1.hi<(PR.item ⟨p.drop a,false⟩).1.lo)⟩:=by
 conv=>lhs;unfold zaG
 rw[if_neg (show ¬(⟨p.drop a,false⟩:PR).b=true from Bool.false_ne_true),zd6 (c:=93) (by decide)]
 simp only[decide_eq_true_eq]
 by_cases h1:0<o.length∧nx p a=93
 · rw[if_pos h1,if_pos h1,zdH (c:=93) (by decide),if_pos h1.2]
 · rw[if_neg h1,if_neg h1]
   by_cases h2:p.length≤a∨nx p a=93
   · rw[if_pos h2,if_pos (by rcases h2 with k | k;exact .inl (List.drop_eq_nil_of_le k);exact .inr k)]
   · rw[if_neg h2,if_neg (by rintro (k | k);exact h2 (.inl (List.drop_eq_nil_iff.1 k));exact h2 (.inr k))]
theorem classF_bad {nt:Bool} (F:Nat) (o:List RngD) (l:List Int):(zaG nt F o ⟨l,true⟩).2=⟨l,true⟩:=by
 cases F with
 | zero=>rfl
 | succ F=>unfold zaG;rw[if_pos rfl]
theorem class7F_bad (F n a:Nat):zaB p F n a true=(a,true):=by
 cases F with
 | zero=>rfl
 | succ F=>unfold zaB;rw[if_pos (.inl rfl)]
variable (hp:∀ c∈p,0≤c)
include hp
theorem nx_pos {a:Nat} (h:a<p.length):0≤nx p a:=by
 unfold nx;rw[List.getD_eq_getElem?_getD,List.getElem?_eq_getElem h];exact hp _ (List.getElem_mem h)
theorem member_7 {a:Nat} (ha:a<p.length):((PR.member ⟨p.drop a,false⟩).2.b=false→(zaN p a false).2.2=false∧(zaN p a false).2.1≤p.length∧PR.member ⟨p.drop a,false⟩=((zaN p a false).1,⟨p.drop (zaN p a false).2.1,false⟩))∧((PR.member ⟨p.drop a,false⟩).2.b=true→(zaN p a false).2.2=true):=by
 unfold PR.member zaN
 rw[zeu ha]
 by_cases e:nx p a=92
 · rw[if_pos e,if_pos e]
   rcases Nat.lt_or_ge (a+1) p.length with k | k
   · rw[zeu k]
     have:=nx_pos hp k
     refine⟨fun _=>⟨?_,k,O⟩,fun h=>by cases h⟩
     simp;omega
   · rw[any_end k,nx_end k]
     exact⟨fun h=>(by cases h),fun _=>rfl⟩
 · rw[if_neg e,if_neg e]
   have:=nx_pos hp ha
   refine⟨fun _=>⟨?_,ha,O⟩,fun h=>by cases h⟩
   simp;omega
theorem item_7 {a:Nat} (ha:a<p.length):((PR.item ⟨p.drop a,false⟩).2.b=false→(two7 p a false).2.2.2=false∧(two7 p a false).2.2.1≤p.length∧PR.item ⟨p.drop a,false⟩=(⟨(two7 p a false).1,(two7 p a false).2.1⟩,⟨p.drop (two7 p a false).2.2.1,false⟩))∧((PR.item ⟨p.drop a,false⟩).2.b=true→(two7 p a false).2.2.2=true):=by
 obtain ⟨m1,m2⟩:=member_7 hp ha
 unfold PR.item two7
 simp only
 by_cases hb:(PR.member ⟨p.drop a,false⟩).2.b=true
 · -- a backslash at the end:nothing is left
   have hl:(PR.member ⟨p.drop a,false⟩).2.l=[]:=by
    unfold PR.member at hb ⊢
    rw[zeu ha] at hb ⊢
    by_cases e:nx p a=92
    · rw[if_pos e] at hb ⊢
      rcases Nat.lt_or_ge (a+1) p.length with k | k
      · rw[zeu k] at hb;cases hb
      · rw[any_end k]
    · rw[if_neg e] at hb;cases hb
   rw[if_neg (by rw[hl];simp)]
   refine⟨fun h=>(by rw[hb] at h;cases h),fun _=>?_⟩
   have hbad:=m2 hb
   have hd:¬zc5 p (zaN p a false).2.1:=fun h=>by
    have h2:=h.2.1
    unfold zaN at h2 hbad
    by_cases e:nx p a=92
    · rw[if_pos e] at h2 hbad
      simp only at h2
      have:=nx_pos hp (a:=a+1) (by omega)
      simp at hbad;omega
    · rw[if_neg e] at hbad
      have:=nx_pos hp ha
      simp at hbad;omega
   rw[if_neg hd];exact hbad
 · have hb:(PR.member ⟨p.drop a,false⟩).2.b=false:=by simpa using hb
   obtain ⟨g1,g2,g3⟩:=m1 hb
   rw[g3]
   simp only
   by_cases hd:zc5 p (zaN p a false).2.1
   · rw[if_pos ((dash_7).2 hd),if_pos hd]
     have hk:=hd.2.1
     rw[zeu (show (zaN p a false).2.1<p.length by omega),g1]
     simp only
     obtain ⟨n1,n2⟩:=member_7 hp hk
     exact⟨fun h=>by
      obtain ⟨q1,q2,q3⟩:=n1 h
      exact⟨q1,q2,by rw[q3]⟩,n2⟩
   · rw[if_neg (fun h=>hd ((dash_7).1 h)),if_neg hd]
     exact⟨fun _=>⟨g1,g2,O⟩,fun h=>by cases h⟩
theorem class_7 (nt:Bool):∀ (F F' n:Nat) (o:List RngD) (a:Nat),o.length=n→a≤p.length→p.length<F+a→p.length<F'+a→Rl p (zaG nt F o ⟨p.drop a,false⟩).2 ((zaB p F' n a false).1+1,(zaB p F' n a false).2)
 | 0,_,_,_,_,_,h,k,_=>by omega
 | _,0,_,_,_,_,h,_,k=>by omega
 | F+1,F'+1,n,o,a,hn,ha,hF,hF'=>by
  rw[classF_nx]
  unfold zaB
  by_cases h1:0<o.length∧nx p a=93
  · rw[if_pos h1,if_pos (.inr ⟨h1.2,by omega⟩)]
    exact Rl.yes O O (zd4 (by decide) h1.2) O
  · rw[if_neg h1,if_neg (show ¬(false=true∨nx p a=93∧n≠0) from fun h=>by rcases h with k | k;cases k;exact h1 ⟨by omega,k.1⟩)]
    by_cases h2:p.length≤a∨nx p a=93
    · rw[if_pos h2,if_pos h2.symm]
      exact Rl.no O O
    · have hal:a<p.length:=by omega
      rw[if_neg h2,if_neg (fun h=>h2 h.symm)]
      simp only
      obtain ⟨i1,i2⟩:=item_7 hp hal
      have hadv:=two_adv (p:=p) (a:=a) (b:=false)
      by_cases hb:(PR.item ⟨p.drop a,false⟩).2.b=true
      · rw[hb,i2 hb]
        simp only[Bool.true_or]
        rw[classF_bad,class7F_bad]
        exact Rl.no O O
      · obtain ⟨g1,g2,g3⟩:=i1 (by simpa using hb)
        rw[g3,g1]
        simp only[Bool.false_or]
        by_cases hlt:(two7 p a false).2.1<(two7 p a false).1
        · rw[decide_eq_true hlt,classF_bad,class7F_bad]
          exact Rl.no O O
        · rw[decide_eq_false hlt]
          exact class_7 nt F F' (n+1) _ _ (by simp[hn]) g2 (by omega) (by omega)
theorem cls_7 {a:Nat} (ha:a≤p.length):Rl p (PR.cls ⟨p.drop a,false⟩).2 (zc6 p a false):=by
 unfold PR.cls zc6
 rw[zdH (c:=94) (by decide)]
 by_cases h:nx p a=94
 · have hl:=zd4 (by decide) h
   rw[if_pos h,if_pos h]
   simp only
   exact class_7 hp true _ _ 0 [] _ O hl (by rw[List.length_drop];omega) (by omega)
 · rw[if_neg h,if_neg h]
   simp only
   exact class_7 hp false _ _ 0 [] _ O ha (by rw[List.length_drop];omega) (by omega)
def Alt (alt:PR→Pt×PR) (alt':Nat→Bool→Nat×Bool) (m:Nat):Prop:=∀ a,m≤a→a≤p.length→Rl p (alt ⟨p.drop a,false⟩).2 (alt' a false)
omit hp in
theorem sgn_7 {c:Int} (h1:c≠124) (h2:c≠41):sgnN.any (fun x=>decide (x=c))=decide (c=42∨c=43∨c=63∨c=93):=by
 unfold sgnN
 simp only[List.any_cons,List.any_nil,Bool.or_false]
 rw[Bool.eq_iff_iff]
 simp only[Bool.or_eq_true,decide_eq_true_eq]
 omega
theorem atom_7 {alt:PR→Pt×PR} {alt':Nat→Bool→Nat×Bool} {a:Nat} (hal:Alt (p:=p) alt alt' (a+1)) (ha:a<p.length) (h1:nx p a≠124) (h2:nx p a≠41):Rl p ((PR.atom ⟨p.drop a,false⟩ alt).2) (zbf p alt' a false):=by
 unfold PR.atom zbf
 simp only
 rw[zeu ha]
 simp only
 by_cases c1:nx p a=40
 · rw[if_pos c1,if_pos c1]
   have h:=hal (a+1) (Nat.le_refl _) ha
   by_cases hb:(alt ⟨p.drop (a+1),false⟩).2.b=true
   · rw[if_pos hb,h.d hb]
     exact Rl.no hb O
   · obtain ⟨g1,g2,g3⟩:=h.g (by simpa using hb)
     rw[if_neg hb,g1]
     have e:(alt ⟨p.drop (a+1),false⟩).2=⟨p.drop (alt' (a+1) false).1,false⟩:=by
      rw[←g3];cases hx:(alt ⟨p.drop (a+1),false⟩).2 with
      | mk l b=>rw[hx] at hb;simp at hb;rw[hb]
     rw[e,zdH (c:=41) (by decide)]
     by_cases hc:nx p (alt' (a+1) false).1=41
     · rw[if_pos hc]
       have:=zd4 (by decide) hc
       exact Rl.yes O (by simp[hc]) this O
     · rw[if_neg hc]
       exact Rl.no O (by simp[hc])
 · rw[if_neg c1,if_neg c1]
   by_cases c2:nx p a=91
   · rw[if_pos c2,if_pos c2];exact cls_7 hp ha
   · rw[if_neg c2,if_neg c2]
     by_cases c3:nx p a=46
     · rw[if_pos c3,if_pos c3];exact Rl.yes rfl rfl ha rfl
     · rw[if_neg c3,if_neg c3]
       by_cases c4:nx p a=92
       · rw[if_pos c4,if_pos c4]
         rcases Nat.lt_or_ge (a+1) p.length with k | k
         · rw[zeu k];exact Rl.yes rfl (by simp;omega) k rfl
         · rw[any_end k];exact Rl.no rfl (by simp;omega)
       · rw[if_neg c4,if_neg c4,sgn_7 h1 h2]
         by_cases c5:nx p a=42∨nx p a=43∨nx p a=63∨nx p a=93
         · rw[decide_eq_true c5];exact Rl.no rfl rfl
         · rw[decide_eq_false c5];exact Rl.yes rfl rfl ha rfl
theorem again_7 {alt:PR→Pt×PR} {alt':Nat→Bool→Nat×Bool} {a:Nat} (hal:Alt (p:=p) alt alt' (a+1)) (ha:a<p.length) (h1:nx p a≠124) (h2:nx p a≠41):Rl p ((PR.atom ⟨p.drop a,false⟩ alt).2.times (PR.atom ⟨p.drop a,false⟩ alt).1).2 (zbv p alt' a false):=by
 have h:=atom_7 hp hal ha h1 h2
 have hst:∀ (s:PR) (x:Pt),s.b=true→(s.times x).2.b=true:=fun s x h=>by
  have ht:∀ c,(s.take c).2.b=s.b:=fun c=>by unfold PR.take;split<;>rfl
  unfold PR.times;repeat' split
  all_goals first | exact(ht _).trans h | exact h
 by_cases hb:(PR.atom ⟨p.drop a,false⟩ alt).2.b=true
 · refine Rl.no (hst _ _ hb) ?_
   unfold zbv;simp only;split
   · exact h.d hb
   · exact h.d hb
 · obtain ⟨g1,g2,g3⟩:=h.g (by simpa using hb)
   have e:(PR.atom ⟨p.drop a,false⟩ alt).2=⟨p.drop (zbf p alt' a false).1,false⟩:=by
    rw[←g3];cases hx:(PR.atom ⟨p.drop a,false⟩ alt).2 with
    | mk l b=>rw[hx] at hb;simp at hb;rw[hb]
   rw[e]
   unfold PR.times zbv
   rw[zd6 (c:=42) (by decide),zd6 (c:=43) (by decide),zd6 (c:=63) (by decide),zdH (c:=42) (by decide),zdH (c:=43) (by decide),zdH (c:=63) (by decide)]
   simp only[decide_eq_true_eq]
   by_cases c1:nx p (zbf p alt' a false).1=42
   · rw[if_pos c1,if_pos c1,if_pos (.inl c1)];exact Rl.yes rfl g1 (zd4 (by decide) c1) rfl
   · by_cases c2:nx p (zbf p alt' a false).1=43
     · rw[if_neg c1,if_pos c2,if_pos c2,if_pos (.inr (.inl c2))];exact Rl.yes rfl g1 (zd4 (by decide) c2) rfl
     · by_cases c3:nx p (zbf p alt' a false).1=63
       · rw[if_neg c1,if_neg c2,if_pos c3,if_pos c3,if_pos (.inr (.inr c3))];exact Rl.yes rfl g1 (zd4 (by decide) c3) rfl
       · rw[if_neg c1,if_neg c2,if_neg c3,if_neg (by rintro (k | k | k);exact c1 k;exact c2 k;exact c3 k)];exact Rl.yes rfl g1 g2 rfl
omit hp in
theorem st_eq {u:PR} {t:Nat×Bool} (h:Rl p u t) (hb:¬u.b=true):u=⟨p.drop t.1,false⟩∧t.2=false∧t.1≤p.length:=by
 obtain ⟨g1,g2,g3⟩:=h.g (by simpa using hb)
 refine⟨?_,g1,g2⟩
 obtain ⟨l,b⟩:=u
 simp at hb g3;rw[hb,g3]
omit hp in
theorem partsF_bad {alt:PR→Pt×PR} (F:Nat) (o:List Pt) {s:PR} (h:s.b=true):(zam alt F o s).2=s:=by
 cases F with
 | zero=>rfl
 | succ F=>unfold zam;rw[if_pos (.inl h)]
omit hp in
theorem behind7F_bad {alt':Nat→Bool→Nat×Bool} (F a:Nat):zas p alt' F a true=(a,true):=by
 cases F with
 | zero=>rfl
 | succ F=>unfold zas;rw[if_pos (.inl rfl)]
theorem parts_7 {alt:PR→Pt×PR} {alt':Nat→Bool→Nat×Bool} {m:Nat} (hle:∀ s,(alt s).2.l.length≤s.l.length) (hal:Alt (p:=p) alt alt' m):∀ (F F':Nat) (o:List Pt) (a:Nat),m≤a+1→a≤p.length→p.length<F+a→p.length<F'+a→Rl p (zam alt F o ⟨p.drop a,false⟩).2 (zas p alt' F' a false)∧((zam alt F o ⟨p.drop a,false⟩).2.b=false→a≤(zas p alt' F' a false).1)
 | 0,_,_,_,_,h,k,_=>by omega
 | _,0,_,_,_,h,_,k=>by omega
 | F+1,F'+1,o,a,hm,ha,hF,hF'=>by
  unfold zam zas
  have hs:PR.stop ⟨p.drop a,false⟩=decide (p.length≤a∨nx p a=124∨nx p a=41):=by
   unfold PR.stop;rw[zd6 (c:=124) (by decide),zd6 (c:=41) (by decide),Bool.eq_iff_iff]
   simp only[Bool.or_eq_true,decide_eq_true_eq,List.drop_eq_nil_iff,or_assoc]
  rw[hs]
  by_cases h:p.length≤a∨nx p a=124∨nx p a=41
  · rw[if_pos (.inr (decide_eq_true h)),if_pos (.inr h)]
    exact⟨Rl.yes O O ha O,fun _=>Nat.le_refl _⟩
  · rw[if_neg (by rw[decide_eq_false h];simp),if_neg (fun k=>by rcases k with k | k;cases k;exact h k)]
    simp only
    have hla:a<p.length:=by omega
    have hag:=again_7 hp (alt:=alt) (alt':=alt') (fun b hb hb2=>hal b (by omega) hb2) hla (fun e=>h (.inr (.inl e))) (fun e=>h (.inr (.inr e)))
    have hlt:=PR.atom_lt (s:=⟨p.drop a,false⟩) hle (fun e=>by rw[List.drop_eq_nil_iff] at e;omega)
    have htl:=PR.times_le (PR.atom ⟨p.drop a,false⟩ alt).2 (PR.atom ⟨p.drop a,false⟩ alt).1
    by_cases hb:((PR.atom ⟨p.drop a,false⟩ alt).2.times (PR.atom ⟨p.drop a,false⟩ alt).1).2.b=true
    · rw[partsF_bad _ _ hb]
      have h7:=hag.d hb
      rw[h7,behind7F_bad]
      exact⟨Rl.no hb O,fun e=>absurd e (by rw[hb];decide)⟩
    · obtain ⟨e1,e2,e3⟩:=st_eq hag hb
      rw[e1] at htl ⊢
      rw[e2]
      simp only[List.length_drop] at htl hlt
      obtain ⟨r1,r2⟩:=parts_7 hle hal F F' (o++[((PR.atom ⟨p.drop a,false⟩ alt).2.times (PR.atom ⟨p.drop a,false⟩ alt).1).1]) (zbv p alt' a false).1 (by omega) e3 (by omega) (by omega)
      exact⟨r1,fun e=>by have:=r2 e;omega⟩
omit hp in
theorem altsF_bad {alt:PR→Pt×PR}:∀ (F:Nat) (o:List Pt) (s:PR),s.b=true→(zbL alt F o s).2.b=true
 | 0,_,_,h=>h
 | F+1,o,s,h=>by
  unfold zbL;split
  · have ht:(s.take 124).2.b=true:=by unfold PR.take;split<;>exact h
    simp only
    refine altsF_bad F _ _ ?_
    unfold PR.parts;rw[partsF_bad _ _ ht];exact ht
  · exact h
omit hp in
theorem either7F_bad {alt':Nat→Bool→Nat×Bool} (F a:Nat):zaz p alt' F a true=(a,true):=by
 cases F with
 | zero=>rfl
 | succ F=>unfold zaz;rw[if_neg (by simp)]
theorem alts_7 {alt:PR→Pt×PR} {alt':Nat→Bool→Nat×Bool} {m:Nat} (hle:∀ s,(alt s).2.l.length≤s.l.length) (hal:Alt (p:=p) alt alt' m):∀ (F F':Nat) (o:List Pt) (a:Nat),m≤a+1→a≤p.length→p.length<F+a→p.length<F'+a→Rl p (zbL alt F o ⟨p.drop a,false⟩).2 (zaz p alt' F' a false)
 | 0,_,_,_,_,h,k,_=>by omega
 | _,0,_,_,_,h,_,k=>by omega
 | F+1,F'+1,o,a,hm,ha,hF,hF'=>by
  unfold zbL zaz
  rw[zd6 (c:=124) (by decide),zdH (c:=124) (by decide)]
  by_cases h:nx p a=124
  · have hla:=zd4 (by decide) h
    rw[if_pos (decide_eq_true h),if_pos h,if_pos ⟨h,rfl⟩]
    simp only
    unfold PR.parts zaH
    obtain ⟨r1,r2⟩:=parts_7 hp hle hal ((p.drop (a+1)).length+1) (p.length+1-(a+1)) [] (a+1) (by omega) hla (by rw[List.length_drop];omega) (by omega)
    simp only
    by_cases hb:(zam alt ((p.drop (a+1)).length+1) [] ⟨p.drop (a+1),false⟩).2.b=true
    · rw[r1.d hb,either7F_bad]
      exact Rl.no (altsF_bad _ _ _ hb) O
    · obtain ⟨e1,e2,e3⟩:=st_eq r1 hb
      have r2:=r2 (by simpa using hb)
      rw[e1,e2]
      exact alts_7 hle hal F F' _ _ (by omega) e3 (by omega) (by omega)
  · rw[if_neg (by rw[decide_eq_false h];decide),if_neg (fun k=>h k.1)]
    exact Rl.yes O O ha O
theorem alt_7:∀ (f a:Nat),a≤p.length→p.length<f+a→Rl p (altF f ⟨p.drop a,false⟩).2 (alt7 p f a false)
 | 0,_,h,k=>by omega
 | f+1,a,ha,hf=>by
  unfold altF alt7
  simp only
  have hal:Alt (p:=p) (altF f) (alt7 p f) (a+1):=fun b hb hb2=>alt_7 f b hb2 (by omega)
  unfold PR.parts zaH
  obtain ⟨r1,r2⟩:=parts_7 hp (zeG f) hal ((p.drop a).length+1) (p.length+1-a) [] a (Nat.le_refl _) ha (by rw[List.length_drop];omega) (by omega)
  simp only
  by_cases hb:(zam (altF f) ((p.drop a).length+1) [] ⟨p.drop a,false⟩).2.b=true
  · rw[r1.d hb,either7F_bad]
    exact Rl.no (altsF_bad _ _ _ hb) O
  · obtain ⟨e1,e2,e3⟩:=st_eq r1 hb
    have r2:=r2 (by simpa using hb)
    rw[e1,e2]
    exact alts_7 hp (zeG f) hal _ _ _ _ (by omega) e3 (by simp only[List.length_drop];omega) (by omega)
theorem pat_7 (h40:p.length≤40):pat7 p=patR p:=by
 have h:=alt_7 hp (p.length+1) 0 (Nat.zero_le _) (by omega)
 rw[List.drop_zero] at h
 unfold pat7 patR
 rw[decide_eq_true h40,Bool.true_and]
 by_cases hb:(altF (p.length+1) ⟨p,false⟩).2.b=true
 · rw[hb,h.d hb];rfl
 · obtain ⟨g1,g2,g3⟩:=h.g (by simpa using hb)
   rw[show (altF (p.length+1) ⟨p,false⟩).2.b=false by simpa using hb,g1,g3]
   simp only[Bool.not_false,Bool.true_and,List.drop_eq_nil_iff]
end
end Lp
set_option linter.unusedVariables false
namespace Lp
open Go
section
variable {p:List Int}
theorem item7_b (a:Nat) (b:Bool):a<(zaN p a b).2.1∧(zaN p a b).2.1≤a+2:=by
 unfold zaN;split<;>simp only<;>omega
theorem two7_b (a:Nat) (b:Bool):a<(two7 p a b).2.2.1∧(two7 p a b).2.2.1≤a+5:=by
 have h1:=item7_b (p:=p) a b
 unfold two7;simp only;split
 · have h2:=item7_b (p:=p) ((zaN p a b).2.1+1) (zaN p a b).2.2
   simp only;omega
 · simp only;omega
theorem class7F_b:∀ (F n a:Nat) (b:Bool),a≤(zaB p F n a b).1∧(zaB p F n a b).1≤max a (p.length+5)
 | 0,n,a,b=>⟨Nat.le_refl _,Nat.le_max_left _ _⟩
 | F+1,n,a,b=>by
  unfold zaB
  split
  · exact⟨Nat.le_refl _,Nat.le_max_left _ _⟩
  · split
    · exact⟨Nat.le_refl _,Nat.le_max_left _ _⟩
    · rename_i h
      have h1:=two7_b (p:=p) a b
      have h2:=class7F_b F (n+1) (two7 p a b).2.2.1 ((two7 p a b).2.2.2||decide ((two7 p a b).2.1<(two7 p a b).1))
      have h3:a<p.length:=by omega
      simp only;omega
theorem class7_b (a:Nat) (b:Bool):a<(zc6 p a b).1∧(zc6 p a b).1≤max (a+1) (p.length+5)+1:=by
 unfold zc6;simp only
 split
 · have h:=class7F_b (p:=p) (p.length+1) 0 (a+1) b;omega
 · have h:=class7F_b (p:=p) (p.length+1) 0 a b;omega
def Fw (p:List Int) (alt:Nat→Bool→Nat×Bool) (k:Nat):Prop:=∀ a b,a≤(alt a b).1∧(alt a b).1≤max a (p.length+k)
variable {alt:Nat→Bool→Nat×Bool} {k:Nat} (h:Fw p alt k)
include h
theorem atom7_b {a:Nat} {b:Bool} (ha:a<p.length):a<(zbf p alt a b).1∧(zbf p alt a b).1≤p.length+k+6:=by
 have h1:=h (a+1) b
 have h2:=class7_b (p:=p) (a+1) b
 unfold zbf
 repeat' split
 all_goals first | omega | (simp only;omega)
theorem again7_b {a:Nat} {b:Bool} (ha:a<p.length):a<(zbv p alt a b).1∧(zbv p alt a b).1≤p.length+k+7:=by
 have h1:=atom7_b h ha (b:=b)
 unfold zbv;simp only;split<;>first | omega | (simp only;omega)
theorem behind7F_b:∀ (F a:Nat) (b:Bool),a≤(zas p alt F a b).1∧(zas p alt F a b).1≤max a (p.length+k+7)
 | 0,a,b=>⟨Nat.le_refl _,Nat.le_max_left _ _⟩
 | F+1,a,b=>by
  unfold zas
  split
  · exact⟨Nat.le_refl _,Nat.le_max_left _ _⟩
  · rename_i hc
    have h1:=again7_b h (a:=a) (b:=b) (by omega)
    have h2:=behind7F_b F (zbv p alt a b).1 (zbv p alt a b).2
    omega
theorem behind7_b (a:Nat) (b:Bool):a≤(zaH p alt a b).1∧(zaH p alt a b).1≤max a (p.length+k+7):=behind7F_b h _ a b
theorem either7F_b:∀ (F a:Nat) (b:Bool),a≤(zaz p alt F a b).1∧(zaz p alt F a b).1≤max a (p.length+k+7)
 | 0,a,b=>⟨Nat.le_refl _,Nat.le_max_left _ _⟩
 | F+1,a,b=>by
  unfold zaz
  split
  · rename_i hc
    have h0:=zd4 (by decide) hc.1
    have h1:=behind7_b h (a+1) b
    have h2:=either7F_b F (zaH p alt (a+1) b).1 (zaH p alt (a+1) b).2
    omega
  · exact⟨Nat.le_refl _,Nat.le_max_left _ _⟩
end
theorem zeT (p:List Int):∀ f:Nat,Fw p (alt7 p f) (7*f)
 | 0=>fun a b=>⟨Nat.le_refl _,Nat.le_max_left _ _⟩
 | f+1=>fun a b=>by
  have h1:=behind7_b (zeT p f) a b
  have h2:=either7F_b (zeT p f) (p.length+1-(zaH p (alt7 p f) a b).1) (zaH p (alt7 p f) a b).1 (zaH p (alt7 p f) a b).2
  unfold alt7
  omega
end Lp
