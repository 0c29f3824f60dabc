import Derived.Test.YtheccaeefigajaaGreatDoorV122
set_option linter.unusedSimpArgs false
set_option linter.unusedVariables false
set_option maxHeartbeats 4000000
set_option maxRecDepth 100000
namespace Lp
open Go Go.RowKit Go.Proofs
def zbQ (ev es:Value) (F:FuncId) (L:Nat) (part:Rd→Nd×Rd):Prop:=∀ (g:Nat) (s:Rd),s.l.length<L→s.n+2*(s.l.length:Int)≤2000000→0≤s.n→TOk s.l→
 CD Tryz.prog F [RB g s,HPow,HErr ev,HSyn es] [dP g 0] (NdR g ev es (part s))
theorem nd_nm {f:FuncId} {H:List Hp} {ds:List D} {g:Nat} {ev es:Value} {p:Nd×Rd} {op text:ByteArray} {n mode:Int} {names:List ByteArray} {ms:List MatD} {kids:List Nd} {s':Rd} (e:(Nd.mk op text n mode names ms kids,s')=p) (h:CD Tryz.prog f H ds (NdR g ev es p)):
 CD Tryz.prog f H ds (fun r H'=>r=n7 op text n mode names ms kids∧H'=[RB g s',HPow,HErr ev,HSyn es]):=h.to (by
 rintro r H' ⟨op2,text2,n2,mode2,names2,ms2,kids2,s2,e2,rfl,rfl⟩
 rw[←e] at e2
 injection e2 with e2 e3
 injection e2 with a1 a2 a3 a4 a5 a6 a7
 subst a1;subst a2;subst a3;subst a4;subst a5;subst a6;subst a7;subst e3
 exact⟨O,O⟩)
def Rd.aggN (s:Rd) (t:ByteArray):Int×Rd:=if zar t=true then((s.number 2).1,(s.number 2).2.must zK) else(0,s)
section
variable {s s1 s2 s3 s4 s5 s6 s7 s8:Rd} {t:ByteArray} {m w:Int} {l:List ByteArray} {n:Nd} {ex:Rd→Nd×Rd}
theorem aggN_1 (h:zar t=true) (e:(w,s1)=s.number 2) (e2:s2=s1.must zK):(w,s2)=s.aggN t:=by unfold Rd.aggN;rw[if_pos h,←e,e2]
theorem aggN_0 (h:¬zar t=true):(0,s)=s.aggN t:=by unfold Rd.aggN;rw[if_neg h]
theorem aggN_e (e:(w,s1)=s.aggN t):Stp 0 s s1:=by
 have h:s1=(s.aggN t).2:=congrArg Prod.snd e
 rw[h];unfold Rd.aggN;split
 · exact((zbj s 2).trans (zP _ zK)).le (by omega)
 · exact Stp.rfl' s
theorem aggr_of (e1:(t,s1)=s.any 1) (e2:(m,l,s2)=s1.mode tBy zL) (e3:s3=s2.must zC) (e4:(w,s4)=s3.aggN t) (e6:(n,s6)=ex s4) (e7:s7=s6.must zH) (e8:s8=s7.node):(Nd.mk tAgg t w m l [] [n],s8)=s.aggr ex:=by
 unfold Rd.aggN at e4
 by_cases h:zar t=true
 · rw[if_pos h] at e4
   have h1:w=(s3.number 2).1:=congrArg Prod.fst e4
   have h2:s4=(s3.number 2).2.must zK:=congrArg Prod.snd e4
   rw[h1]
   exact aggr_1 e1 e2 e3 h (show ((s3.number 2).1,(s3.number 2).2)=s3.number 2 from O) h2 e6 e7 e8
 · rw[if_neg h] at e4
   have h1:w=0:=congrArg Prod.fst e4
   have h2:s4=s3:=congrArg Prod.snd e4
   rw[h1]
   rw[h2] at e6
   exact aggr_0 e1 e2 e3 h e6 e7 e8
theorem must_y {s':Rd} (e:s'=s.must t) (hb:s.b=false) (hi:s.is 5 [t]=true):s'.l.length+1=s.l.length∧s'.n+2*(s'.l.length:Int)≤s.n+2*(s.l.length:Int)-2:=by
 have ht:(s.take 5 [t]).2.1=true:=by unfold Rd.take;rw[if_neg (by rw[hb,hi];simp)]
 have h:=zdn (by decide) ht
 have hw:=h.2.1.w
 rw[e];unfold Rd.w at hw;exact⟨h.1,by have h2:=hw;show (s.take 5 [t]).2.2.n+2*((s.take 5 [t]).2.2.l.length:Int)≤_;omega⟩
theorem any_yw {s':Rd} {k:Int} (e:(t,s')=s.any k) (hk:k≠0) (hb:s.b=false) (h:s.pk.k=k):s'.l.length+1=s.l.length∧s'.n+2*(s'.l.length:Int)≤s.n+2*(s.l.length:Int)-2:=by
 have h:=any_y e hk hb h
 have hw:=h.2.1.w
 unfold Rd.w at hw;exact⟨h.1,by omega⟩
theorem take_yw {s':Rd} {k:Int} {ts:List ByteArray} {q:Bool} (e:(t,q,s')=s.take k ts) (hk:k≠0) (hq:q=true):s'.l.length+1=s.l.length∧s'.n+2*(s'.l.length:Int)≤s.n+2*(s.l.length:Int)-2:=by
 have h:=take_y e hk hq
 have hw:=h.2.1.w
 unfold Rd.w at hw;exact⟨h.1,by omega⟩
end
theorem agg_s (g:Nat) (s:Rd) (ev es:Value) (L:Nat) (ex:Rd→Nd×Rd) (hev:EvOk ev) (hes:EvOk es) (hex:zbQ ev es 39 L ex) (hst:∀ s,Stp 1 s (ex s).2) (hL:s.l.length<L+1) (hb:s.b=false) (hk:s.pk.k=1) (hw:s.n+2*(s.l.length:Int)≤2000000) (hn:0≤s.n) (hT:TOk s.l):
 CD Tryz.prog 220 [RB g s,HPow,HErr ev,HSyn es] [dP g 0] (NdR g ev es (s.aggr ex)):=by
 refine tZ Tryz.func220 O O (fun C=>?_)
 refine g' 2 O ?_
 refine tA O (fun g1=>?_)
 refine g' 5 O (tX [1] O O acs (zeX g s 1 (by omega) (by omega) hT (by decide)) ?_)
 rintro _ _ ⟨t2,s2,e2,rfl,rfl⟩
 obtain ⟨ka2,kb2,kc2,hT2⟩:=(zch e2).out hT
 have kz2:=zcg e2 hT
 refine tP O (zf [0,1] [.const (.string (⟨#[97,103,103]⟩:ByteArray)),.tmp 5] (zv:=n9) O O (.cons (CellD.v O) (.cons CellD.s .nil)) (Tryz.runUnderlying27) Tryz.zeroValue27 zdd ⟨O,O,O,O,O,O,O,trivial⟩ O) ?_
 refine tA O (fun g3=>?_)
 refine gQ 4 [0] O O ?_
 obtain ⟨kq,kw⟩:=any_yw e2 (by decide) hb hk
 refine T.subH (HSub.turn (h':=.bx g3 27 (n7 tAgg t2 0 0 ([]:List ByteArray) ([]:List MatD) ([]:List Nd))) O (Hp.cv_bx (Cv.agg (.cons cS (gc (gc (gc (.cons Cv.nil (.cons Cv.nil (.cons Cv.nil .nil)))))))))) (g' 2 O (tX [1] O O (ga (.cons (ArgC.cv cS) (.cons (ArgC.cv cS) .nil))) (mode_c g s2 (⟨#[98,121]⟩:ByteArray) (⟨#[119,105,116,104,111,117,116]⟩:ByteArray) (by omega) (by omega) hT2) ?_))
 rintro _ _ ⟨m4,l4,s4,e4,rfl,rfl⟩
 obtain ⟨ka4,kb4,kc4,hT4⟩:=(mode_e e4).out hT2
 refine gQ 12 [1,1] O O (tX [0] O O (ga (.cons (ArgC.cv cS) .nil)) (zbP g s4 (⟨#[40]⟩:ByteArray) (by omega) (by omega) hT4) ?_)
 rintro _ _ ⟨s5,e5,rfl,rfl⟩
 obtain ⟨ka5,kb5,kc5,hT5⟩:=(zah e5).out hT4
 refine gQ 7 [1] O O (tW O acs (numbered_c t2) (g' 2 O ?_))
 refine tJ (fun (jg:Int×Rd)=>[(0,dP g 0),(2,dP g1 0),(3,dP g3 0)]) (fun (jg:Int×Rd)=>[.bx g1 27 n8,.bx g3 27 (n7 tAgg t2 jg.1 m4 l4 ([]:List MatD) ([]:List Nd)),.bx g 72 (.agg [.sh 3 (jg.2.l.map TokD.d),dI jg.2.n,dB jg.2.b]),HPow,HErr ev,HSyn es]) (fun (jg:Int×Rd)=>((jg.1,jg.2)=s5.aggN t2)) (fun _ hQ6=>?_) ?_
 · skip
   refine tC O (fun hc7=>?_) (fun hc7=>?_)
   · skip
     refine g' 3 O (tX [0,2,2,2] O O acs (rdnum_c g s5 2 ev es hev hes (by omega) (by omega) hT5 (by omega)) ?_)
     rintro _ _ ⟨v8,s8,e8,rfl,rfl⟩
     obtain ⟨ka8,kb8,kc8,hT8⟩:=(number_e e8).out hT5
     have kv8:=number_bd e8 (by omega) hT5
     refine gQ 6 [4] O O (tX [0] O O (ga (.cons (ArgC.cv cS) .nil)) (zbP g s8 (⟨#[44]⟩:ByteArray) (by omega) (by omega) hT8) ?_)
     rintro _ _ ⟨s9,e9,rfl,rfl⟩
     obtain ⟨ka9,kb9,kc9,hT9⟩:=(zah e9).out hT8
     refine g' 1 O (T.front 3 O (T.front 3 O (T.front 3 O (T.front 3 O (T.front 4 O (T.front 5 O ?_))))))
     exact tqe (hQ6 (v8,s9) (aggN_1 hc7 e8 e9)) O
   · skip
     refine g' 1 O (T.front 5 O (T.front 5 O (T.front 5 O (T.front 3 O (T.front 4 O (T.front 5 O ?_))))))
     exact tqe (hQ6 (0,s5) (aggN_0 (by simpa using hc7))) O
 · skip
   rintro ⟨w,z⟩ hag
   replace hag:(w,z)=s5.aggN t2:=hag
   refine T.kk [(0,dP g 0),(2,dP g1 0),(3,dP g3 0)] O (T.norm [.bx g1 27 n8,.bx g3 27 (n7 tAgg t2 w m4 l4 ([]:List MatD) ([]:List Nd)),RB g z,HPow,HErr ev,HSyn es] (by rfl) (g' 2 O ?_))
   obtain ⟨kx1,ky1,kz1,hTj⟩:=(aggN_e hag).out hT5
   refine g' 2 O (tX [2,2,2,2] O O acs (hex g z (by omega) (by omega) (by omega) hTj) ?_)
   rintro _ _ ⟨no10,nt10,nn10,nm10,nl10,ns10,nk10,s10,e10,rfl,rfl⟩
   obtain ⟨ka10,kb10,kc10,hT10⟩:=(nd_e e10 (hst z)).out hTj
   refine tE O (zE [.tmp 25] O O (.cons CellD.agg .nil) O Tryz.runUnderlying25 Tryz.sizeOf27 Tryz.zeroValue27 O O O O) ?_
   rintro _ _ ⟨g11,rfl,rfl⟩
   refine g' 1 O ?_
   refine T.mv (Mv.freeze (K':=[(0,dP g 0),(2,dP g1 0),(3,dP g3 0),(24,dP g 0),(25,n7 no10 nt10 nn10 nm10 nl10 ns10 nk10),(26,.sh 7 [n7 no10 nt10 nn10 nm10 nl10 ns10 nk10]),(27,dP g3 6)]) [.sl (vS g11 1 1) 7 27 ([n7 no10 nt10 nn10 nm10 nl10 ns10 nk10])] (H1:=[RB g s10,HPow,HErr ev,HSyn es,.bx g1 27 n8,.bx g3 27 (n7 tAgg t2 w m4 l4 ([]:List MatD) ([]:List Nd))]) (H1':=[RB g s10,HPow,HErr ev,HSyn es,.bx g1 27 n8,.bx g3 27 (n7 tAgg t2 w m4 l4 ([]:List MatD) ([]:List Nd))]) ⟨⟨_,O,ArgC.id⟩,⟨_,O,ArgC.id⟩,⟨_,O,ArgC.id⟩,⟨_,O,ArgC.id⟩,⟨_,O,ArgC.id⟩,⟨_,O,ArgC.own (j:=0) O O⟩,⟨_,O,ArgC.id⟩,trivial⟩ (.same (.same (.same (.same (.same (.same .nil))))))) ?_
   refine gQ 6 [5] O O (tX [0] O O (ga (.cons (ArgC.cv cS) .nil)) (zbP g s10 (⟨#[41]⟩:ByteArray) (by omega) (by omega) hT10) ?_)
   rintro _ _ ⟨s12,e12,rfl,rfl⟩
   obtain ⟨ka12,kb12,kc12,hT12⟩:=(zah e12).out hT10
   refine gQ 6 [5] O O (tX [0] O O acs (zeP g s12 (.s tAgg) (.s t2) (dI w) (dI m4) (.sh 1 (l4.map D.s)) (.sh 3 (([]:List MatD).map MatD.d)) (.sh 7 [n7 no10 nt10 nn10 nm10 nl10 ns10 nk10]) (by omega) (by omega) hT12) ?_)
   rintro _ _ ⟨s13,e13,rfl,rfl⟩
   obtain ⟨ka13,kb13,kc13,hT13⟩:=(zeO e13).out hT12
   refine gQ 4 [4] O O ?_
   exact tRs O Tryz.results220 (.cons (zh (i:=4) O O Tryz.isAgg27 Tryz.sizeOf27 O O) .nil) O (HSub.fst 4 O) ⟨tAgg,t2,w,m4,l4,([]:List MatD),[(Nd.mk no10 nt10 nn10 nm10 nl10 ns10 nk10)],⟨s13.l,s13.n,s13.b⟩,aggr_of e2 e4 e5 hag e10 e12 e13,O,O⟩
theorem prim_s (g:Nat) (s:Rd) (ev es:Value) (L:Nat) (ex:Rd→Nd×Rd) (hev:EvOk ev) (hes:EvOk es) (hex:zbQ ev es 39 L ex) (hst:∀ s,Stp 1 s (ex s).2) (hL:s.l.length<L+1) (hw:s.n+2*(s.l.length:Int)≤2000000) (hn:0≤s.n) (hT:TOk s.l):
 CD Tryz.prog 201 [RB g s,HPow,HErr ev,HSyn es] [dP g 0] (NdR g ev es (s.prim rmD ex)):=by
 refine tZ Tryz.func201 O O (fun C=>?_)
 refine g' 2 O ?_
 refine tA O (fun g1=>?_)
 refine g' 5 O (tX [1] O O acs (peek_c g s (by omega) (by omega) hT) ?_)
 rintro _ _ ⟨rfl,rfl⟩
 refine tA O (fun g3=>?_)
 refine gQ 14 [0,1] O O ?_
 refine tC O (fun hc4=>?_) (fun hc4=>?_)
 · skip
   refine g' 2 O (tP O (zf [] [] (zv:=n9) O O (.nil) (Tryz.runUnderlying27) Tryz.zeroValue27 zdd ⟨O,O,O,O,O,O,O,trivial⟩ O) (gQ 6 [2] O O (T.front 5 O (T.front 5 O (T.front 5 O (T.front 4 O ?_))))))
   exact tRs O Tryz.results201 (.cons (zd (zh (X:=n8) (d:=n8) (i:=5) O O Tryz.isAgg27 Tryz.sizeOf27 O O) (Cv.agg (.cons (cS) (.cons (cS) (gc (gc (.cons (Cv.nil) (.cons (Cv.nil) (.cons (Cv.nil) .nil))))))))) .nil) O (HSub.fst 4 O) ⟨ByteArray.empty,ByteArray.empty,0,0,[],[],[],⟨s.l,s.n,s.b⟩,prim_bad rmD hc4,O,O⟩
 · skip
   have hbf:s.b=false:=by simpa using hc4
   refine gQ 8 [0] O O ?_
   refine tD O (fun hc5=>?_) (fun hc5=>?_)
   · skip
     refine g' 4 O (tX [1,2,2,2] O O acs (rdnum_c g s 2 ev es hev hes (by omega) (by omega) hT (by omega)) ?_)
     rintro _ _ ⟨v6,s6,e6,rfl,rfl⟩
     obtain ⟨ka6,kb6,kc6,hT6⟩:=(number_e e6).out hT
     have kv6:=number_bd e6 (by omega) hT
     refine tP O (zf [0,2] [.const (.string (⟨#[110,117,109]⟩:ByteArray)),.tmp 21] (zv:=n9) O O (.cons (CellD.v O) (.cons (CellD.v O) .nil)) (Tryz.runUnderlying27) Tryz.zeroValue27 zdd ⟨O,O,O,O,O,O,O,trivial⟩ O) (tX [0] O O acs (zeP g s6 (.v (.string (⟨#[110,117,109]⟩:ByteArray))) (.v (.string ByteArray.empty)) (dI v6) (dI 0) (dZ) (dZ) (dZ) (by omega) (by omega) hT6) ?_)
     rintro _ _ ⟨s7,e7,rfl,rfl⟩
     obtain ⟨ka7,kb7,kc7,hT7⟩:=(zeO e7).out hT6
     refine gQ 6 [5] O O ?_
     exact tRs O Tryz.results201 (.cons (zd (zh (X:=.agg [.v (.string (⟨#[110,117,109]⟩:ByteArray)),.v (.string ByteArray.empty),dI v6,dI 0,dZ,dZ,dZ]) (d:=.agg [.v (.string (⟨#[110,117,109]⟩:ByteArray)),.v (.string ByteArray.empty),dI v6,dI 0,dZ,dZ,dZ]) (i:=5) O O Tryz.isAgg27 Tryz.sizeOf27 O O) (Cv.agg (.cons (cS) (.cons (cS) (gc (gc (.cons (Cv.nil) (.cons (Cv.nil) (.cons (Cv.nil) .nil))))))))) .nil) O (HSub.fst 4 O) ⟨(⟨#[110,117,109]⟩:ByteArray),ByteArray.empty,v6,0,[],[],[],⟨s7.l,s7.n,s7.b⟩,prim_num rmD (by simpa using hc4) hc5 e6 e7,O,O⟩
   · skip
     refine g' 3 O (tE O (Qu.ef (d:=.sh 1 ([(⟨#[40]⟩:ByteArray)].map D.s)) ((ze [.const (.string (⟨#[40]⟩:ByteArray))] O O (.cons (CellD.v O) .nil) O Tryz.runUnderlying23 Tryz.sizeOf9 Tryz.zeroValue9 O O O O).cv (Cv.shs (.cons cS .nil)))) ?_)
     rintro _ _ ⟨rfl,rfl⟩
     refine tX [1] O O acs (is_c g s 5 [(⟨#[40]⟩:ByteArray)] (by omega) (by omega) hT) ?_
     rintro _ _ ⟨rfl,rfl⟩
     refine g' 3 O ?_
     refine tC O (fun hc9=>?_) (fun hc9=>?_)
     · skip
       refine g' 3 O (tX [0] O O (ga (.cons (ArgC.cv cS) .nil)) (zbP g s (⟨#[40]⟩:ByteArray) (by omega) (by omega) hT) ?_)
       rintro _ _ ⟨s10,e10,rfl,rfl⟩
       obtain ⟨ka10,kb10,kc10,hT10⟩:=(zah e10).out hT
       refine g' 3 O ?_
       obtain ⟨kq,kw⟩:=must_y e10 hbf hc9
       refine g' 2 O (tX [0,2,2,2] O O acs (hex g s10 (by omega) (by omega) (by omega) hT10) ?_)
       rintro _ _ ⟨no11,nt11,nn11,nm11,nl11,ns11,nk11,s11,e11,rfl,rfl⟩
       obtain ⟨ka11,kb11,kc11,hT11⟩:=(nd_e e11 (hst s10)).out hT10
       refine tA O (fun g12=>?_)
       refine gQ 6 [0] O O (tX [1] O O (ga (.cons (ArgC.cv cS) .nil)) (zbP g s11 (⟨#[41]⟩:ByteArray) (by omega) (by omega) hT11) ?_)
       rintro _ _ ⟨s13,e13,rfl,rfl⟩
       obtain ⟨ka13,kb13,kc13,hT13⟩:=(zah e13).out hT11
       refine gQ 11 [1,6] O O (T.front 4 O (T.front 4 O (T.front 4 O (T.front 3 O ?_))))
       exact tRs O Tryz.results201 (.cons (zh (i:=6) O O Tryz.isAgg27 Tryz.sizeOf27 O O) .nil) O (HSub.fst 4 O) ⟨no11,nt11,nn11,nm11,nl11,ns11,nk11,⟨s13.l,s13.n,s13.b⟩,prim_brk rmD (by simpa using hc4) hc5 hc9 e10 e11 e13,O,O⟩
     · skip
       refine gQ 6 [1] O O ?_
       refine tAnd 3 3 (c:=hasN aggN s.pk.t) O O O O O O (fun hb14 nx15=>?_) ?_
       · skip
         have hf16:=of_decide_eq_true hb14
         refine gQ 2 [1] O O (tW O acs (Agg_c s.pk.t) ?_)
         exact nx15 _ O O (kx 3 O O)
       refine g' 3 O ?_
       refine tC O (fun hc17=>?_) (fun hc17=>?_)
       · simp only[bX,bJ] at hc17
         refine g' 3 O (tX [0,2,2,2] O O acs (agg_s g s ev es L ex hev hes hex hst (by omega) hbf (hc17).1 (by omega) (by omega) hT) ?_)
         rintro _ _ ⟨no18,nt18,nn18,nm18,nl18,ns18,nk18,s18,e18,rfl,rfl⟩
         obtain ⟨ka18,kb18,kc18,hT18⟩:=(nd_e e18 (aggr_stp hst hbf (hc17).1)).out hT
         refine gQ 6 [5] O O ?_
         exact tRs O Tryz.results201 (.cons (zh (i:=5) O O Tryz.isAgg27 Tryz.sizeOf27 O O) .nil) O (HSub.fst 4 O) ⟨no18,nt18,nn18,nm18,nl18,ns18,nk18,⟨s18.l,s18.n,s18.b⟩,prim_agg rmD (by simpa using hc4) hc5 (by simpa using hc9) hc17 e18,O,O⟩
       · simp only[bX,bJ] at hc17
         refine gQ 6 [1] O O ?_
         refine tAnd 3 3 (c:=hasN fnN s.pk.t) O O O O O O (fun hb19 nx20=>?_) ?_
         · skip
           have hf21:=of_decide_eq_true hb19
           refine gQ 2 [1] O O (tW O acs (Fn_c s.pk.t) ?_)
           exact nx20 _ O O (kx 3 O O)
         refine g' 3 O ?_
         refine tC O (fun hc22=>?_) (fun hc22=>?_)
         · simp only[bX,bJ] at hc22
           refine g' 3 O (tX [0] O O acs (zeX g s 1 (by omega) (by omega) hT (by decide)) ?_)
           rintro _ _ ⟨t23,s23,e23,rfl,rfl⟩
           obtain ⟨ka23,kb23,kc23,hT23⟩:=(zch e23).out hT
           have kz23:=zcg e23 hT
           refine g' 4 O ?_
           have hfk:s.pk.k=1∧hasN fnN s.pk.t=true:=hc22
           obtain ⟨kq,kw⟩:=any_yw e23 (by decide) hbf hfk.1
           refine g' 2 O (tX [0] O O (ga (.cons (ArgC.cv cS) .nil)) (zbP g s23 (⟨#[40]⟩:ByteArray) (by omega) (by omega) hT23) ?_)
           rintro _ _ ⟨s24,e24,rfl,rfl⟩
           obtain ⟨ka24,kb24,kc24,hT24⟩:=(zah e24).out hT23
           refine g' 7 O (tX [0,2,2,2] O O acs (hex g s24 (by omega) (by omega) (by omega) hT24) ?_)
           rintro _ _ ⟨no25,nt25,nn25,nm25,nl25,ns25,nk25,s25,e25,rfl,rfl⟩
           obtain ⟨ka25,kb25,kc25,hT25⟩:=(nd_e e25 (hst s24)).out hT24
           refine tE O (Qu.ef (d:=.sh 7 ([(Nd.mk no25 nt25 nn25 nm25 nl25 ns25 nk25)].map Nd.d)) (ze [.tmp 62] O O (.cons CellD.agg .nil) O Tryz.runUnderlying25 Tryz.sizeOf27 Tryz.zeroValue27 O O O O)) ?_
           rintro _ _ ⟨rfl,rfl⟩
           refine tP O (zf [0,1,6] [.const (.string (⟨#[102,110]⟩:ByteArray)),.tmp 60,.tmp 63] (zv:=n9) O O (.cons (CellD.v O) (.cons CellD.s (.cons CellD.sh .nil))) (Tryz.runUnderlying27) Tryz.zeroValue27 zdd ⟨O,O,O,O,O,O,O,trivial⟩ O) (tX [0] O O acs (zeP g s25 (.v (.string (⟨#[102,110]⟩:ByteArray))) (.s t23) (dI 0) (dI 0) (dZ) (dZ) (.sh 7 ([(Nd.mk no25 nt25 nn25 nm25 nl25 ns25 nk25)].map Nd.d)) (by omega) (by omega) hT25) ?_)
           rintro _ _ ⟨s26,e26,rfl,rfl⟩
           obtain ⟨ka26,kb26,kc26,hT26⟩:=(zeO e26).out hT25
           refine tA O (fun g27=>?_)
           refine gQ 6 [0] O O (tX [1] O O (ga (.cons (ArgC.cv cS) .nil)) (zbP g s26 (⟨#[41]⟩:ByteArray) (by omega) (by omega) hT26) ?_)
           rintro _ _ ⟨s28,e28,rfl,rfl⟩
           obtain ⟨ka28,kb28,kc28,hT28⟩:=(zah e28).out hT26
           refine gQ 11 [1,6] O O (T.front 4 O (T.front 4 O (T.front 4 O (T.front 3 O ?_))))
           exact tRs rfl Tryz.results201 (.cons (zd (zh (X:=.agg [.v (.string (⟨#[102,110]⟩:ByteArray)),.s t23,dI 0,dI 0,dZ,dZ,.sh 7 ([(Nd.mk no25 nt25 nn25 nm25 nl25 ns25 nk25)].map Nd.d)]) (d:=.agg [.v (.string (⟨#[102,110]⟩:ByteArray)),.s t23,dI 0,dI 0,dZ,dZ,.sh 7 ([(Nd.mk no25 nt25 nn25 nm25 nl25 ns25 nk25)].map Nd.d)]) (i:=6) rfl rfl Tryz.isAgg27 Tryz.sizeOf27 rfl rfl) (Cv.agg (.cons (cS) (gc (gc (gc (.cons (Cv.nil) (.cons (Cv.nil) (gc .nil))))))))) .nil) rfl (HSub.fst 4 rfl) ⟨(⟨#[102,110]⟩:ByteArray),t23,0,0,[],[],[(Nd.mk no25 nt25 nn25 nm25 nl25 ns25 nk25)],⟨s28.l,s28.n,s28.b⟩,prim_fn rmD (by simpa using hc4) hc5 (by simpa using hc9) (by rintro ⟨a,b⟩;have h:=hc17;rcases h with h | h;exact h a;(rw[b] at h;cases h)) hfk e23 e24 e25 e26 e28,rfl,rfl⟩
         · simp only[bX,bJ] at hc22
           refine g' 6 O (tX [0,2,2,2] O O acs (selector_c g s ev es hev hes (by omega) (by omega) hT) ?_)
           rintro _ _ ⟨no29,nt29,nn29,nm29,nl29,ns29,nk29,s29,e29,rfl,rfl⟩
           obtain ⟨ka29,kb29,kc29,hT29⟩:=(nd_e e29 (selector_stp rmD s)).out hT
           refine gQ 4 [5] O O ?_
           exact tRs rfl Tryz.results201 (.cons (zh (i:=5) rfl rfl Tryz.isAgg27 Tryz.sizeOf27 rfl rfl) .nil) rfl (HSub.fst 4 rfl) ⟨no29,nt29,nn29,nm29,nl29,ns29,nk29,⟨s29.l,s29.n,s29.b⟩,prim_sel rmD (by simpa using hc4) hc5 (by simpa using hc9) (by rintro ⟨a,b⟩;have h:=hc17;rcases h with h | h;exact h a;(rw[b] at h;cases h)) (by rintro ⟨a,b⟩;have h:=hc22;rcases h with h | h;exact h a;(rw[b] at h;cases h)) e29,rfl,rfl⟩
theorem unary_s (g:Nat) (s:Rd) (ev es:Value) (L:Nat) (ex:Rd→Nd×Rd) (f:Nat) (hev:EvOk ev) (hes:EvOk es) (hex:zbQ ev es 39 L ex) (hst:∀ s,Stp 1 s (ex s).2) (hL:s.l.length<L+1) (ih:∀ (g:Nat) (s:Rd),s.l.length<f→s.l.length<L+1→s.n+2*(s.l.length:Int)≤2000000→0≤s.n→TOk s.l→CD Tryz.prog 181 [RB g s,HPow,HErr ev,HSyn es] [dP g 0] (NdR g ev es (zaK rmD ex f s))) (hf:s.l.length<f+1) (hw:s.n+2*(s.l.length:Int)≤2000000) (hn:0≤s.n) (hT:TOk s.l):
 CD Tryz.prog 181 [RB g s,HPow,HErr ev,HSyn es] [dP g 0] (NdR g ev es (zaK rmD ex (f+1) s)):=by
 refine tZ Tryz.func181 O O (fun C=>?_)
 refine g' 2 O ?_
 refine tA O (fun g1=>?_)
 refine g' 6 O (tE O (Qu.ef (d:=.sh 1 ([(⟨#[45]⟩:ByteArray)].map D.s)) ((ze [.const (.string (⟨#[45]⟩:ByteArray))] O O (.cons (CellD.v O) .nil) O Tryz.runUnderlying23 Tryz.sizeOf9 Tryz.zeroValue9 O O O O).cv (Cv.shs (.cons cS .nil)))) ?_)
 rintro _ _ ⟨rfl,rfl⟩
 refine tX [1] O O acs (zcW g s 5 [(⟨#[45]⟩:ByteArray)] (by omega) (by omega) hT (by decide)) ?_
 rintro _ _ ⟨t2,q2,s2,e2,rfl,rfl⟩
 obtain ⟨ka2,kb2,kc2,hT2⟩:=(zcV e2).out hT
 have kz2:=zcU e2 hT
 refine g' 12 O ?_
 refine tC O (fun hc3=>?_) (fun hc3=>?_)
 · skip
   obtain ⟨kq,kw⟩:=take_yw e2 (by decide) hc3
   refine g' 4 O (tX [0,1,1,1] O O acs (ih g s2 (by omega) (by omega) (by omega) (by omega) hT2) ?_)
   rintro _ _ ⟨no4,nt4,nn4,nm4,nl4,ns4,nk4,s4,e4,rfl,rfl⟩
   obtain ⟨ka4,kb4,kc4,hT4⟩:=(nd_e e4 (zcj rmD hst f s2)).out hT2
   refine tE O (Qu.ef (d:=.sh 7 ([(Nd.mk no4 nt4 nn4 nm4 nl4 ns4 nk4)].map Nd.d)) (ze [.tmp 14] O O (.cons CellD.agg .nil) O Tryz.runUnderlying25 Tryz.sizeOf27 Tryz.zeroValue27 O O O O)) ?_
   rintro _ _ ⟨rfl,rfl⟩
   refine tP O (zf [0,6] [.const (.string (⟨#[110,101,103]⟩:ByteArray)),.tmp 15] (zv:=n9) O O (.cons (CellD.v O) (.cons CellD.sh .nil)) (Tryz.runUnderlying27) Tryz.zeroValue27 zdd ⟨O,O,O,O,O,O,O,trivial⟩ O) (tX [0] O O acs (zeP g s4 (.v (.string (⟨#[110,101,103]⟩:ByteArray))) (.v (.string ByteArray.empty)) (dI 0) (dI 0) (dZ) (dZ) (.sh 7 ([(Nd.mk no4 nt4 nn4 nm4 nl4 ns4 nk4)].map Nd.d)) (by omega) (by omega) hT4) ?_)
   rintro _ _ ⟨s5,e5,rfl,rfl⟩
   obtain ⟨ka5,kb5,kc5,hT5⟩:=(zeO e5).out hT4
   refine gQ 5 [4] O O ?_
   exact tRs O Tryz.results181 (.cons (zd (zh (X:=.agg [.v (.string (⟨#[110,101,103]⟩:ByteArray)),.v (.string ByteArray.empty),dI 0,dI 0,dZ,dZ,.sh 7 ([(Nd.mk no4 nt4 nn4 nm4 nl4 ns4 nk4)].map Nd.d)]) (d:=.agg [.v (.string (⟨#[110,101,103]⟩:ByteArray)),.v (.string ByteArray.empty),dI 0,dI 0,dZ,dZ,.sh 7 ([(Nd.mk no4 nt4 nn4 nm4 nl4 ns4 nk4)].map Nd.d)]) (i:=4) O O Tryz.isAgg27 Tryz.sizeOf27 O O) (Cv.agg (.cons (cS) (.cons (cS) (gc (gc (.cons (Cv.nil) (.cons (Cv.nil) (gc .nil))))))))) .nil) O (HSub.fst 4 O) ⟨(⟨#[110,101,103]⟩:ByteArray),ByteArray.empty,0,0,[],[],[(Nd.mk no4 nt4 nn4 nm4 nl4 ns4 nk4)],⟨s5.l,s5.n,s5.b⟩,unary_1 rmD e2 hc3 e4 e5,O,O⟩
 · skip
   refine g' 5 O (tX [0,1,1,1] O O acs (prim_s g s2 ev es L ex hev hes hex hst (by omega) (by omega) (by omega) hT2) ?_)
   rintro _ _ ⟨no6,nt6,nn6,nm6,nl6,ns6,nk6,s6,e6,rfl,rfl⟩
   obtain ⟨ka6,kb6,kc6,hT6⟩:=(nd_e e6 (prim_stp rmD hst s2)).out hT2
   refine gQ 4 [4] O O ?_
   exact tRs O Tryz.results181 (.cons (zh (i:=4) O O Tryz.isAgg27 Tryz.sizeOf27 O O) .nil) O (HSub.fst 4 O) ⟨no6,nt6,nn6,nm6,nl6,ns6,nk6,⟨s6.l,s6.n,s6.b⟩,unary_0 rmD e2 (by simpa using hc3) e6,O,O⟩
end Lp
set_option linter.unusedSimpArgs false
set_option linter.unusedVariables false
set_option maxHeartbeats 4000000
set_option maxRecDepth 100000
namespace Lp
open Go Go.RowKit Go.Proofs
theorem fa_135_2:FaP Tryz.prog 135 2 2:=fun _ _ _=>by kernel_rfl
def zba (F:FuncId) (ar:List D) (L:Nat) (part:Rd→Nd×Rd):Prop:=∀ (g:Nat) (s:Rd),s.l.length<L→s.n+2*(s.l.length:Int)≤2000000→0≤s.n→TOk s.l→CD Tryz.prog F [RB7 g s] (dP g 0::ar) (NdR7 g (part s))
section
variable {s z s1 s2 s3 s4 s5 s6 s7 s8:Rd} {t a b:ByteArray} {m w:Int} {l:List ByteArray} {n:Nd} {x:TokD} {ex:Rd→Nd×Rd} {f:Nat}
theorem tl_e (e:z=⟨(s.l.take s.l.length).drop 1,s.n,s.b⟩) (hl:0<s.l.length) (hT:TOk s.l):z=s.tl∧z.l.length+1=s.l.length∧z.n+2*(z.l.length:Int)≤s.n+2*(s.l.length:Int)-2∧s.n≤z.n∧TOk z.l:=by
 have h:z=s.tl:=by rw[e,tail_td];rfl
 obtain ⟨h1,h2⟩:=zdg (s:=s) (List.length_pos_iff.1 hl)
 rw[h];exact⟨rfl,h2,by have:=h1.p.w;unfold Rd.w at this;omega,h1.p.n,hT.suf h1.p.l⟩
theorem mode7_1 (h:s.is7 1 a=true∨s.is7 1 b=true) (hm:m=if s.is7 1 b=true then 2 else 1) (e1:s1=s.tl) (e:(l,s2)=s1.names7):(m,l,s2)=s.mode7 a b:=by unfold Rd.mode7;rw[if_pos h,←hm,←e1,←e]
theorem mode7_0 (h:¬(s.is7 1 a=true∨s.is7 1 b=true)):(0,[],s)=s.mode7 a b:=by unfold Rd.mode7;rw[if_neg h]
theorem mode7_e (e:(m,l,s1)=s.mode7 a b):Stp 0 s s1:=by have h:=(mode7_sk (s:=s) (x:=a) (y:=b)).p;rw[←e] at h;exact h
theorem is7_len1 (h:s.is7 1 a=true∨s.is7 1 b=true):0<s.l.length:=by rcases h with h | h<;>exact zek h (by decide)
theorem aggr7_of (e1:(t,s1)=s.any 1) (e2:(m,l,s2)=s1.mode7 tBy zL) (e3:s3=s2.must zC) (e4:(w,s4)=s3.aggN t) (e6:(n,s6)=ex s4) (e7:s7=s6.must zH) (e8:s8=s7.node7):(Nd.mk tAgg t w m l [] [n],s8)=s.aggr7 ex:=by
 unfold Rd.aggr7;simp only
 rw[←e1];simp only;rw[←e2];simp only;rw[←e3]
 unfold Rd.aggN at e4
 by_cases h:zar t=true
 · rw[if_pos h] at e4;injection e4 with h1 h2
   rw[if_pos h,if_pos h,←h2,←e6];simp only;rw[←h1,←e7,e8]
 · rw[if_neg h] at e4;injection e4 with h1 h2
   rw[if_neg h,if_neg h,←h2,←e6];simp only;rw[←h1,←e7,e8]
theorem prim7_bad (h:s.b=true∨s.l.length=0):(Nd.mk ByteArray.empty ByteArray.empty 0 0 [] [] [],(⟨s.l,s.n,true⟩:Rd))=s.prim7 rmD ex:=by unfold Rd.prim7;rw[if_pos h];unfold Rd.bd;rw[Bool.or_true];rfl
variable (h0:¬(s.b=true∨s.l.length=0)) (hx:s.l[0]?=some x)
include h0 hx
theorem prim7_num (h2:x.k=2) (e1:s1=s.tl) (e2:s2=s1.node7):(Nd.mk tNum ByteArray.empty (numV x.t) 0 [] [] [],s2)=s.prim7 rmD ex:=by unfold Rd.prim7;rw[if_neg h0,pk_x hx,if_pos h2,e2,e1]
theorem prim7_brk (h2:¬x.k=2) (h3:s.is7 5 zC=true) (e1:s1=s.must zC) (e2:(n,s2)=ex s1) (e3:s3=s2.must zH):(n,s3)=s.prim7 rmD ex:=by unfold Rd.prim7;rw[if_neg h0,pk_x hx,if_neg h2,if_pos h3,←e1,←e2,e3]
theorem prim7_agg (h2:¬x.k=2) (h3:¬s.is7 5 zC=true) (h4:x.k=1∧hasN aggN x.t=true) (e:(n,s1)=s.aggr7 ex):(n,s1)=s.prim7 rmD ex:=by unfold Rd.prim7;rw[if_neg h0,pk_x hx,if_neg h2,if_neg h3,if_pos h4,e]
theorem prim7_fn (h2:¬x.k=2) (h3:¬s.is7 5 zC=true) (h4:¬(x.k=1∧hasN aggN x.t=true)) (h5:x.k=1∧hasN fnN x.t=true) (e1:s1=s.tl) (e2:s2=s1.must zC) (e3:(n,s3)=ex s2) (e4:s4=s3.must zH) (e5:s5=s4.node7):(Nd.mk tFn x.t 0 0 [] [] [n],s5)=s.prim7 rmD ex:=by
 unfold Rd.prim7;rw[if_neg h0,pk_x hx,if_neg h2,if_neg h3,if_neg h4,if_pos h5];simp only;rw[←e1,←e2,←e3];simp only;rw[←e4,e5]
theorem prim7_sel (h2:¬x.k=2) (h3:¬s.is7 5 zC=true) (h4:¬(x.k=1∧hasN aggN x.t=true)) (h5:¬(x.k=1∧hasN fnN x.t=true)) (e:(n,s1)=s.sel7 rmD):(n,s1)=s.prim7 rmD ex:=by unfold Rd.prim7;rw[if_neg h0,pk_x hx,if_neg h2,if_neg h3,if_neg h4,if_neg h5,e]
omit h0 hx
theorem unary7_1 (h:s.is7 5 zaE=true) (e1:s1=s.tl) (e2:(n,s2)=zaV rmD ex f s1) (e3:s3=s2.node7):(Nd.mk tNeg ByteArray.empty 0 0 [] [] [n],s3)=zaV rmD ex (f+1) s:=by unfold zaV;rw[if_pos h];simp only;rw[←e1,←e2,e3]
theorem unary7_0 (h:¬s.is7 5 zaE=true) (e:(n,s1)=s.prim7 rmD ex):(n,s1)=zaV rmD ex (f+1) s:=by unfold zaV;rw[if_neg h,e]
theorem tok_dig (hT:TOk s.l) (hx:s.l[0]?=some x) (hk:x.k=2):DigO x.t:=.inr ((hT x (List.mem_of_getElem? hx)).d (.inl hk))
end
theorem agg7_s (g:Nat) (s:Rd) (L:Nat) (ex:Rd→Nd×Rd) (hex:zba 89 [dI 0] L ex) (hst:∀ s,Sk 1 s (ex s).2) (hL:s.l.length<L+1) (hb:s.b=false) (hk:s.pk.k=1) (hw:s.n+2*(s.l.length:Int)≤2000000) (hn:0≤s.n) (hT:TOk s.l):
 CD Tryz.prog 186 [RB7 g s] [dP g 0] (NdR7 g (s.aggr7 ex)):=by
 refine tZ Tryz.func186 O O (fun C=>?_)
 refine g' 2 O ?_
 refine tA O (fun g1=>?_)
 refine g' 5 O (tX [1] O O acs (zb6 g s 1 (by omega) (by omega) hT (by decide)) ?_)
 rintro _ _ ⟨t2,s2,e2,rfl,rfl⟩
 obtain ⟨ka2,kb2,kc2,hT2⟩:=(zch e2).out hT
 have kz2:=zcg e2 hT
 refine tP O (zf [0,1] [.const (.string (⟨#[97,103,103]⟩:ByteArray)),.tmp 5] (zv:=n9) O O (.cons (CellD.v O) (.cons CellD.s .nil)) (Tryz.runUnderlying27) Tryz.zeroValue27 zdd ⟨O,O,O,O,O,O,O,trivial⟩ O) ?_
 refine tA O (fun g3=>?_)
 refine gQ 4 [0] O O ?_
 obtain ⟨kq,kw⟩:=any_yw e2 (by decide) hb hk
 refine T.subH (HSub.turn (h':=.bx g3 27 (n7 tAgg t2 0 0 ([]:List ByteArray) ([]:List MatD) ([]:List Nd))) O (Hp.cv_bx (Cv.agg (.cons cS (gc (gc (gc (.cons Cv.nil (.cons Cv.nil (.cons Cv.nil .nil)))))))))) ?_
 refine tJ (fun (jg:Int×List ByteArray×Rd)=>[(0,dP g 0),(2,dP g1 0),(3,dP g3 0)]) (fun (jg:Int×List ByteArray×Rd)=>[.bx g3 27 (n7 tAgg t2 0 jg.1 jg.2.1 ([]:List MatD) ([]:List Nd)),.bx g 106 (.agg [.sh 3 (jg.2.2.l.map TokD.d),dI jg.2.2.n,dB jg.2.2.b]),.bx g1 27 n8]) (fun (jg:Int×List ByteArray×Rd)=>((jg.1,jg.2.1,jg.2.2)=s2.mode7 tBy zL)) (fun _ hQ4=>?_) ?_
 · skip
   refine g' 3 O (tX [1] O O (ga (ga (.cons (ArgC.cv cS) .nil))) (zcK g s2 1 (⟨#[98,121]⟩:ByteArray) (by omega) (by omega) hT2 (by decide)) ?_)
   rintro _ _ ⟨rfl,rfl⟩
   refine g' 1 O ?_
   refine tOr 2 2 (c:=(s2.is7 1 (⟨#[119,105,116,104,111,117,116]⟩:ByteArray))) O O O O O O (fun hb6 nx7=>?_) ?_
   · skip
     refine g' 1 O (tX [0] O O (ga (ga (.cons (ArgC.cv cS) .nil))) (zcK g s2 1 (⟨#[119,105,116,104,111,117,116]⟩:ByteArray) (by omega) (by omega) hT2 (by decide)) ?_)
     rintro _ _ ⟨rfl,rfl⟩
     exact nx7 _ O O (kx 2 O O)
   refine g' 2 O ?_
   refine tC O (fun hc9=>?_) (fun hc9=>?_)
   · simp only[bX,bJ] at hc9
     have hmo1:=hc9
     have hml:=is7_len1 hmo1
     refine gQ 7 [1] O O ?_
     refine tJ (fun (jg:Int)=>[(0,dP g 0),(2,dP g1 0),(3,dP g3 0)]) (fun (jg:Int)=>[RB7 g s2,.bx g3 27 (n7 tAgg t2 0 jg ([]:List ByteArray) ([]:List MatD) ([]:List Nd)),.bx g1 27 n8]) (fun (jg:Int)=>(jg=if s2.is7 1 zL=true then 2 else 1)) (fun _ hQ10=>?_) ?_
     · skip
       refine g' 3 O (tX [0] O O (ga (ga (.cons (ArgC.cv cS) .nil))) (zcK g s2 1 (⟨#[119,105,116,104,111,117,116]⟩:ByteArray) (by omega) (by omega) hT2 (by decide)) ?_)
       rintro _ _ ⟨rfl,rfl⟩
       refine g' 2 O ?_
       refine tC O (fun hc12=>?_) (fun hc12=>?_)
       · skip
         refine gQ 4 [1] O O ?_
         exact tqe (hQ10 2 ((if_pos hc12).symm)) O
       · skip
         refine g' 1 O ?_
         exact tqe (hQ10 1 ((if_neg (by simpa using hc12)).symm)) O
     · skip
       rintro mm hmm
       refine gQ 8 [0] O O (tP O ((za8 (a:=1) (b:=s2.l.length) O O O (by first | rfl | (show _=_;(try simp only[lm]);omega) | exact List.length_map _) (by first | rfl | (show _=_;(try simp only[lm]);omega) | exact List.length_map _) Tryz.runUnderlying67 Tryz.sizeOf135 (by omega) (by simp only[lm];omega)).cv (Cv.eq (by rw[←List.map_take,←List.map_drop]))) (gQ 5 [0] O O ?_))
       obtain ⟨s13,e13⟩:∃ x:Rd,x=⟨((s2.l.take s2.l.length).drop 1),s2.n,s2.b⟩:=⟨_,rfl⟩
       refine T.norm [RB7 g s13,.bx g3 27 (n7 tAgg t2 0 mm ([]:List ByteArray) ([]:List MatD) ([]:List Nd)),.bx g1 27 n8] (by rw[e13]<;>rfl) ?_
       obtain ⟨hq13,ka13,kb13,kc13,hT13⟩:=tl_e e13 hml hT2
       refine g' 2 O (tX [0] O O acs (names7_c g s13 (by omega) (by omega) hT13) ?_)
       rintro _ _ ⟨l14,s14,e14,rfl,rfl⟩
       obtain ⟨ka14,kb14,kc14,hT14⟩:=(names7_e e14).out hT13
       refine gQ 3 [1] O O (T.front 2 O (T.front 1 O (T.front 2 O ?_)))
       exact tqe (hQ4 (mm,l14,s14) (mode7_1 hmo1 hmm hq13 e14)) O
   · simp only[bX,bJ] at hc9
     refine g' 1 O (T.front 2 O (T.front 1 O (T.front 2 O ?_)))
     exact tqe (hQ4 (0,([]:List ByteArray),s2) (mode7_0 (by simpa using hc9))) O
 · skip
   rintro ⟨mm,ml,mz⟩ hmd
   replace hmd:(mm,ml,mz)=s2.mode7 tBy zL:=hmd
   refine T.kk [(0,dP g 0),(2,dP g1 0),(3,dP g3 0)] O (T.norm [.bx g3 27 (n7 tAgg t2 0 mm ml ([]:List MatD) ([]:List Nd)),RB7 g mz,.bx g1 27 n8] (by rfl) (g' 2 O ?_))
   obtain ⟨kx0,ky0,kz0,hTm⟩:=(mode7_e hmd).out hT2
   refine g' 2 O (tX [1] O O (ga (.cons (ArgC.cv cS) .nil)) (zbi g mz (⟨#[40]⟩:ByteArray) (by omega) (by omega) hTm) ?_)
   rintro _ _ ⟨s15,e15,rfl,rfl⟩
   obtain ⟨ka15,kb15,kc15,hT15⟩:=(zah e15).out hTm
   refine g' 3 O ?_
   refine tJ (fun (jg:Int×Rd)=>[(0,dP g 0),(2,dP g1 0),(3,dP g3 0)]) (fun (jg:Int×Rd)=>[.bx g 106 (.agg [.sh 3 (jg.2.l.map TokD.d),dI jg.2.n,dB jg.2.b]),.bx g3 27 (n7 tAgg t2 jg.1 mm ml ([]:List MatD) ([]:List Nd)),.bx g1 27 n8]) (fun (jg:Int×Rd)=>((jg.1,jg.2)=s15.aggN t2)) (fun _ hQ16=>?_) ?_
   · skip
     refine gQ 6 [1] O O ?_
     refine tOr 3 3 (c:=decide (t2=(⟨#[113,117,97,110,116,105,108,101]⟩:ByteArray))) O O O O O O (fun hb17 nx18=>?_) ?_
     · skip
       have hf19:=of_decide_eq_false hb17
       refine gQ 3 [1] O O ?_
       exact nx18 _ O O (kx 3 O O)
     refine g' 2 O ?_
     refine tC O (fun hc20=>?_) (fun hc20=>?_)
     · simp only[bX,bJ] at hc20
       refine g' 3 O (tX [0] O O acs (zb6 g s15 2 (by omega) (by omega) hT15 (by decide)) ?_)
       rintro _ _ ⟨t21,s21,e21,rfl,rfl⟩
       obtain ⟨ka21,kb21,kc21,hT21⟩:=(zch e21).out hT15
       have kz21:=zcg e21 hT15
       have hvd:DigO t21:=zeo e21 (by decide) hT15
       refine tW O acs (zdX t21 (by omega) hvd) (gQ 6 [1] O O (tX [0] O O (ga (.cons (ArgC.cv cS) .nil)) (zbi g s21 (⟨#[44]⟩:ByteArray) (by omega) (by omega) hT21) ?_))
       rintro _ _ ⟨s22,e22,rfl,rfl⟩
       obtain ⟨ka22,kb22,kc22,hT22⟩:=(zah e22).out hT21
       refine g' 1 O ?_
       exact tqe (hQ16 (numV t21,s22) (aggN_1 (by unfold zar;simpa using hc20) (number_of e21) e22)) O
     · simp only[bX,bJ] at hc20
       refine g' 1 O ?_
       exact tqe (hQ16 (0,s15) (aggN_0 (by unfold zar;simpa using hc20))) O
   · skip
     rintro ⟨w,z⟩ hag
     replace hag:(w,z)=s15.aggN t2:=hag
     refine T.kk [(0,dP g 0),(2,dP g1 0),(3,dP g3 0)] O (T.norm [RB7 g z,.bx g3 27 (n7 tAgg t2 w mm ml ([]:List MatD) ([]:List Nd)),.bx g1 27 n8] (by rfl) (g' 2 O ?_))
     obtain ⟨kx1,ky1,kz1,hTj⟩:=(aggN_e hag).out hT15
     refine g' 2 O (tX [0] O O acs (hex g z (by omega) (by omega) (by omega) hTj) ?_)
     rintro _ _ ⟨no23,nt23,nn23,nm23,nl23,ns23,nk23,s23,e23,rfl,rfl⟩
     obtain ⟨ka23,kb23,kc23,hT23⟩:=(nd_e e23 ((hst z).p)).out hTj
     refine tE O (Qu.ef (d:=.sh 7 ([(Nd.mk no23 nt23 nn23 nm23 nl23 ns23 nk23)].map Nd.d)) (ze [.tmp 45] O O (.cons CellD.agg .nil) O Tryz.runUnderlying25 Tryz.sizeOf27 Tryz.zeroValue27 O O O O)) ?_
     rintro _ _ ⟨rfl,rfl⟩
     refine gQ 7 [1] O O (tX [0] O O (ga (.cons (ArgC.cv cS) .nil)) (zbi g s23 (⟨#[41]⟩:ByteArray) (by omega) (by omega) hT23) ?_)
     rintro _ _ ⟨s24,e24,rfl,rfl⟩
     obtain ⟨ka24,kb24,kc24,hT24⟩:=(zah e24).out hT23
     refine gQ 6 [1] O O (tX [0] O O acs (zei g s24 (.s tAgg) (.s t2) (dI w) (dI mm) (.sh 1 (ml.map D.s)) (.sh 3 (([]:List MatD).map MatD.d)) (.sh 7 ([(Nd.mk no23 nt23 nn23 nm23 nl23 ns23 nk23)].map Nd.d)) (by omega) (by omega) hT24) ?_)
     rintro _ _ ⟨s25,e25,rfl,rfl⟩
     obtain ⟨ka25,kb25,kc25,hT25⟩:=(zeh e25).out hT24
     refine gQ 4 [2] O O ?_
     exact tRs O Tryz.results186 (.cons (zh (i:=2) O O Tryz.isAgg27 Tryz.sizeOf27 O O) .nil) O (HSub.fst 1 O) ⟨tAgg,t2,w,mm,ml,([]:List MatD),[(Nd.mk no23 nt23 nn23 nm23 nl23 ns23 nk23)],⟨s25.l,s25.n,s25.b⟩,aggr7_of e2 hmd e15 hag e23 e24 e25,O,O⟩
def gOf7:Value→Nat
 | .pointer (some a)=>a.block
 | _=>0
theorem nd_nm7 {f:FuncId} {H:List Hp} {ds:List D} {g:Nat} {p:Nd×Rd} {op text:ByteArray} {n mode:Int} {names:List ByteArray} {ms:List MatD} {kids:List Nd} {s':Rd} (e:(Nd.mk op text n mode names ms kids,s')=p) (h:CD Tryz.prog f H ds (NdR7 g p)):
 CD Tryz.prog f H ds (fun r H'=>r=n7 op text n mode names ms kids∧H'=[RB7 g s']):=h.to (by
 rintro r H' ⟨op2,text2,n2,mode2,names2,ms2,kids2,s2,e2,rfl,rfl⟩
 rw[←e] at e2
 injection e2 with e2 e3
 injection e2 with a1 a2 a3 a4 a5 a6 a7
 subst a1;subst a2;subst a3;subst a4;subst a5;subst a6;subst a7;subst e3
 exact⟨O,O⟩)
theorem prim7_s (g:Nat) (s:Rd) (L:Nat) (ex:Rd→Nd×Rd) (hex:zba 89 [dI 0] L ex) (hst:∀ s,Sk 1 s (ex s).2) (hL:s.l.length<L+1) (hw:s.n+2*(s.l.length:Int)≤2000000) (hn:0≤s.n) (hT:TOk s.l):
 CD Tryz.prog 166 [RB7 g s] [dP g 0] (NdR7 g (s.prim7 rmD ex)):=by
 refine tZ Tryz.func166 O O (fun C=>?_)
 refine g' 2 O ?_
 refine tA O (fun g1=>?_)
 refine gQ 10 [1] O O ?_
 refine tOr 4 6 (c:=decide (((s.l.length:Nat):Int)=(0:Int))) O O O O O O (fun hb2 nx3=>?_) ?_
 · skip
   refine gQ 4 [1] O O (tG O (z8 (n:=s.l.length) O Tryz.runUnderlying67 (by simp only[lm,lc,ln])) (g' 1 O ?_))
   exact nx3 _ O O (kx 6 O O)
 refine g' 2 O ?_
 refine tC O (fun hc4=>?_) (fun hc4=>?_)
 · simp only[bX,bJ] at hc4
   refine gQ 10 [1] O O (tP O (zf [] [] (zv:=n9) O O (.nil) (Tryz.runUnderlying27) Tryz.zeroValue27 zdd ⟨O,O,O,O,O,O,O,trivial⟩ O) (gQ 5 [0] O O (T.front 1 O ?_)))
   exact tRs rfl Tryz.results166 (.cons (zd (zh (X:=n8) (d:=n8) (i:=1) rfl rfl Tryz.isAgg27 Tryz.sizeOf27 rfl rfl) (Cv.agg (.cons (cS) (.cons (cS) (gc (gc (.cons (Cv.nil) (.cons (Cv.nil) (.cons (Cv.nil) .nil))))))))) .nil) rfl (HSub.fst 1 rfl) ⟨ByteArray.empty,ByteArray.empty,0,0,[],[],[],⟨s.l,s.n,true⟩,prim7_bad (by have h:=hc4;rcases h with h | h;exact .inl h;exact .inr (by omega)),rfl,rfl⟩
 · simp only[bX,bJ] at hc4
   have h0:¬(s.b=true∨s.l.length=0):=by have h:=hc4;rintro (k | k);(rw[k] at h;exact absurd h.1 (by decide));exact h.2 (by omega)
   have hbf:s.b=false:=by simpa using (not_or.1 h0).1
   have hln:0<s.l.length:=by have:=(not_or.1 h0).2;omega
   refine g' 3 O ?_
   obtain ⟨x1,hx1⟩:=zN s.l 0 (by omega)
   have hxz:=(hT x1 (List.mem_of_getElem? hx1)).z
   refine gQ 5 [1] O O (tP O (zr (k:=0) O O Tryz.runUnderlying67 Tryz.sizeOf135 (by first | rfl | omega) (zI hx1)) (g' 1 O ?_))
   refine tA O (fun g5=>?_)
   refine gQ 13 [0,0] O O ?_
   refine tD O (fun hc6=>?_) (fun hc6=>?_)
   · skip
     refine gQ 7 [2] O O (tP O ((za8 (a:=1) (b:=s.l.length) O O O (by first | rfl | (show _=_;(try simp only[lm]);omega) | exact List.length_map _) (by first | rfl | (show _=_;(try simp only[lm]);omega) | exact List.length_map _) Tryz.runUnderlying67 Tryz.sizeOf135 (by omega) (by simp only[lm];omega)).cv (Cv.eq (by rw[←List.map_take,←List.map_drop]))) (gQ 6 [2] O O ?_))
     have hvd:=tok_dig hT hx1 hc6
     obtain ⟨s7,e7⟩:∃ x:Rd,x=⟨((s.l.take s.l.length).drop 1),s.n,s.b⟩:=⟨_,rfl⟩
     refine T.norm [.bx g5 135 (TokD.d x1),.bx g1 27 n8,RB7 g s7] (by rw[e7]<;>rfl) ?_
     obtain ⟨hq7,ka7,kb7,kc7,hT7⟩:=tl_e e7 hln hT
     refine gQ 4 [0] O O (tW O acs (zdX x1.t (by omega) hvd) (tP O (zf [0,2] [.const (.string (⟨#[110,117,109]⟩:ByteArray)),.tmp 43] (zv:=n9) O O (.cons (CellD.v O) (.cons (CellD.v O) .nil)) (Tryz.runUnderlying27) Tryz.zeroValue27 zdd ⟨O,O,O,O,O,O,O,trivial⟩ O) (tX [2] O O acs (zei g s7 (.v (.string (⟨#[110,117,109]⟩:ByteArray))) (.v (.string ByteArray.empty)) (dI (numV x1.t)) (dI 0) (dZ) (dZ) (dZ) (by omega) (by omega) hT7) ?_)))
     rintro _ _ ⟨s8,e8,rfl,rfl⟩
     obtain ⟨ka8,kb8,kc8,hT8⟩:=(zeh e8).out hT7
     refine gQ 6 [2] O O ?_
     exact tRs O Tryz.results166 (.cons (zd (zh (X:=.agg [.v (.string (⟨#[110,117,109]⟩:ByteArray)),.v (.string ByteArray.empty),dI (numV x1.t),dI 0,dZ,dZ,dZ]) (d:=.agg [.v (.string (⟨#[110,117,109]⟩:ByteArray)),.v (.string ByteArray.empty),dI (numV x1.t),dI 0,dZ,dZ,dZ]) (i:=2) O O Tryz.isAgg27 Tryz.sizeOf27 O O) (Cv.agg (.cons (cS) (.cons (cS) (gc (gc (.cons (Cv.nil) (.cons (Cv.nil) (.cons (Cv.nil) .nil))))))))) .nil) O (HSub.fst 1 O) ⟨(⟨#[110,117,109]⟩:ByteArray),ByteArray.empty,(numV x1.t),0,[],[],[],⟨s8.l,s8.n,s8.b⟩,prim7_num h0 hx1 hc6 hq7 e8,O,O⟩
   · skip
     refine g' 3 O (tX [2] O O (ga (ga (.cons (ArgC.cv cS) .nil))) (zcK g s 5 (⟨#[40]⟩:ByteArray) (by omega) (by omega) hT (by decide)) ?_)
     rintro _ _ ⟨rfl,rfl⟩
     refine g' 3 O ?_
     refine tC O (fun hc10=>?_) (fun hc10=>?_)
     · skip
       refine g' 3 O (tX [0] O O (ga (.cons (ArgC.cv cS) .nil)) (zbi g s (⟨#[40]⟩:ByteArray) (by omega) (by omega) hT) ?_)
       rintro _ _ ⟨s11,e11,rfl,rfl⟩
       obtain ⟨ka11,kb11,kc11,hT11⟩:=(zah e11).out hT
       refine g' 3 O ?_
       obtain ⟨kq,kw⟩:=must_y e11 hbf (by rw[←zbl hbf];exact hc10)
       refine g' 2 O (tX [0] O O acs (hex g s11 (by omega) (by omega) (by omega) hT11) ?_)
       rintro _ _ ⟨no12,nt12,nn12,nm12,nl12,ns12,nk12,s12,e12,rfl,rfl⟩
       obtain ⟨ka12,kb12,kc12,hT12⟩:=(nd_e e12 ((hst s11).p)).out hT11
       refine tA O (fun g13=>?_)
       refine gQ 6 [0] O O (tX [1] O O (ga (.cons (ArgC.cv cS) .nil)) (zbi g s12 (⟨#[41]⟩:ByteArray) (by omega) (by omega) hT12) ?_)
       rintro _ _ ⟨s14,e14,rfl,rfl⟩
       obtain ⟨ka14,kb14,kc14,hT14⟩:=(zah e14).out hT12
       refine gQ 11 [1,3] O O ?_
       exact tRs O Tryz.results166 (.cons (zh (i:=3) O O Tryz.isAgg27 Tryz.sizeOf27 O O) .nil) O (HSub.fst 1 O) ⟨no12,nt12,nn12,nm12,nl12,ns12,nk12,⟨s14.l,s14.n,s14.b⟩,prim7_brk h0 hx1 hc6 hc10 e11 e12 e14,O,O⟩
     · skip
       refine gQ 6 [1] O O ?_
       refine tAnd 3 3 (c:=hasN aggN x1.t) O O O O O O (fun hb15 nx16=>?_) ?_
       · skip
         have hf17:=of_decide_eq_true hb15
         refine gQ 2 [1] O O (tW O acs (Agg7_c x1.t) ?_)
         exact nx16 _ O O (kx 3 O O)
       refine g' 3 O ?_
       refine tC O (fun hc18=>?_) (fun hc18=>?_)
       · simp only[bX,bJ] at hc18
         refine g' 3 O (tX [0] O O acs (agg7_s g s L ex hex hst (by omega) hbf (by rw[pk_x hx1];exact(hc18).1) (by omega) (by omega) hT) ?_)
         rintro _ _ ⟨no19,nt19,nn19,nm19,nl19,ns19,nk19,s19,e19,rfl,rfl⟩
         obtain ⟨ka19,kb19,kc19,hT19⟩:=(nd_e e19 ((aggr7_sk hst (by simpa using hc10) hbf (by rw[pk_x hx1];exact(hc18).1)).p)).out hT
         refine gQ 6 [2] O O ?_
         exact tRs O Tryz.results166 (.cons (zh (i:=2) O O Tryz.isAgg27 Tryz.sizeOf27 O O) .nil) O (HSub.fst 1 O) ⟨no19,nt19,nn19,nm19,nl19,ns19,nk19,⟨s19.l,s19.n,s19.b⟩,prim7_agg h0 hx1 hc6 (by simpa using hc10) hc18 e19,O,O⟩
       · simp only[bX,bJ] at hc18
         refine gQ 6 [1] O O ?_
         refine tAnd 3 3 (c:=hasN fnN x1.t) O O O O O O (fun hb20 nx21=>?_) ?_
         · skip
           have hf22:=of_decide_eq_true hb20
           refine gQ 2 [1] O O (tW O acs (Fn7_c x1.t) ?_)
           exact nx21 _ O O (kx 3 O O)
         refine g' 3 O ?_
         refine tC O (fun hc23=>?_) (fun hc23=>?_)
         · simp only[bX,bJ] at hc23
           refine gQ 7 [0] O O (tP O ((za8 (a:=1) (b:=s.l.length) O O O (by first | rfl | (show _=_;(try simp only[lm]);omega) | exact List.length_map _) (by first | rfl | (show _=_;(try simp only[lm]);omega) | exact List.length_map _) Tryz.runUnderlying67 Tryz.sizeOf135 (by omega) (by simp only[lm];omega)).cv (Cv.eq (by rw[←List.map_take,←List.map_drop]))) (gQ 6 [0] O O ?_))
           obtain ⟨s24,e24⟩:∃ x:Rd,x=⟨((s.l.take s.l.length).drop 1),s.n,s.b⟩:=⟨_,rfl⟩
           refine T.norm [RB7 g s24,.bx g5 135 (TokD.d x1),.bx g1 27 n8] (by rw[e24]<;>rfl) ?_
           obtain ⟨hq24,ka24,kb24,kc24,hT24⟩:=tl_e e24 hln hT
           refine g' 2 O (tX [0] O O (ga (.cons (ArgC.cv cS) .nil)) (zbi g s24 (⟨#[40]⟩:ByteArray) (by omega) (by omega) hT24) ?_)
           rintro _ _ ⟨s25,e25,rfl,rfl⟩
           obtain ⟨ka25,kb25,kc25,hT25⟩:=(zah e25).out hT24
           refine g' 3 O ?_
           obtain ⟨⟨no26,nt26,nn26,nm26,nl26,ns26,nk26⟩,s26,e26⟩:∃ (p:Nd) (s1:Rd),(p,s1)=ex s25:=⟨_,_,rfl⟩
           obtain ⟨ka26,kb26,kc26,hT26⟩:=(nd_e e26 (hst s25).p).out hT25
           refine tDx 7 [(86,.q (dP g5 2)),(87,.q (.s x1.t)),(88,.q (dP g 0)),(89,.e (n7 no26 nt26 nn26 nm26 nl26 ns26 nk26)),(90,.q (.sh 7 ([(Nd.mk no26 nt26 nn26 nm26 nl26 ns26 nk26)].map Nd.d))),(91,.q (.agg [.v (.string (⟨#[102,110]⟩:ByteArray)),.s x1.t,dI 0,dI 0,dZ,dZ,.sh 7 ([(Nd.mk no26 nt26 nn26 nm26 nl26 ns26 nk26)].map Nd.d)])),(5,.f (fun v=>.v (.pointer (some ⟨gOf7 v,0,none⟩))))] [.bx g5 135 (TokD.d x1),.bx g1 27 n8] (HF5 6 3 (fun γ=>.bx (gOf7 (γ 6)) 27 n8) [RB7 g s25] [RB7 g s26] [.bx g5 135 (TokD.d x1),.bx g1 27 n8]) (fun γ=>[.bx (gOf7 (γ 6)) 27 n8,RB7 g s26,.bx g5 135 (TokD.d x1),.bx g1 27 n8]) mixed O O (by kernel_rfl) hf5_s (hf5_0 rfl rfl) (hf5_n rfl rfl) (fun γ=>⟨sx_p rfl rfl rfl (zm rfl fa_135_2 rfl) (zfs rfl rfl),sx_p rfl rfl rfl (zk rfl (i:=0) rfl Tryz.isAgg9 rfl) (zfs rfl rfl),sx_p rfl rfl rfl (zi rfl) (zfs rfl rfl),sx_c5 rfl rfl rfl rfl (fun R=>(zem [RB7 g s25] R [] rfl rfl (ga (ga .nil)) zbc Tryz.call89 (nd_nm7 e26 (hex g s25 (by omega) (by omega) (by omega) hT25)) (.inl rfl)).mono (by rintro _ _ ⟨_,⟨rfl,rfl⟩,rfl⟩;exact⟨rfl,rfl⟩)),sx_q rfl rfl rfl (ze [.tmp 89] rfl rfl (.cons CellD.agg .nil) rfl Tryz.runUnderlying25 Tryz.sizeOf27 Tryz.zeroValue27 rfl rfl rfl rfl) (zfs rfl rfl),sx_p rfl rfl rfl (zf [0,1,6] [.const (.string (⟨#[102,110]⟩:ByteArray)),.tmp 87,.tmp 90] (zv:=n9) rfl rfl (.cons (CellD.v rfl) (.cons CellD.s (.cons CellD.sh .nil))) (Tryz.runUnderlying27) Tryz.zeroValue27 zdd ⟨rfl,rfl,rfl,rfl,rfl,rfl,rfl,trivial⟩ rfl) (zfs rfl rfl),sx_a5 rfl rfl rfl rfl (fun H=>(ef_alloc (zv:=n9) Tryz.zeroValue27 ⟨rfl,rfl,rfl,rfl,rfl,rfl,rfl,trivial⟩ (Cv.vagg (by decide))).mono (by rintro _ _ ⟨g,rfl,rfl⟩;exact⟨.pointer (some ⟨g,0,none⟩),rfl,rfl⟩)),trivial⟩) (fun γ=>?_)
           refine tK O (gQ 4 [0] O O ?_)
           refine T.sub [(0,dP g 0),(2,dP g1 0),(3,dP g5 0),(5,.v (.pointer (some ⟨(gOf7 (γ 6)),0,none⟩))),(6,dP g 0),(7,dP g 0),(8,dP g 2),(9,dB s.b),(10,dB s.b),(17,dB (s.b||decide (((s.l.length:Nat):Int)=(0:Int)))),(22,dP g 0),(23,dP g 0),(24,dP g 0),(25,.sh 3 (s.l.map TokD.d)),(26,.el (TokD.d x1) 0),(27,TokD.d x1),(28,dB (decide (x1.k=(2:Int)))),(29,dP g5 0),(30,dI x1.k),(31,dB (decide (x1.k=(2:Int)))),(46,dB (s.is7 5 (⟨#[40]⟩:ByteArray))),(47,dP g 0),(48,dB (s.is7 5 (⟨#[40]⟩:ByteArray))),(56,dB (decide (x1.k=(1:Int))&&hasN aggN x1.t)),(57,dP g5 0),(58,dI x1.k),(59,dB (decide (x1.k=(1:Int)))),(60,dB (decide (x1.k=(1:Int)))),(64,dB (decide (x1.k=(1:Int))&&hasN aggN x1.t)),(67,dB (decide (x1.k=(1:Int))&&hasN fnN x1.t)),(68,dP g5 0),(69,dI x1.k),(70,dB (decide (x1.k=(1:Int)))),(71,dB (decide (x1.k=(1:Int)))),(75,dB (decide (x1.k=(1:Int))&&hasN fnN x1.t)),(76,dP g 0),(77,dP g 0),(78,dP g 0),(79,dP g 0),(80,.sh 3 (s.l.map TokD.d)),(81,.sh 3 (((s.l.take s.l.length).drop 1).map TokD.d)),(82,dP g 0),(83,dP g 0),(84,dP g 0),(85,.tup []),(86,dP g5 2),(87,.s x1.t),(88,dP g 0),(89,n7 no26 nt26 nn26 nm26 nl26 ns26 nk26),(90,.sh 7 ([(Nd.mk no26 nt26 nn26 nm26 nl26 ns26 nk26)].map Nd.d)),(91,.agg [.v (.string (⟨#[102,110]⟩:ByteArray)),.s x1.t,dI 0,dI 0,dZ,dZ,.sh 7 ([(Nd.mk no26 nt26 nn26 nm26 nl26 ns26 nk26)].map Nd.d)])] (sa O) ?_
           refine T.norm [.bx (gOf7 (γ 6)) 27 (.agg [.v (.string (⟨#[102,110]⟩:ByteArray)),.s x1.t,dI 0,dI 0,dZ,dZ,.sh 7 ([(Nd.mk no26 nt26 nn26 nm26 nl26 ns26 nk26)].map Nd.d)]),RB7 g s26,.bx g5 135 (TokD.d x1),.bx g1 27 n8] O ?_
           generalize (gOf7 (γ 6))=gb27
           refine g' 2 O (tX [1] O O (ga (.cons (ArgC.cv cS) .nil)) (zbi g s26 (⟨#[41]⟩:ByteArray) (by omega) (by omega) hT26) ?_)
           rintro _ _ ⟨s28,e28,rfl,rfl⟩
           obtain ⟨ka28,kb28,kc28,hT28⟩:=(zah e28).out hT26
           refine gQ 6 [1] O O (tX [0] O O acs (zei g s28 (.v (.string (⟨#[102,110]⟩:ByteArray))) (.s x1.t) (dI 0) (dI 0) (dZ) (dZ) (.sh 7 ([(Nd.mk no26 nt26 nn26 nm26 nl26 ns26 nk26)].map Nd.d)) (by omega) (by omega) hT28) ?_)
           rintro _ _ ⟨s29,e29,rfl,rfl⟩
           obtain ⟨ka29,kb29,kc29,hT29⟩:=(zeh e29).out hT28
           refine gQ 6 [3] O O ?_
           exact tRs rfl Tryz.results166 (.cons (zd (zh (X:=.agg [.v (.string (⟨#[102,110]⟩:ByteArray)),.s x1.t,dI 0,dI 0,dZ,dZ,.sh 7 ([(Nd.mk no26 nt26 nn26 nm26 nl26 ns26 nk26)].map Nd.d)]) (d:=.agg [.v (.string (⟨#[102,110]⟩:ByteArray)),.s x1.t,dI 0,dI 0,dZ,dZ,.sh 7 ([(Nd.mk no26 nt26 nn26 nm26 nl26 ns26 nk26)].map Nd.d)]) (i:=3) rfl rfl Tryz.isAgg27 Tryz.sizeOf27 rfl rfl) (Cv.agg (.cons (cS) (gc (gc (gc (.cons (Cv.nil) (.cons (Cv.nil) (gc .nil))))))))) .nil) rfl (HSub.fst 1 rfl) ⟨(⟨#[102,110]⟩:ByteArray),x1.t,0,0,[],[],[(Nd.mk no26 nt26 nn26 nm26 nl26 ns26 nk26)],⟨s29.l,s29.n,s29.b⟩,prim7_fn h0 hx1 hc6 (by simpa using hc10) (by rintro ⟨a,b⟩;have h:=hc18;rcases h with h | h;exact h a;(rw[b] at h;cases h)) hc23 hq24 e25 e26 e28 e29,rfl,rfl⟩
         · simp only[bX,bJ] at hc23
           refine g' 6 O (tX [0] O O acs (sel7_c g s (by omega) (by omega) hT) ?_)
           rintro _ _ ⟨no30,nt30,nn30,nm30,nl30,ns30,nk30,s30,e30,rfl,rfl⟩
           obtain ⟨ka30,kb30,kc30,hT30⟩:=(nd_e e30 ((sel7_sk s).p)).out hT
           refine gQ 4 [2] O O ?_
           exact tRs rfl Tryz.results166 (.cons (zh (i:=2) rfl rfl Tryz.isAgg27 Tryz.sizeOf27 rfl rfl) .nil) rfl (HSub.fst 1 rfl) ⟨no30,nt30,nn30,nm30,nl30,ns30,nk30,⟨s30.l,s30.n,s30.b⟩,prim7_sel h0 hx1 hc6 (by simpa using hc10) (by rintro ⟨a,b⟩;have h:=hc18;rcases h with h | h;exact h a;(rw[b] at h;cases h)) (by rintro ⟨a,b⟩;have h:=hc23;rcases h with h | h;exact h a;(rw[b] at h;cases h)) e30,rfl,rfl⟩
end Lp
