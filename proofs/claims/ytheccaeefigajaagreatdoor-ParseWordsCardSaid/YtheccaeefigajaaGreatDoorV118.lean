import Derived.Test.YtheccaeefigajaaGreatDoorV117
set_option linter.unusedSimpArgs false
set_option linter.unusedVariables false
set_option maxHeartbeats 4000000
set_option maxRecDepth 100000
namespace Lp
open Go Go.RowKit Go.Proofs
theorem zdi:BdP Tryz.prog #[⟨"kind",3,0,false, "", "leporello/leporelloref1",0⟩,⟨"r",21,1,false, "", "leporello/leporelloref1",8⟩,⟨"lo",130,2,false, "", "leporello/leporelloref1",16⟩,⟨"hi",130,3,false, "", "leporello/leporelloref1",40⟩,⟨"not",4,4,false, "", "leporello/leporelloref1",64⟩,⟨"a",3,5,false, "", "leporello/leporelloref1",72⟩,⟨"b",3,6,false, "", "leporello/leporelloref1",80⟩,⟨"least",3,7,false, "", "leporello/leporelloref1",88⟩,⟨"once",4,8,false, "", "leporello/leporelloref1",96⟩] [(0,1),(1,1),(2,1),(3,1),(4,1),(5,1),(6,1),(7,1),(8,1)]:=fun _=>by kernel_rfl
theorem fa_288_2:FaP Tryz.prog 288 2 2:=fun _ _ _=>by kernel_rfl
theorem fa_288_3:FaP Tryz.prog 288 3 3:=fun _ _ _=>by kernel_rfl
section
variable {p:List Int} {a a0 a1 a2 n:Nat} {b b1 b2:Bool} {c d:Int}
theorem class7_stop (h:b=true∨(nx p a=93∧n≠0)) (hn:n≤p.length):zaB p (p.length+1-n) n a b=(a,b):=by
 rw[show p.length+1-n=(p.length-n)+1 by omega];unfold zaB;rw[if_pos h]
theorem class7_bad (hn:n≤p.length) (h1:¬(b=true∨(nx p a=93∧n≠0))) (h:nx p a=93∨p.length≤a):zaB p (p.length+1-n) n a b=(a,true):=by
 rw[show p.length+1-n=(p.length-n)+1 by omega];unfold zaB;rw[if_neg h1,if_pos h]
theorem class7_go (hn:n≤p.length) (h1:¬(b=true∨(nx p a=93∧n≠0))) (h:¬(nx p a=93∨p.length≤a)) (e:(c,d,a1,b1)=two7 p a b):zaB p (p.length+1-n) n a b=zaB p (p.length+1-(n+1)) (n+1) a1 (b1||decide (d<c)):=by
 rw[show p.length+1-n=(p.length-n)+1 by omega,show p.length+1-(n+1)=p.length-n by omega]
 conv=>lhs;unfold zaB
 rw[if_neg h1,if_neg h,←e]
theorem two7_y (e:(c,a1,b1)=zaN p a b) (h:zc5 p a1) (e2:(d,a2,b2)=zaN p (a1+1) b1):(c,d,a2,b2)=two7 p a b:=by unfold two7;rw[←e];simp only;rw[if_pos h,←e2]
theorem two7_n (e:(c,a1,b1)=zaN p a b) (h:¬zc5 p a1):(c,c,a1,b1)=two7 p a b:=by unfold two7;rw[←e];simp only;rw[if_neg h]
theorem class7_of (h0:a0=if nx p a=94 then a+1 else a) (hf:zaB p (p.length+1) 0 a0 b=(a1,b1)):(a1+1,b1)=zc6 p a b:=by unfold zc6;simp only;rw[←h0,hf]
theorem two7_e (e:(c,d,a1,b1)=two7 p a b):a<a1∧a1≤a+5:=by have:=two7_b (p:=p) a b;rw[←e] at this;exact this
end
theorem class7_c (g:Nat) (pv:Value) (rt:Int) (p:List Int) (a:Nat) (b:Bool) (l:List Unit) (hl:l.length≤8000000) (hpl:p.length≤1000000) (ha:a≤900000):
 CD Tryz.prog 264 [nB g pv rt p a b,.sl pv 9 288 (l.map paD)] [dP g 0] (fun r H'=>∃ (i:Int) (pv':Value) (a':Nat) (b':Bool) (l':List Unit),(a',b')=zc6 p a b∧l'.length=l.length+1∧r=dI i∧H'=[nB g pv' rt p a' b',.sl pv' 9 288 (l'.map paD)]):=by
 refine tZ Tryz.func264 O O (fun C=>?_)
 refine g' 7 O (tP O (zf [0] [.const (.int .i64 3)] (zv:=(.agg #[(.int .i64 0),(.int .i32 0),(.slice none 0 0),(.slice none 0 0),(.bool false),(.int .i64 0),(.int .i64 0),(.int .i64 0),(.bool false)])) O O (.cons (CellD.v O) .nil) (Tryz.runUnderlying288) Tryz.zeroValue288 zdi ⟨O,O,O,O,O,O,O,O,O,trivial⟩ O) ?_)
 refine tA O (fun g1=>?_)
 refine gQ 7 [0] O O (tV [1] O O (.cons (ArgC.boxC (j:=0) O (ArgC.agg (.cons (ArgC.cv Cv.oany) (ga (ga (ga (ga .nil))))))) .nil) (zaF (PatD.mk () rt p a b) (by simp only;omega) (by simp only;omega)) O (g' 3 O ?_))
 refine tJ (fun (jg:Nat×Bool)=>[(0,dP g 0),(2,dI 0),(3,dP g1 0)]) (fun (jg:Nat×Bool)=>[.bx g1 288 (.agg [dI 3,.v (.int .i32 0),dZ,dZ,dB jg.2,dI 0,dI 0,dI 0,dB false]),nB g pv rt p jg.1 b,.sl pv 9 288 (l.map paD)]) (fun (jg:Nat×Bool)=>(jg.1=if nx p a=94 then a+1 else a)) (fun _ hQ2=>?_) ?_
 · skip
   refine tD O (fun hc3=>?_) (fun hc3=>?_)
   · skip
     refine gQ 11 [0,1] O O (tP O (zy (c:=((a+1:Nat):Int)) O O (zn (by omega) (by omega))) (gQ 4 [1] O O ?_))
     exact tqe (hQ2 ((a+1),true) ((if_pos hc3).symm)) O
   · skip
     refine g' 1 O ?_
     exact tqe (hQ2 (a,false) ((if_neg hc3).symm)) O
 · skip
   rintro ⟨a0,nt⟩ h0
   replace h0:a0=if nx p a=94 then a+1 else a:=h0
   refine T.kk [(0,dP g 0),(2,dI 0),(3,dP g1 0)] O (T.norm [.bx g1 288 (.agg [dI 3,.v (.int .i32 0),dZ,dZ,dB nt,dI 0,dI 0,dI 0,dB false]),nB g pv rt p a0 b,.sl pv 9 288 (l.map paD)] (by rfl) (g' 3 O ?_))
   have ha0:a0≤a+1:=by rw[h0];split<;>omega
   refine T.subH (HSub.nil 1 21) (T.front 1 O (T.subH (HSub.turn (h':=.bx g1 288 (.agg [dI 3,.v (.int .i32 0),.ov (.slice none 0 0),dZ,dB nt,dI 0,dI 0,dI 0,dB false])) O (Hp.cv_bx (Cv.agg (gc (gc (.cons (Cv.ov O) (gc (gc (gc (gc (gc (gc .nil)))))))))))) (T.subH (HSub.nil 1 21) (T.front 1 O (T.subH (HSub.turn (h':=.bx g1 288 (.agg [dI 3,.v (.int .i32 0),.ov (.slice none 0 0),.ov (.slice none 0 0),dB nt,dI 0,dI 0,dI 0,dB false])) O (Hp.cv_bx (Cv.agg (gc (gc (gc (.cons (Cv.ov O) (gc (gc (gc (gc (gc .nil)))))))))))) ?_)))))
   refine tl7 (fun (a_:Nat) (b_:Nat) (c_:Bool) (d_:Value) (e_:List Int) (f_:Value) (g_:List Int)=>[(0,dP g 0),(2,dI 0),(3,dP g1 0)]) (fun a_ b_ c_ d_ e_ f_ g_=>[.bx g1 288 (.agg [dI 3,.v (.int .i32 0),.ov d_,.ov f_,dB nt,dI 0,dI 0,dI 0,dB false]),.sl d_ 1 21 (e_.map dR),.sl f_ 1 21 (g_.map dR),nB g pv rt p b_ c_,.sl pv 9 288 (l.map paD)]) (fun a_ b_ c_ d_ e_ f_ g_=>(a_≤p.length)∧(a_≤b_)∧(zaB p (p.length+1-a_) a_ b_ c_=zaB p (p.length+1) 0 a0 b)∧(e_.length=a_)∧(g_.length=a_)∧(b_≤a0+p.length+5)) (fun a_ b_ c_ d_ e_ f_ g_=>p.length+1-a_) 0 a0 b (.slice none 0 0) [] (.slice none 0 0) [] O (sa O) HSub.rfl' ⟨Nat.zero_le _,Nat.zero_le _,O,O,O,(by omega)⟩ ?_
   rintro n a1 b1 lv lo hv hi ⟨hn,hna,hf,hlo,hhi,hau⟩
   refine g' 2 O ?_
   refine tS 33 ((!b1&&(decide (nx p a1≠(93:Int))||decide (((lo.length:Nat):Int)=(0:Int))))) (fun _ hQ4=>?_) ?_
   · skip
     rcases Bool.eq_false_or_eq_true (b1) with hg5 | hg5
     · skip
       refine g' 4 O (tP O ((zk O (i:=3) O Tryz.isAgg4 O).cv (cB ((hg5)))) (g' 13 O ?_))
       exact tQ hQ4 O O (by first | (simp[hg5];done) | (simp_all;done))
     · skip
       by_cases hg6:nx p a1≠(93:Int)
       · skip
         refine g' 4 O (tP O ((zk O (i:=3) O Tryz.isAgg4 O).cv (cB ((hg5)))) (g' 3 O (tV [3] O O (.cons (ArgC.boxC (j:=0) O (ArgC.agg (.cons (ArgC.cv Cv.oany) (ga (ga (ga (ga .nil))))))) .nil) (zaF (PatD.mk () rt p a1 b1) (by simp only;omega) (by simp only;omega)) O (tG O (zdT O O (decide_eq_true hg6)) (g' 8 O ?_)))))
         exact tQ hQ4 O O (by first | (simp[hg5,hg6];done) | (simp_all;done))
       · skip
         refine g' 4 O (tP O ((zk O (i:=3) O Tryz.isAgg4 O).cv (cB ((hg5)))) (g' 3 O (tV [3] O O (.cons (ArgC.boxC (j:=0) O (ArgC.agg (.cons (ArgC.cv Cv.oany) (ga (ga (ga (ga .nil))))))) .nil) (zaF (PatD.mk () rt p a1 b1) (by simp only;omega) (by simp only;omega)) O (tG O (zdT O O (decide_eq_false hg6)) (gQ 3 [0] O O (tG O (zV (n:=lo.length) (j:=1) O O Tryz.runUnderlying130 (List.length_map _)) (g' 4 O ?_)))))))
         exact tQ hQ4 O O (by first | (simp[hg5,hg6];done) | (simp_all;done))
   · skip
     refine g' 1 O ?_
     refine tC O (fun hc7=>?_) (fun hc7=>?_)
     · simp only[bX,bJ] at hc7
       have hst:¬(b1=true∨(nx p a1=93∧n≠0)):=by have h:=hc7;rintro (k | k);(rw[k] at h;exact absurd h.1 (by decide));(rcases h.2 with q | q;exact q k.1;omega)
       refine g' 5 O (T.keep [0,2,3,33] O ?_)
       refine tS 48 ((decide (nx p a1=(93:Int))||decide (((p.length:Nat):Int)≤((a1:Nat):Int)))) (fun _ hQ8=>?_) ?_
       · skip
         by_cases hg9:nx p a1=(93:Int)
         · skip
           refine T.keep [0,2,3,33] O ?_
           refine tDr 13 [(34,dP g 0,none),(35,.v (.int .i32 (nx p a1)),none),(36,dB true,none),(37,dB true,none),(38,.v undef,none),(39,.v undef,none),(40,.v undef,none),(41,.v undef,none),(42,.v undef,none),(43,.v undef,none),(44,.v undef,none),(45,.v undef,none),(46,.v undef,none)] [.bx g1 288 (.agg [dI 3,.v (.int .i32 0),.ov lv,.ov hv,dB nt,dI 0,dI 0,dI 0,dB false]),.sl lv 1 21 (lo.map dR),.sl hv 1 21 (hi.map dR),nB g pv rt p a1 b1,.sl pv 9 288 (l.map paD)] (Hn:=[.bx g1 288 (.agg [dI 3,.v (.int .i32 0),.ov lv,.ov hv,dB nt,dI 0,dI 0,dI 0,dB false]),.sl lv 1 21 (lo.map dR),.sl hv 1 21 (hi.map dR),nB g pv rt p a1 b1,.sl pv 9 288 (l.map paD)]) mixed O O O O HSub.rfl' O ⟨sa_p O O O (zi O),sa_q O O O (zeg [nB g pv rt p a1 b1] O (.cons (ArgC.boxC (j:=0) O (ArgC.agg (.cons (ArgC.cv Cv.oany) (ga (ga (ga (ga .nil))))))) .nil) (zcQ (j:=3) O zbc) Tryz.call254 (zaF (PatD.mk () rt p a1 b1) (by simp only;omega) (by simp only;omega)) (fun _ _ h=>h.1) O),sa_p O O O (zag O O (decide_eq_true hg9)),sa_p O O O (zi O),sa_s O O O O O O (by decide),sa_s O O O O O O (by decide),sa_s O O O O O O (by decide),sa_s O O O O O O (by decide),sa_s O O O O O O (by decide),sa_s O O O O O O (by decide),sa_s O O O O O O (by decide),sa_s O O O O O O (by decide),sa_s O O O O O O (by decide),trivial⟩ ?_
           refine tK O (g' 3 O ?_)
           exact tQ hQ8 O O (by first | (simp[hg9];done) | (simp_all;done))
         · skip
           refine T.keep [0,2,3,33] O ?_
           refine tDr 13 [(34,dP g 0,none),(35,.v (.int .i32 (nx p a1)),none),(36,dB false,none),(37,dB false,none),(38,dP g 0,none),(39,dP g 0,none),(40,dP g 3,none),(41,dN a1,none),(42,dP g 0,none),(43,dP g 0,none),(44,dP g 2,none),(45,.sh 1 (p.map dR),none),(46,dN p.length,none)] [.bx g1 288 (.agg [dI 3,.v (.int .i32 0),.ov lv,.ov hv,dB nt,dI 0,dI 0,dI 0,dB false]),.sl lv 1 21 (lo.map dR),.sl hv 1 21 (hi.map dR),nB g pv rt p a1 b1,.sl pv 9 288 (l.map paD)] (Hn:=[.bx g1 288 (.agg [dI 3,.v (.int .i32 0),.ov lv,.ov hv,dB nt,dI 0,dI 0,dI 0,dB false]),.sl lv 1 21 (lo.map dR),.sl hv 1 21 (hi.map dR),nB g pv rt p a1 b1,.sl pv 9 288 (l.map paD)]) mixed O O O O HSub.rfl' O ⟨sa_p O O O (zi O),sa_q O O O (zeg [nB g pv rt p a1 b1] O (.cons (ArgC.boxC (j:=0) O (ArgC.agg (.cons (ArgC.cv Cv.oany) (ga (ga (ga (ga .nil))))))) .nil) (zcQ (j:=3) O zbc) Tryz.call254 (zaF (PatD.mk () rt p a1 b1) (by simp only;omega) (by simp only;omega)) (fun _ _ h=>h.1) O),sa_p O O O (zag O O (decide_eq_false hg9)),sa_p O O O (zi O),zA O O O O O O (zi O).qu,zA O O O O O O (zB O).qu,zA O O O O O O (zm O zbF O).qu,zA O O O O O O (zk O (i:=3) O Tryz.isAgg3 O).qu,zA O O O O O O (zi O).qu,zA O O O O O O (zB O).qu,zA O O O O O O (zm O zbG O).qu,zA O O O O O O (zk O (i:=3) O Tryz.isAgg130 O).qu,zA O O O O O O (z8 (n:=p.length) O Tryz.runUnderlying130 (by simp only[lm,lc,ln])).qu,trivial⟩ ?_
           refine tK O (g' 3 O ?_)
           exact tQ hQ8 O O (by first | (simp[hg9];done) | (simp_all;done))
       · skip
         refine g' 1 O ?_
         refine tC O (fun hc10=>?_) (fun hc10=>?_)
         · simp only[bX,bJ] at hc10
           have hff:=hf.symm.trans (class7_bad hn hst (by have h:=hc10;rcases h with q | q;exact .inl q;exact .inr (by omega)))
           refine gQ 20 [3,3] O O (tP O (zy (c:=((a1+1:Nat):Int)) O O (zn (by omega) (by omega))) (gQ 9 [3,0] O O (tX [3,3] O O (ga (.cons (ArgC.agg (.cons (ArgC.cv (Cv.any O)) (.cons (ArgC.cv (Cv.any O)) (.cons (ArgC.cv Cv.oany) (.cons (ArgC.cv Cv.oany) (.cons (ArgC.cv (Cv.any O)) (.cons (ArgC.cv (Cv.any O)) (.cons (ArgC.cv (Cv.any O)) (.cons (ArgC.cv (Cv.any O)) (.cons (ArgC.cv (Cv.any O)) .nil)))))))))) .nil)) (zc7 g pv rt p (a1+1) true l (by omega)) ?_)))
           rintro _ _ ⟨i11,pv11,l11,hl11,rfl,rfl⟩
           refine g' 4 O ?_
           exact tR O (HSub.fst 2 O) ⟨_,_,_,_,_,class7_of h0 hff,(by assumption),O,O⟩
         · simp only[bX,bJ] at hc10
           have hgo:¬(nx p a1=93∨p.length≤a1):=by have h:=hc10;rintro (k | k);exact h.1 k;(have:=h.2;omega)
           refine g' 5 O (tX [3] O O acs (item7_c g pv rt p a1 b1 (by omega) (by omega)) ?_)
           rintro _ _ ⟨c12,a12,b12,e12,rfl,rfl⟩
           have hb12:=item7_b (p:=p) a1 b1
           rw[←e12] at hb12
           simp only at hb12
           refine g' 10 O ?_
           refine tJ (fun (jg:Int×Nat×Bool)=>[(0,dP g 0),(2,dI 0),(3,dP g1 0),(4,.v (.int .i32 c12)),(33,dB (!b1&&(decide (nx p a1≠(93:Int))||decide (((lo.length:Nat):Int)=(0:Int))))),(48,dB (decide (nx p a1=(93:Int))||decide (((p.length:Nat):Int)≤((a1:Nat):Int)))),(52,dP g 0),(53,.v (.int .i32 c12)),(54,.v (.int .i32 c12)),(5,.v (.int .i32 jg.1))]) (fun (jg:Int×Nat×Bool)=>[nB g pv rt p jg.2.1 jg.2.2,.bx g1 288 (.agg [dI 3,.v (.int .i32 0),.ov lv,.ov hv,dB nt,dI 0,dI 0,dI 0,dB false]),.sl lv 1 21 (lo.map dR),.sl hv 1 21 (hi.map dR),.sl pv 9 288 (l.map paD)]) (fun (jg:Int×Nat×Bool)=>((c12,jg.1,jg.2.1,jg.2.2)=two7 p a1 b1)) (fun _ hQ13=>?_) ?_
           · skip
             refine g' 1 O ?_
             by_cases h1l:a12+1<p.length
             · skip
               have h1i:(((a12+1:Nat):Int)<((p.length:Nat):Int)):=by omega
               obtain ⟨x1,hx1⟩:=zN p (a12+1) (by omega)
               by_cases hg14:nx p a12=(45:Int)
               · skip
                 refine T.keep [0,2,3,4,5,33,48,52,53,54] O ?_
                 refine tDr 26 [(55,dP g 0,none),(56,.v (.int .i32 (nx p a12)),none),(57,dB true,none),(58,dB true,none),(59,dP g 0,none),(60,dP g 0,none),(61,dP g 3,none),(62,dN a12,none),(63,dN (a12+1),none),(64,dP g 0,none),(65,dP g 0,none),(66,dP g 2,none),(67,.sh 1 (p.map dR),none),(68,dN p.length,none),(69,dB true,none),(70,dB true,none),(71,dB true,none),(72,dP g 0,none),(73,dP g 0,none),(74,dP g 2,none),(75,.sh 1 (p.map dR),none),(76,dP g 0,none),(77,dP g 0,none),(78,dP g 3,none),(79,dN a12,none),(80,dN (a12+1),none)] [nB g pv rt p a12 b12,.bx g1 288 (.agg [dI 3,.v (.int .i32 0),.ov lv,.ov hv,dB nt,dI 0,dI 0,dI 0,dB false]),.sl lv 1 21 (lo.map dR),.sl hv 1 21 (hi.map dR),.sl pv 9 288 (l.map paD)] (Hn:=[nB g pv rt p a12 b12,.bx g1 288 (.agg [dI 3,.v (.int .i32 0),.ov lv,.ov hv,dB nt,dI 0,dI 0,dI 0,dB false]),.sl lv 1 21 (lo.map dR),.sl hv 1 21 (hi.map dR),.sl pv 9 288 (l.map paD)]) mixed O O O O HSub.rfl' O ⟨sa_p O O O (zi O),sa_q O O O (zeg [nB g pv rt p a12 b12] O (.cons (ArgC.boxC (j:=0) O (ArgC.agg (.cons (ArgC.cv Cv.oany) (ga (ga (ga (ga .nil))))))) .nil) (zcQ (j:=0) O zbc) Tryz.call254 (zaF (PatD.mk () rt p a12 b12) (by simp only;omega) (by simp only;omega)) (fun _ _ h=>h.1) O),sa_p O O O (zag O O (decide_eq_true hg14)),sa_p O O O (zi O),zA O O O O O O (zi O).qu,zA O O O O O O (zB O).qu,zA O O O O O O (zm O zbF O).qu,zA O O O O O O (zk O (i:=0) O Tryz.isAgg3 O).qu,zA O O O O O O (zy (c:=((a12+1:Nat):Int)) O O (zn (by omega) (by omega))).qu,zA O O O O O O (zi O).qu,zA O O O O O O (zB O).qu,zA O O O O O O (zm O zbG O).qu,zA O O O O O O (zk O (i:=0) O Tryz.isAgg130 O).qu,zA O O O O O O (z8 (n:=p.length) O Tryz.runUnderlying130 (by simp only[lm,lc,ln])).qu,zA O O O O O O (za5 O O (decide_eq_true h1i)).qu,sa_p O O O (zdt O O),sa_p O O O (zi O),zA O O O O O O (zi O).qu,zA O O O O O O (zB O).qu,zA O O O O O O (zm O zbG O).qu,zA O O O O O O (zk O (i:=0) O Tryz.isAgg130 O).qu,zA O O O O O O (zi O).qu,zA O O O O O O (zB O).qu,zA O O O O O O (zm O zbF O).qu,zA O O O O O O (zk O (i:=0) O Tryz.isAgg3 O).qu,zA O O O O O O (zy (c:=((a12+1:Nat):Int)) O O (zn (by omega) (by omega))).qu,trivial⟩ ?_
                 refine tK O (tG O (zr (k:=a12+1) O O Tryz.runUnderlying130 Tryz.sizeOf21 (by first | rfl | omega) (zI hx1)) (g' 5 O ?_))
                 refine tD O (fun hc15=>?_) (fun hc15=>?_)
                 · skip
                   have hda:zc5 p a12:=by have h:=hc15;unfold zc5;have hx:=nx_x hx1;refine⟨?_,h1l,?_⟩<;>first | (rw[←hx];omega) | omega
                   refine gQ 6 [0] O O (tP O (zy (c:=((a12+1:Nat):Int)) O O (zn (by omega) (by omega))) (gQ 7 [0] O O (tX [0] O O acs (item7_c g pv rt p (a12+1) b12 (by omega) (by omega)) ?_)))
                   rintro _ _ ⟨c16,a16,b16,e16,rfl,rfl⟩
                   have hb16:=item7_b (p:=p) (a12+1) b12
                   rw[←e16] at hb16
                   simp only at hb16
                   refine g' 2 O ?_
                   exact tqe (hQ13 (c16,a16,b16) (two7_y e12 hda e16)) O
                 · skip
                   have hda:¬zc5 p a12:=fun k=>by have h:=hc15;have k1:=k.1;have k2:=k.2.1;have k3:=k.2.2;first | omega | (have hx:=nx_x hx1;rw[←hx] at k3;omega)
                   refine g' 1 O ?_
                   exact tqe (hQ13 (c12,a12,b12) (two7_n e12 hda)) O
               · skip
                 refine T.keep [0,2,3,4,5,33,48,52,53,54] O ?_
                 refine tDr 26 [(55,dP g 0,none),(56,.v (.int .i32 (nx p a12)),none),(57,dB false,none),(58,dB false,none),(59,.v undef,none),(60,.v undef,none),(61,.v undef,none),(62,.v undef,none),(63,.v undef,none),(64,.v undef,none),(65,.v undef,none),(66,.v undef,none),(67,.v undef,none),(68,.v undef,none),(69,.v undef,none),(70,dB false,none),(71,dB false,none),(72,.v undef,none),(73,.v undef,none),(74,.v undef,none),(75,.v undef,none),(76,.v undef,none),(77,.v undef,none),(78,.v undef,none),(79,.v undef,none),(80,.v undef,none)] [nB g pv rt p a12 b12,.bx g1 288 (.agg [dI 3,.v (.int .i32 0),.ov lv,.ov hv,dB nt,dI 0,dI 0,dI 0,dB false]),.sl lv 1 21 (lo.map dR),.sl hv 1 21 (hi.map dR),.sl pv 9 288 (l.map paD)] (Hn:=[nB g pv rt p a12 b12,.bx g1 288 (.agg [dI 3,.v (.int .i32 0),.ov lv,.ov hv,dB nt,dI 0,dI 0,dI 0,dB false]),.sl lv 1 21 (lo.map dR),.sl hv 1 21 (hi.map dR),.sl pv 9 288 (l.map paD)]) mixed O O O O HSub.rfl' O ⟨sa_p O O O (zi O),sa_q O O O (zeg [nB g pv rt p a12 b12] O (.cons (ArgC.boxC (j:=0) O (ArgC.agg (.cons (ArgC.cv Cv.oany) (ga (ga (ga (ga .nil))))))) .nil) (zcQ (j:=0) O zbc) Tryz.call254 (zaF (PatD.mk () rt p a12 b12) (by simp only;omega) (by simp only;omega)) (fun _ _ h=>h.1) O),sa_p O O O (zag O O (decide_eq_false hg14)),sa_p O O O (zi O),sa_s O O O O O O (by decide),sa_s O O O O O O (by decide),sa_s O O O O O O (by decide),sa_s O O O O O O (by decide),sa_s O O O O O O (by decide),sa_s O O O O O O (by decide),sa_s O O O O O O (by decide),sa_s O O O O O O (by decide),sa_s O O O O O O (by decide),sa_s O O O O O O (by decide),sa_s O O O O O O (by decide),sa_p O O O (zdu O O),sa_p O O O (zi O),sa_s O O O O O O (by decide),sa_s O O O O O O (by decide),sa_s O O O O O O (by decide),sa_s O O O O O O (by decide),sa_s O O O O O O (by decide),sa_s O O O O O O (by decide),sa_s O O O O O O (by decide),sa_s O O O O O O (by decide),sa_s O O O O O O (by decide),trivial⟩ ?_
                 refine tK O (g' 6 O ?_)
                 have hda:¬zc5 p a12:=fun k=>by first | exact h1l k.2.1 | (have:=k.1;omega)
                 refine g' 2 O ?_
                 exact tqe (hQ13 (c12,a12,b12) (two7_n e12 hda)) O
             · skip
               have h1i:¬(((a12+1:Nat):Int)<((p.length:Nat):Int)):=by omega
               by_cases hg17:nx p a12=(45:Int)
               · skip
                 refine T.keep [0,2,3,4,5,33,48,52,53,54] O ?_
                 refine tDr 26 [(55,dP g 0,none),(56,.v (.int .i32 (nx p a12)),none),(57,dB true,none),(58,dB true,none),(59,dP g 0,none),(60,dP g 0,none),(61,dP g 3,none),(62,dN a12,none),(63,dN (a12+1),none),(64,dP g 0,none),(65,dP g 0,none),(66,dP g 2,none),(67,.sh 1 (p.map dR),none),(68,dN p.length,none),(69,dB false,none),(70,dB false,none),(71,dB false,none),(72,.v undef,none),(73,.v undef,none),(74,.v undef,none),(75,.v undef,none),(76,.v undef,none),(77,.v undef,none),(78,.v undef,none),(79,.v undef,none),(80,.v undef,none)] [nB g pv rt p a12 b12,.bx g1 288 (.agg [dI 3,.v (.int .i32 0),.ov lv,.ov hv,dB nt,dI 0,dI 0,dI 0,dB false]),.sl lv 1 21 (lo.map dR),.sl hv 1 21 (hi.map dR),.sl pv 9 288 (l.map paD)] (Hn:=[nB g pv rt p a12 b12,.bx g1 288 (.agg [dI 3,.v (.int .i32 0),.ov lv,.ov hv,dB nt,dI 0,dI 0,dI 0,dB false]),.sl lv 1 21 (lo.map dR),.sl hv 1 21 (hi.map dR),.sl pv 9 288 (l.map paD)]) mixed O O O O HSub.rfl' O ⟨sa_p O O O (zi O),sa_q O O O (zeg [nB g pv rt p a12 b12] O (.cons (ArgC.boxC (j:=0) O (ArgC.agg (.cons (ArgC.cv Cv.oany) (ga (ga (ga (ga .nil))))))) .nil) (zcQ (j:=0) O zbc) Tryz.call254 (zaF (PatD.mk () rt p a12 b12) (by simp only;omega) (by simp only;omega)) (fun _ _ h=>h.1) O),sa_p O O O (zag O O (decide_eq_true hg17)),sa_p O O O (zi O),zA O O O O O O (zi O).qu,zA O O O O O O (zB O).qu,zA O O O O O O (zm O zbF O).qu,zA O O O O O O (zk O (i:=0) O Tryz.isAgg3 O).qu,zA O O O O O O (zy (c:=((a12+1:Nat):Int)) O O (zn (by omega) (by omega))).qu,zA O O O O O O (zi O).qu,zA O O O O O O (zB O).qu,zA O O O O O O (zm O zbG O).qu,zA O O O O O O (zk O (i:=0) O Tryz.isAgg130 O).qu,zA O O O O O O (z8 (n:=p.length) O Tryz.runUnderlying130 (by simp only[lm,lc,ln])).qu,zA O O O O O O (za5 O O (decide_eq_false h1i)).qu,sa_p O O O (zdt O O),sa_p O O O (zi O),sa_s O O O O O O (by decide),sa_s O O O O O O (by decide),sa_s O O O O O O (by decide),sa_s O O O O O O (by decide),sa_s O O O O O O (by decide),sa_s O O O O O O (by decide),sa_s O O O O O O (by decide),sa_s O O O O O O (by decide),sa_s O O O O O O (by decide),trivial⟩ ?_
                 refine tK O (g' 6 O ?_)
                 have hda:¬zc5 p a12:=fun k=>by first | exact h1l k.2.1 | (have:=k.1;omega)
                 refine g' 2 O ?_
                 exact tqe (hQ13 (c12,a12,b12) (two7_n e12 hda)) O
               · skip
                 refine T.keep [0,2,3,4,5,33,48,52,53,54] O ?_
                 refine tDr 26 [(55,dP g 0,none),(56,.v (.int .i32 (nx p a12)),none),(57,dB false,none),(58,dB false,none),(59,.v undef,none),(60,.v undef,none),(61,.v undef,none),(62,.v undef,none),(63,.v undef,none),(64,.v undef,none),(65,.v undef,none),(66,.v undef,none),(67,.v undef,none),(68,.v undef,none),(69,.v undef,none),(70,dB false,none),(71,dB false,none),(72,.v undef,none),(73,.v undef,none),(74,.v undef,none),(75,.v undef,none),(76,.v undef,none),(77,.v undef,none),(78,.v undef,none),(79,.v undef,none),(80,.v undef,none)] [nB g pv rt p a12 b12,.bx g1 288 (.agg [dI 3,.v (.int .i32 0),.ov lv,.ov hv,dB nt,dI 0,dI 0,dI 0,dB false]),.sl lv 1 21 (lo.map dR),.sl hv 1 21 (hi.map dR),.sl pv 9 288 (l.map paD)] (Hn:=[nB g pv rt p a12 b12,.bx g1 288 (.agg [dI 3,.v (.int .i32 0),.ov lv,.ov hv,dB nt,dI 0,dI 0,dI 0,dB false]),.sl lv 1 21 (lo.map dR),.sl hv 1 21 (hi.map dR),.sl pv 9 288 (l.map paD)]) mixed O O O O HSub.rfl' O ⟨sa_p O O O (zi O),sa_q O O O (zeg [nB g pv rt p a12 b12] O (.cons (ArgC.boxC (j:=0) O (ArgC.agg (.cons (ArgC.cv Cv.oany) (ga (ga (ga (ga .nil))))))) .nil) (zcQ (j:=0) O zbc) Tryz.call254 (zaF (PatD.mk () rt p a12 b12) (by simp only;omega) (by simp only;omega)) (fun _ _ h=>h.1) O),sa_p O O O (zag O O (decide_eq_false hg17)),sa_p O O O (zi O),sa_s O O O O O O (by decide),sa_s O O O O O O (by decide),sa_s O O O O O O (by decide),sa_s O O O O O O (by decide),sa_s O O O O O O (by decide),sa_s O O O O O O (by decide),sa_s O O O O O O (by decide),sa_s O O O O O O (by decide),sa_s O O O O O O (by decide),sa_s O O O O O O (by decide),sa_s O O O O O O (by decide),sa_p O O O (zdu O O),sa_p O O O (zi O),sa_s O O O O O O (by decide),sa_s O O O O O O (by decide),sa_s O O O O O O (by decide),sa_s O O O O O O (by decide),sa_s O O O O O O (by decide),sa_s O O O O O O (by decide),sa_s O O O O O O (by decide),sa_s O O O O O O (by decide),sa_s O O O O O O (by decide),trivial⟩ ?_
                 refine tK O (g' 6 O ?_)
                 have hda:¬zc5 p a12:=fun k=>by first | exact h1l k.2.1 | (have:=k.1;omega)
                 refine g' 2 O ?_
                 exact tqe (hQ13 (c12,a12,b12) (two7_n e12 hda)) O
           · skip
             rintro ⟨ih,w,wb⟩ htw
             replace htw:(c12,ih,w,wb)=two7 p a1 b1:=htw
             refine T.kk [(0,dP g 0),(2,dI 0),(3,dP g1 0),(4,.v (.int .i32 c12)),(33,dB (!b1&&(decide (nx p a1≠(93:Int))||decide (((lo.length:Nat):Int)=(0:Int))))),(48,dB (decide (nx p a1=(93:Int))||decide (((p.length:Nat):Int)≤((a1:Nat):Int)))),(52,dP g 0),(53,.v (.int .i32 c12)),(54,.v (.int .i32 c12)),(5,.v (.int .i32 ih))] O (T.norm [nB g pv rt p w wb,.bx g1 288 (.agg [dI 3,.v (.int .i32 0),.ov lv,.ov hv,dB nt,dI 0,dI 0,dI 0,dB false]),.sl lv 1 21 (lo.map dR),.sl hv 1 21 (hi.map dR),.sl pv 9 288 (l.map paD)] (by rfl) (g' 2 O ?_))
             have htb:=two7_e htw
             refine gQ 7 [0] O O ?_
             refine tOr 5 3 (c:=decide (ih<c12)) O O O O O O (fun hb18 nx19=>?_) ?_
             · skip
               refine g' 3 O ?_
               exact nx19 _ O O (kx 3 O O)
             refine gQ 5 [0] O O (T.front 3 O (T.front 3 O (T.keep [0,2,3,4,5,33,48,52,53,54,94,95,96,97,98,99,103,104,105] O ?_)))
             refine tDx 11 [(106,.q (dP g1 2)),(107,.q (.ov lv)),(108,.q (.v (.int .i32 c12))),(109,.q (.sh 1 ([c12].map dR))),(110,.f (fun v=>.ov v)),(111,.q (dP g1 3)),(112,.q (.ov hv)),(113,.q (.v (.int .i32 ih))),(114,.q (.sh 1 ([ih].map dR))),(115,.f (fun v=>.ov v)),(116,.q (dP g1 2))] [nB g pv rt p w (wb||decide (ih<c12)),.bx g1 288 (.agg [dI 3,.v (.int .i32 0),.ov lv,.ov hv,dB nt,dI 0,dI 0,dI 0,dB false]),.sl pv 9 288 (l.map paD)] (HFr 4 (fun γ=>.sl (γ 4) 1 21 ((lo++[c12]).map dR)) (.sl lv 1 21 (lo.map dR)) (HFr 9 (fun γ=>.sl (γ 9) 1 21 ((hi++[ih]).map dR)) (.sl hv 1 21 (hi.map dR)) (HFb [nB g pv rt p w (wb||decide (ih<c12)),.bx g1 288 (.agg [dI 3,.v (.int .i32 0),.ov lv,.ov hv,dB nt,dI 0,dI 0,dI 0,dB false]),.sl pv 9 288 (l.map paD)]))) (fun γ=>[.sl (γ 4) 1 21 ((lo++[c12]).map dR),.sl (γ 9) 1 21 ((hi++[ih]).map dR),nB g pv rt p w (wb||decide (ih<c12)),.bx g1 288 (.agg [dI 3,.v (.int .i32 0),.ov lv,.ov hv,dB nt,dI 0,dI 0,dI 0,dB false]),.sl pv 9 288 (l.map paD)]) mixed O O (by kernel_rfl) (hrs (hrs (fun _ _=>HSub.rfl'))) (hr0 rfl (hr0 rfl (fun _ _ _=>rfl))) (hrn rfl (hrn rfl (fun _ _ _=>rfl))) (fun γ=>⟨sx_p rfl rfl rfl (zm rfl fa_288_2 rfl) (hrq rfl (hrq rfl (fun _=>rfl))),sx_p rfl rfl rfl (zk rfl (i:=1) rfl Tryz.isAgg130 rfl) (hrq rfl (hrq rfl (fun _=>rfl))),sx_p rfl rfl rfl (zi rfl) (hrq rfl (hrq rfl (fun _=>rfl))),sx_q rfl rfl rfl (ze [.tmp 108] rfl rfl (.cons (CellD.v rfl) .nil) rfl Tryz.runUnderlying130 Tryz.sizeOf21 Tryz.zeroValue21 rfl rfl rfl rfl) (hrq rfl (hrq rfl (fun _=>rfl))),sx_r0 rfl rfl rfl (fun _ _=>rfl) (fun _=>(zz (f:=dR) (l:=lo) (l':=[c12]) (i:=0) rfl rfl rfl (SrcD.sh) und_130 infz_21 rfl rfl (by unfold maxLen;(try simp only[la,lc,ln,lm,lt',ld,ls,lr]);omega) (by (try simp only[la,lc,ln,lm,lt',ld,ls,lr]);omega)).mono (by rintro _ _ ⟨v,rfl,rfl⟩;exact⟨v,rfl,rfl⟩)),sx_p rfl rfl rfl (zm rfl fa_288_3 rfl) (hrq rfl (hrq rfl (fun _=>rfl))),sx_p rfl rfl rfl (zk rfl (i:=1) rfl Tryz.isAgg130 rfl) (hrq rfl (hrq rfl (fun _=>rfl))),sx_p rfl rfl rfl (zi rfl) (hrq rfl (hrq rfl (fun _=>rfl))),sx_q rfl rfl rfl (ze [.tmp 113] rfl rfl (.cons (CellD.v rfl) .nil) rfl Tryz.runUnderlying130 Tryz.sizeOf21 Tryz.zeroValue21 rfl rfl rfl rfl) (hrq rfl (hrq rfl (fun _=>rfl))),sx_r1 rfl rfl rfl rfl (fun _=>rfl) (fun _ _=>rfl) (fun _=>(zz (f:=dR) (l:=hi) (l':=[ih]) (i:=0) rfl rfl rfl (SrcD.sh) und_130 infz_21 rfl rfl (by unfold maxLen;(try simp only[la,lc,ln,lm,lt',ld,ls,lr]);omega) (by (try simp only[la,lc,ln,lm,lt',ld,ls,lr]);omega)).mono (by rintro _ _ ⟨v,rfl,rfl⟩;exact⟨v,rfl,rfl⟩)),sx_p rfl rfl rfl (zm rfl fa_288_2 rfl) (hrq rfl (hrq rfl (fun _=>rfl))),trivial⟩) (fun γ=>?_)
             refine tK O (gQ 5 [3,3] O O (T.front 4 O (T.front 3 O (T.front 3 O (T.front 3 O (T.front 4 O ?_))))))
             exact tp7 (n+1) w (wb||decide (ih<c12)) (γ 4) (lo++[c12]) (γ 9) (hi++[ih]) (sa O) HSub.rfl' ⟨by omega,by omega,(class7_go hn hst hgo htw).symm.trans hf,(by simp only[la,List.length_singleton];omega),(by simp only[la,List.length_singleton];omega),by omega⟩ (by omega)
     · simp only[bX,bJ] at hc7
       have hff:=hf.symm.trans (class7_stop (by have h:=hc7;rcases h with q | q;exact .inl q;exact .inr ⟨q.1,by omega⟩) hn)
       refine gQ 11 [3] O O (tP O (zy (c:=((a1+1:Nat):Int)) O O (zn (by omega) (by omega))) (gQ 9 [3,0] O O (tX [3,3] O O (ga (.cons (ArgC.agg (.cons (ArgC.cv (Cv.any O)) (.cons (ArgC.cv (Cv.any O)) (.cons (ArgC.cv Cv.oany) (.cons (ArgC.cv Cv.oany) (.cons (ArgC.cv (Cv.any O)) (.cons (ArgC.cv (Cv.any O)) (.cons (ArgC.cv (Cv.any O)) (.cons (ArgC.cv (Cv.any O)) (.cons (ArgC.cv (Cv.any O)) .nil)))))))))) .nil)) (zc7 g pv rt p (a1+1) b1 l (by omega)) ?_)))
       rintro _ _ ⟨i20,pv20,l20,hl20,rfl,rfl⟩
       refine g' 4 O ?_
       exact tR O (HSub.fst 2 O) ⟨_,_,_,_,_,class7_of h0 hff,(by assumption),O,O⟩
end Lp
