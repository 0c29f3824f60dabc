import Derived.Test.YtheccaeefigajaaGreatDoorV38
set_option linter.unusedSimpArgs false
set_option linter.unusedVariables false
set_option maxHeartbeats 4000000
set_option maxRecDepth 100000
namespace Lp
open Go Go.RowKit Go.Proofs
namespace HdYtheccaeefigajaaGreatDoorV39
theorem zb1:∀ w,((#[⟨"Kind",3,0,false, "", "",0⟩,⟨"At",3,1,false, "", "",8⟩,⟨"Text",9,2,false, "", "",16⟩]:Array Field).mapM fun f=>do pure (f.offset,←Go.sizeOf f.type):Sem (Array (Nat×Nat))).run Tryz.prog w=.ok ([(0,1),(1,1),(2,1)]:List (Nat×Nat)).toArray w:=fun _=>by kernel_rfl
end HdYtheccaeefigajaaGreatDoorV39
open HdYtheccaeefigajaaGreatDoorV39
theorem quoted_c (s:ByteArray) (hs:s.size≤1000000):
 CD Tryz.prog 155 [] [.s s] (isR (.tup [TokD.d ((strT (bl8 s)).1),dN ((strT (bl8 s)).2)])):=by
 refine zp Tryz.func155 rfl (N:=43) rfl rfl (fun C=>?_)
 refine jk [0] rfl ?_
 refine JD.bd 0 rfl (fun bd0=>?_)
 have sz0:s.size≤9223372036854775807:=bd0
 refine jT rfl (oE rfl (zC (zv:=(.agg #[(.int .i64 0),(.int .i64 0),(.string ByteArray.empty)])) Tryz.zeroValue135 ⟨rfl,rfl,rfl,trivial⟩ (Cv.vagg (by decide))) ?_)
 rintro _ _ ⟨g1,rfl,rfl⟩
 refine oR 1 rfl (oZ rfl (jT rfl (oR 1 rfl (oZ rfl (jS rfl (jT rfl (oR 1 rfl (oE rfl (zdo rfl Tryz.runUnderlying9) ?_))))))))
 rintro _ _ ⟨g2,rfl,rfl⟩
 refine oZ rfl (jB rfl (jl2 (fun (a_:Nat) (b_:Bool)=>[(0,.s s),(2,dP g1 0),(10,dP g2 0),(4,dB b_)]) (fun a_ b_=>[.it g2 s a_,.bx g1 135 (.agg [dI 0,dI 0,.v (.string ByteArray.empty)])]) (fun a_ b_=>(a_≤s.size)∧(qInv s a_ (decide (a_=0)||b_))) (fun a_ b_=>s.size-a_) 0 false rfl ⟨sk rfl,sk rfl,sk rfl,sc rfl (Cv.rfl'),trivial⟩ HSub.rfl' ⟨Nat.zero_le _,qInv_zero⟩ ?_))
 rintro p b ⟨hp,hq⟩
 refine ja rfl (jn rfl ?_)
 rcases Nat.lt_or_ge p s.size with hlt | hge
 · skip
   have hrune:=zaO hlt
   have hrl:=zcM s p
   have hdw:=zaN s p hlt
   have hdp:=zY s p
   refine jT rfl (oE rfl (zcR (i:=0) rfl rfl hlt) ?_)
   rintro _ _ ⟨rfl,rfl⟩
   refine on rfl (oR 1 rfl (oZ rfl (jS rfl (jCt rfl (zt rfl (zj (jB rfl (jT rfl (oR 4 rfl (oZ rfl (jB rfl (jS rfl (jk [0,2,4,5,6,10,11,12,13,14] rfl ?_)))))))))))))
   refine zR 15 ((decide (((p:Nat):Int)=(0:Int))||b)) [.it g2 s (p+decW s p),.bx g1 135 (.agg [dI 0,dI 0,.v (.string ByteArray.empty)])] (fun _ hQ3=>?_) ?_
   · skip
     by_cases hg4:((p:Nat):Int)=(0:Int)
     · skip
       refine zf rfl (oR 1 rfl (oP rfl (zD rfl rfl (decide_eq_true hg4)) (oR 4 rfl (zq rfl ?_))))
       exact PD.sub ((15,dB (decide (((p:Nat):Int)=(0:Int))||b))::[(0,.s s),(2,dP g1 0),(4,dB b),(5,dN p),(6,.v (.int .i32 ((decR s p:Nat):Int))),(10,dP g2 0),(11,.tup [dB true,dN p,.v (.int .i32 ((decR s p:Nat):Int))]),(12,dB true),(13,dN p),(14,.v (.int .i32 ((decR s p:Nat):Int)))]) ⟨sc rfl (Cv.eq (congrArg (fun b=>D.v (.bool b)) (by first | (simp[hg4];done) | (simp_all;done)))),sk rfl,sk rfl,sk rfl,sk rfl,sk rfl,sk rfl,sk rfl,sk rfl,sk rfl,sk rfl,trivial⟩ hQ3
     · skip
       refine zf rfl (oR 1 rfl (oP rfl (zD rfl rfl (decide_eq_false hg4)) (oR 4 rfl (zq rfl ?_))))
       exact PD.sub ((15,dB (decide (((p:Nat):Int)=(0:Int))||b))::[(0,.s s),(2,dP g1 0),(4,dB b),(5,dN p),(6,.v (.int .i32 ((decR s p:Nat):Int))),(10,dP g2 0),(11,.tup [dB true,dN p,.v (.int .i32 ((decR s p:Nat):Int))]),(12,dB true),(13,dN p),(14,.v (.int .i32 ((decR s p:Nat):Int)))]) ⟨sc rfl (Cv.eq (congrArg (fun b=>D.v (.bool b)) (by first | (simp[hg4];done) | (simp_all;done)))),sk rfl,sk rfl,sk rfl,sk rfl,sk rfl,sk rfl,sk rfl,sk rfl,sk rfl,sk rfl,trivial⟩ hQ3
   · skip
     refine zj ?_
     refine jC rfl (fun hc5=>?_) (fun hc5=>?_)
     · simp only[bA,bB,bC,bD,bE,bF,bG,bH,bI,bJ] at hc5
       refine zf rfl (oR 1 rfl (zq rfl (zB (zB ?_))))
       exact pl2 (p+decW s p) false (sa rfl) HSub.rfl' ⟨by have:=zaN s p hlt;omega,by rw[show (decide (p+decW s p=0)||false)=false by rw[decide_eq_false (by omega)];rfl];exact qInv_skip (by have h0:(decide (p=0)||b)=true:=(by have h:=hc5;simp only[Bool.or_eq_true,decide_eq_true_eq];rcases h with h | h;exact .inl (by omega);exact .inr h);rw[←h0];exact hq) hlt⟩ (by have:=zY s p;omega)
     · simp only[bA,bB,bC,bD,bE,bF,bG,bH,bI,bJ] at hc5
       refine jT rfl (oR 1 rfl (oP rfl (zD rfl rfl rfl) (oR 1 rfl (oZ rfl ?_))))
       refine jD rfl (fun hc6=>?_) (fun hc6=>?_)
       · skip
         refine zf rfl (oR 1 rfl (zq rfl (zB (zB ?_))))
         exact pl2 (p+decW s p) true (sa rfl) HSub.rfl' ⟨by have:=zaN s p hlt;omega,by rw[show (decide (p+decW s p=0)||true)=true by rw[decide_eq_false (by omega)];rfl];exact qInv_esc (by have h0:(decide (p=0)||b)=false:=(by have h:=hc5;simp only[Bool.or_eq_false_iff,decide_eq_false_iff_not];exact⟨by have:=h.1;omega,h.2⟩);rw[←h0];exact hq) hlt (by omega)⟩ (by have:=zY s p;omega)
       · skip
         refine jT rfl (oR 1 rfl (oP rfl (zD rfl rfl rfl) (oR 1 rfl (oZ rfl ?_))))
         refine jD rfl (fun hc7=>?_) (fun hc7=>?_)
         · skip
           have hpp:1≤p:=by have:=hc5.1;omega
           have hfd:=qInv_found (by have h0:(decide (p=0)||b)=false:=(by have h:=hc5;simp only[Bool.or_eq_false_iff,decide_eq_false_iff_not];exact⟨by have:=h.1;omega,h.2⟩);rw[←h0];exact hq) hlt (by omega)
           refine jT rfl (oR 2 rfl (oP rfl (zaz (c:=((p+1:Nat):Int)) rfl rfl (zab (by omega) (by omega))) (oP rfl (zam (a:=0) (c:=p+1) rfl rfl rfl (by first | rfl | (show _=_;omega)) (by first | rfl | (show _=_;omega)) Tryz.runUnderlying9 (by omega) (by omega)) (oW rfl rfl acs Tryz.call178 (Unquote_c (s.extract 0 (p+1)) (by simp only[ByteArray.size_extract];omega) (by simp only[ByteArray.size_extract];omega)) (oR 5 rfl (oZ rfl (jS rfl (jT rfl (oR 1 rfl (oP rfl (zaZ rfl) (oZ rfl ?_)))))))))))
           refine jC rfl (fun hc8=>?_) (fun hc8=>?_)
           · simp only[bA,bB,bC,bD,bE,bF,bG,bH,bI,bJ] at hc8
             refine jT rfl (oP rfl (zJ [] [] (zv:=(.agg #[(.int .i64 0),(.int .i64 0),(.string ByteArray.empty)])) rfl rfl (.nil) (Tryz.runUnderlying135) Tryz.zeroValue135 zb1 ⟨rfl,rfl,rfl,trivial⟩ rfl) (oE rfl (zi (i:=1) (X':=.agg [dI 0,dI 0,.v (.string ByteArray.empty)]) rfl rfl rfl (CellD.agg) Tryz.sizeOf135 rfl rfl rfl) ?_))
             rintro _ _ ⟨rfl,rfl⟩
             refine on rfl (oR 1 rfl (oZ rfl (zn rfl (zk (zo (zo (zal (zo (zk ?_)))))))))
             exact zh Tryz.results155 (.cons (zx (zU (X:=.agg [dI 0,dI 0,.v (.string ByteArray.empty)]) (d:=.agg [dI 0,dI 0,.v (.string ByteArray.empty)]) (i:=1) rfl rfl Tryz.isAgg135 Tryz.sizeOf135 rfl rfl) ((Cv.agg (.cons Cv.rfl' (.cons Cv.rfl' (.cons ((Cv.str (by first | decide | (unfold maxLen;omega)))) .nil)))).trans (Cv.eq (congrArg TokD.d (show (TokD.mk 0 0 ByteArray.empty)=(strT (bl8 s)).1 from(by rw[strT_f hfd hlt (by simpa using hc8)];try rfl)))))) (.cons (zx (zl rfl) (Cv.eq (congrArg dN (by rw[strT_f hfd hlt (by simpa using hc8)];try rfl)))) .nil)) rfl HSub.none ⟨rfl,rfl⟩
           · simp only[bA,bB,bC,bD,bE,bF,bG,bH,bI,bJ] at hc8
             refine zt rfl (zj (jT rfl (oR 1 rfl (oP rfl (zJ [0,2] [.const (.int .i64 3),.tmp 38] (zv:=(.agg #[(.int .i64 0),(.int .i64 0),(.string ByteArray.empty)])) rfl rfl (.cons (CellD.v rfl) (.cons CellD.s .nil)) (Tryz.runUnderlying135) Tryz.zeroValue135 zb1 ⟨rfl,rfl,rfl,trivial⟩ rfl) (oR 1 rfl (oP rfl (zaz (c:=((p+1:Nat):Int)) rfl rfl (zab (by omega) (by omega))) (oE rfl (zi (i:=1) (X':=.agg [dI 3,dI 0,.s (unqT (s.extract 0 (p+1)))]) rfl rfl rfl (CellD.agg) Tryz.sizeOf135 rfl rfl rfl) ?_)))))))
             rintro _ _ ⟨rfl,rfl⟩
             refine on rfl (oR 1 rfl (oZ rfl (zn rfl (zo (zo (zal (zo (zk ?_))))))))
             exact zh Tryz.results155 (.cons (zx (zU (X:=.agg [dI 3,dI 0,.s (unqT (s.extract 0 (p+1)))]) (d:=.agg [dI 3,dI 0,.s (unqT (s.extract 0 (p+1)))]) (i:=1) rfl rfl Tryz.isAgg135 Tryz.sizeOf135 rfl rfl) (Cv.eq (congrArg TokD.d (show (TokD.mk 3 0 (unqT (s.extract 0 (p+1))))=(strT (bl8 s)).1 from(by rw[strT_t hfd hlt (by simpa using hc8)];try rfl))))) (.cons (zx (zl rfl) (Cv.eq (congrArg dN (by rw[strT_t hfd hlt (by simpa using hc8)];try rfl)))) .nil)) rfl HSub.none ⟨rfl,rfl⟩
         · skip
           refine zt rfl (zB (zB ?_))
           exact pl2 (p+decW s p) b (sa rfl) HSub.rfl' ⟨by have:=zaN s p hlt;omega,by rw[show (decide (p+decW s p=0)||b)=false by rw[decide_eq_false (by omega)];simpa using hc5.2];exact qInv_next (by have h0:(decide (p=0)||b)=false:=(by have h:=hc5;simp only[Bool.or_eq_false_iff,decide_eq_false_iff_not];exact⟨by have:=h.1;omega,h.2⟩);rw[←h0];exact hq) hlt (by omega) (by omega)⟩ (by have:=zY s p;omega)
 · skip
   have hrune:=zbb hge
   refine jT rfl (oP rfl (zdj (i:=0) rfl rfl hge) (oR 1 rfl (oZ rfl (jS rfl (jCf rfl (zF rfl (zw (zu (zr (zj (jT rfl (oP rfl (zJ [] [] (zv:=(.agg #[(.int .i64 0),(.int .i64 0),(.string ByteArray.empty)])) rfl rfl (.nil) (Tryz.runUnderlying135) Tryz.zeroValue135 zb1 ⟨rfl,rfl,rfl,trivial⟩ rfl) (oE rfl (zi (i:=1) (X':=.agg [dI 0,dI 0,.v (.string ByteArray.empty)]) rfl rfl rfl (CellD.agg) Tryz.sizeOf135 rfl rfl rfl) ?_)))))))))))))
   rintro _ _ ⟨rfl,rfl⟩
   refine on rfl (oR 1 rfl (oZ rfl (zn rfl ?_)))
   exact zh Tryz.results155 (.cons (zx (zU (X:=.agg [dI 0,dI 0,.v (.string ByteArray.empty)]) (d:=.agg [dI 0,dI 0,.v (.string ByteArray.empty)]) (i:=1) rfl rfl Tryz.isAgg135 Tryz.sizeOf135 rfl rfl) ((Cv.agg (.cons Cv.rfl' (.cons Cv.rfl' (.cons ((Cv.str (by first | decide | (unfold maxLen;omega)))) .nil)))).trans (Cv.eq (congrArg TokD.d (show (TokD.mk 0 0 ByteArray.empty)=(strT (bl8 s)).1 from(by rw[qInv_none hq hge];try rfl)))))) (.cons (zx (zl rfl) (Cv.eq (congrArg dN (by rw[qInv_none hq hge];try rfl)))) .nil)) rfl HSub.none ⟨rfl,rfl⟩
theorem number_c (s:ByteArray) (ev:Value) (hev:EvOk ev) (hs:s.size≤1000000) (hz:0<s.size) (hk:zM ((decR s 0:Nat):Int)=2):
 CD Tryz.prog 154 [HPow,HErr ev] [.s s] (fun r H'=>r=.tup [TokD.d ((numT (bl8 s)).1),dN ((numT (bl8 s)).2)]∧H'=[HPow,HErr ev]):=by
 refine zp Tryz.func154 rfl (N:=60) rfl rfl (fun C=>?_)
 refine jk [0] rfl ?_
 refine JD.bd 0 rfl (fun bd0=>?_)
 have sz0:s.size≤9223372036854775807:=bd0
 have hlt0:=hz
 refine jT rfl (oE rfl (zC (zv:=(.agg #[(.int .i64 0),(.int .i64 0),(.string ByteArray.empty)])) Tryz.zeroValue135 ⟨rfl,rfl,rfl,trivial⟩ (Cv.vagg (by decide))) ?_)
 rintro _ _ ⟨g1,rfl,rfl⟩
 refine oR 1 rfl (oZ rfl (jT rfl (oR 1 rfl (oE rfl (Qu.ef (d:=.sh 1 ([2].map dI)) (zy [.const (.int .i64 2)] rfl rfl (.cons (CellD.v rfl) .nil) rfl Tryz.runUnderlying55 Tryz.sizeOf3 Tryz.zeroValue3 rfl rfl rfl rfl)) ?_))))
 rintro _ _ ⟨rfl,rfl⟩
 refine oW rfl rfl acs Tryz.call108 (zeM s [2]) (oR 1 rfl (oZ rfl (jT rfl (oR 1 rfl (oE rfl (Qu.ef (d:=.sh 1 ([1,2].map dI)) (zy [.const (.int .i64 1),.const (.int .i64 2)] rfl rfl (.cons (CellD.v rfl) (.cons (CellD.v rfl) .nil)) rfl Tryz.runUnderlying55 Tryz.sizeOf3 Tryz.zeroValue3 rfl rfl rfl rfl)) ?_)))))
 rintro _ _ ⟨rfl,rfl⟩
 refine oW rfl rfl acs Tryz.call108 (zeM s [1,2]) (oR 1 rfl (oZ rfl (jS rfl ?_)))
 have hn1:=zb6 (inK [2]) s
 have hn2:=zb6 (inK [1,2]) s
 have hq0:s.extract 0 (runL (inK [2]) (bl8 s))=mkB ((bl8 s).take (runL (inK [2]) (bl8 s))):=zc4 hn1
 have hpos:1≤runL (inK [2]) (bl8 s):=run_digit_pos hz hk
 have hdg:Digs (bl8 (s.extract 0 (runL (inK [2]) (bl8 s)))):=by rw[hq0,zb0];exact run_digits _ _ rfl
 have hsz0:(s.extract 0 (runL (inK [2]) (bl8 s))).size=runL (inK [2]) (bl8 s):=by rw[ByteArray.size_extract];omega
 have hne13:bl8 (s.extract 0 (runL (inK [2]) (bl8 s)))≠[]:=fun e=>by have:=congrArg List.length e;rw[zaq,hsz0] at this;simp only[ln] at this;omega
 refine zf rfl (oR 2 rfl (oP rfl (zam (a:=0) (c:=runL (inK [2]) (bl8 s)) rfl rfl rfl (by first | rfl | (show _=_;omega)) (by first | rfl | (show _=_;omega)) Tryz.runUnderlying9 (by omega) (by omega)) (OpsD.subH (HSub.perm (zc (i:=2) rfl)) (on rfl (oE rfl (zm [HErr ev] [.bx g1 135 (.agg [dI 0,dI 0,.v (.string ByteArray.empty)]),HPow] [] rfl rfl (.cons ArgC.id .nil) zg Tryz.call160 (atoi_c (s.extract 0 (runL (inK [2]) (bl8 s))) ev hev hdg hne13 (by simp only[ByteArray.size_extract];omega)) (.inl rfl)) ?_)))))
 rintro _ _ ⟨_,⟨av,ax,rfl,rfl,hv13,hv0,hv1⟩,rfl⟩
 refine on rfl (oR 5 rfl (oZ rfl (jk [0,2,3,4,5,6,7] rfl (jS rfl (jS rfl ?_)))))
 by_cases h13:(13:Int)<((runL (inK [2]) (bl8 s):Nat):Int)
 · skip
   have hbad:13<nD s∨1000000000000<vD s:=.inl (by show 13<runL (inK [2]) (bl8 s);omega)
   refine zf rfl (oR 1 rfl (oP rfl (zaF rfl rfl (decide_eq_true h13)) (oR 8 rfl (oZ rfl (jk [0,2,3,4,5,6,31] rfl (jCt rfl (jT rfl (oP rfl (zJ [] [] (zv:=(.agg #[(.int .i64 0),(.int .i64 0),(.string ByteArray.empty)])) rfl rfl (.nil) (Tryz.runUnderlying135) Tryz.zeroValue135 zb1 ⟨rfl,rfl,rfl,trivial⟩ rfl) (oE rfl (zi (i:=1) (X':=.agg [dI 0,dI 0,.v (.string ByteArray.empty)]) rfl rfl rfl (CellD.agg) Tryz.sizeOf135 rfl rfl rfl) ?_)))))))))
   rintro _ _ ⟨rfl,rfl⟩
   refine on rfl (oR 1 rfl (oZ rfl (zn rfl (zk (PD.subH (HSub.perm (zc (i:=2) rfl)) (pn rfl ?_))))))
   exact zh Tryz.results154 (.cons (zx (zU (X:=.agg [dI 0,dI 0,.v (.string ByteArray.empty)]) (d:=.agg [dI 0,dI 0,.v (.string ByteArray.empty)]) (i:=2) rfl rfl Tryz.isAgg135 Tryz.sizeOf135 rfl rfl) ((Cv.agg (.cons Cv.rfl' (.cons Cv.rfl' (.cons ((Cv.str (by first | decide | (unfold maxLen;omega)))) .nil)))).trans (Cv.eq (congrArg TokD.d (show (TokD.mk 0 0 ByteArray.empty)=(numT (bl8 s)).1 from(by rw[numT_1 hbad];try rfl)))))) (.cons (zx (zl rfl) (Cv.eq (congrArg dN (by rw[numT_1 hbad];try rfl)))) .nil)) rfl (HSub.fst 2 rfl) ⟨rfl,rfl⟩
 · skip
   obtain ⟨e1,e2⟩:=hv13 (by rw[hsz0];omega)
   subst e1;subst e2
   have hvd:digV (bl8 (s.extract 0 (runL (inK [2]) (bl8 s))))=vD s:=by rw[hq0,zb0]
   have hvl:vD s<10000000000000:=vD_le (run_digits _ _ rfl) (by rw[List.length_take];show min (runL (inK [2]) (bl8 s)) _≤13;omega)
   refine JD.sub [(0,.s s),(2,dP g1 0),(3,dI 0),(4,dN (runL (inK [2]) (bl8 s))),(5,dN (runL (inK [1,2]) (bl8 s))),(6,dN (vD s)),(7,.v .nilIface)] ⟨sk rfl,sk rfl,sk rfl,sk rfl,sk rfl,sc rfl (Cv.eq (congrArg (fun n:Nat=>dI (n:Int)) hvd)),sk rfl,trivial⟩ (jk [0,2,3,4,5,6,7] rfl ?_)
   refine zR 31 (decide ((1000000000000:Int)<(((vD s):Nat):Int))) [HErr ev,.bx g1 135 (.agg [dI 0,dI 0,.v (.string ByteArray.empty)]),HPow] (fun _ hQ2=>?_) ?_
   · skip
     refine zf rfl (oR 1 rfl (oP rfl (zaF rfl rfl (decide_eq_false h13)) (oR 2 rfl (oG rfl (zdx (r:=.bool false) rfl rfl (fun _=>by kernel_rfl)) (oR 3 rfl (oG rfl (zaF rfl rfl rfl) (oR 1 rfl (zq rfl ?_))))))))
     exact PD.sub ((31,dB (decide ((1000000000000:Int)<(((vD s):Nat):Int))))::[(0,.s s),(2,dP g1 0),(3,dI 0),(4,dN (runL (inK [2]) (bl8 s))),(5,dN (runL (inK [1,2]) (bl8 s))),(6,dN (vD s)),(7,.v .nilIface)]) ⟨sc rfl (Cv.eq (congrArg (fun b=>D.v (.bool b)) (by first | (simp[h13];done) | (simp_all;done)))),sk rfl,sk rfl,sk rfl,sk rfl,sk rfl,sk rfl,sk rfl,trivial⟩ hQ2
   · skip
     refine zj ?_
     refine jD rfl (fun hc3=>?_) (fun hc3=>?_)
     · skip
       have hbad:13<nD s∨1000000000000<vD s:=.inr (by have:=hc3;omega)
       refine jT rfl (oP rfl (zJ [] [] (zv:=(.agg #[(.int .i64 0),(.int .i64 0),(.string ByteArray.empty)])) rfl rfl (.nil) (Tryz.runUnderlying135) Tryz.zeroValue135 zb1 ⟨rfl,rfl,rfl,trivial⟩ rfl) (oE rfl (zi (i:=1) (X':=.agg [dI 0,dI 0,.v (.string ByteArray.empty)]) rfl rfl rfl (CellD.agg) Tryz.sizeOf135 rfl rfl rfl) ?_))
       rintro _ _ ⟨rfl,rfl⟩
       refine on rfl (oR 1 rfl (oZ rfl (zn rfl (zk (PD.subH (HSub.perm (zc (i:=2) rfl)) (pn rfl ?_))))))
       exact zh Tryz.results154 (.cons (zx (zU (X:=.agg [dI 0,dI 0,.v (.string ByteArray.empty)]) (d:=.agg [dI 0,dI 0,.v (.string ByteArray.empty)]) (i:=2) rfl rfl Tryz.isAgg135 Tryz.sizeOf135 rfl rfl) ((Cv.agg (.cons Cv.rfl' (.cons Cv.rfl' (.cons ((Cv.str (by first | decide | (unfold maxLen;omega)))) .nil)))).trans (Cv.eq (congrArg TokD.d (show (TokD.mk 0 0 ByteArray.empty)=(numT (bl8 s)).1 from(by rw[numT_1 hbad];try rfl)))))) (.cons (zx (zl rfl) (Cv.eq (congrArg dN (by rw[numT_1 hbad];try rfl)))) .nil)) rfl (HSub.fst 2 rfl) ⟨rfl,rfl⟩
     · skip
       have hgood:¬(13<nD s∨1000000000000<vD s):=fun e=>by rcases e with e | e;(exact h13 (by have e:13<runL (inK [2]) (bl8 s):=e;omega));(have:=hc3;omega)
       refine zt rfl (zj (jS rfl (jT rfl (oR 2 rfl (oP rfl (zD rfl rfl rfl) (oZ rfl ?_))))))
       refine jD rfl (fun hc4=>?_) (fun hc4=>?_)
       · skip
         have hsame:nA s=nD s:=by show runL (inK [1,2]) (bl8 s)=runL (inK [2]) (bl8 s);omega
         refine jT rfl (oR 1 rfl (OpsD.subH (HSub.perm (zc (i:=2) rfl)) (on rfl (oE rfl (zm [HPow] [HErr ev,.bx g1 135 (.agg [dI 0,dI 0,.v (.string ByteArray.empty)])] [] rfl rfl (.cons ArgC.id .nil) zg Tryz.call97 (itoa_c (vD s) (by omega)) (.inl rfl)) ?_))))
         rintro _ _ ⟨_,⟨rfl,rfl⟩,rfl⟩
         refine on rfl (oP rfl (zJ [0,2] [.const (.int .i64 2),.tmp 37] (zv:=(.agg #[(.int .i64 0),(.int .i64 0),(.string ByteArray.empty)])) rfl rfl (.cons (CellD.v rfl) (.cons CellD.s .nil)) (Tryz.runUnderlying135) Tryz.zeroValue135 zb1 ⟨rfl,rfl,rfl,trivial⟩ rfl) (oR 1 rfl (oE rfl (zi (i:=2) (X':=.agg [dI 2,dI 0,.s (digB (vD s))]) rfl rfl rfl (CellD.agg) Tryz.sizeOf135 rfl rfl rfl) ?_)))
         rintro _ _ ⟨rfl,rfl⟩
         refine on rfl (oR 1 rfl (oZ rfl (jk [0,2,3,4,5,6] rfl (zn rfl (zk ?_)))))
         exact zh Tryz.results154 (.cons (zx (zU (X:=.agg [dI 2,dI 0,.s (digB (vD s))]) (d:=.agg [dI 2,dI 0,.s (digB (vD s))]) (i:=2) rfl rfl Tryz.isAgg135 Tryz.sizeOf135 rfl rfl) (Cv.eq (congrArg TokD.d (show (TokD.mk 2 0 (digB (vD s)))=(numT (bl8 s)).1 from(by rw[numT_2 hgood hsame];try rfl))))) (.cons (zx (zl rfl) (Cv.eq (congrArg dN (by rw[numT_2 hgood hsame];try rfl)))) .nil)) rfl (HSub.fst 2 rfl) ⟨rfl,rfl⟩
       · skip
         have hdiff:¬nA s=nD s:=by show ¬runL (inK [1,2]) (bl8 s)=runL (inK [2]) (bl8 s);omega
         have hsc:=secB_cases (s.extract (runL (inK [2]) (bl8 s)) (runL (inK [1,2]) (bl8 s)))
         have hle:=nD_le s
         refine zt rfl (zj (jT rfl (oR 3 rfl (oP rfl (zam (a:=runL (inK [2]) (bl8 s)) (c:=runL (inK [1,2]) (bl8 s)) rfl rfl rfl (by first | rfl | (show _=_;omega)) (by first | rfl | (show _=_;omega)) Tryz.runUnderlying9 (by omega) (by omega)) (oW rfl rfl acs Tryz.call177 (seconds_c (s.extract (runL (inK [2]) (bl8 s)) (runL (inK [1,2]) (bl8 s)))) (oR 1 rfl (oZ rfl (jk [2,3,5,6,8] rfl (jS rfl (jS rfl ?_))))))))))
         obtain ⟨q,hq,hq1⟩:∃ q:Nat,1000000000 / secB (s.extract (runL (inK [2]) (bl8 s)) (runL (inK [1,2]) (bl8 s)))=q∧q≤1000000000:=⟨_,rfl,Nat.div_le_self _ _⟩
         refine jk [2,3,5,6,8] rfl ?_
         refine zR 52 ((decide (((secB (s.extract (runL (inK [2]) (bl8 s)) (runL (inK [1,2]) (bl8 s))):Nat):Int)=(0:Int))||decide (((q:Nat):Int)<(((vD s):Nat):Int)))) [HErr ev,.bx g1 135 (.agg [dI 0,dI 0,.v (.string ByteArray.empty)]),HPow] (fun _ hQ5=>?_) ?_
         · skip
           by_cases hg6:((secB (s.extract (runL (inK [2]) (bl8 s)) (runL (inK [1,2]) (bl8 s))):Nat):Int)=(0:Int)
           · skip
             refine zf rfl (oR 1 rfl (oP rfl (zD rfl rfl (decide_eq_true hg6)) (oR 6 rfl (zq rfl ?_))))
             exact PD.sub ((52,dB (decide (((secB (s.extract (runL (inK [2]) (bl8 s)) (runL (inK [1,2]) (bl8 s))):Nat):Int)=(0:Int))||decide (((q:Nat):Int)<(((vD s):Nat):Int))))::[(2,dP g1 0),(3,dI 0),(5,dN (runL (inK [1,2]) (bl8 s))),(6,dN (vD s)),(8,dN (secB (s.extract (runL (inK [2]) (bl8 s)) (runL (inK [1,2]) (bl8 s)))))]) ⟨sc rfl (Cv.eq (congrArg (fun b=>D.v (.bool b)) (by first | (simp[h13,hc3,hc4,hg6];done) | (simp_all;done)))),sk rfl,sk rfl,sk rfl,sk rfl,sk rfl,trivial⟩ hQ5
           · skip
             refine zf rfl (oR 1 rfl (oP rfl (zD rfl rfl (decide_eq_false hg6)) (oR 3 rfl (oG rfl (p_quo (c:=((q:Nat):Int)) rfl rfl (by omega) (zab (by rw[Int.tdiv_eq_ediv_of_nonneg (by omega),←hq];first | exact Int.natCast_ediv _ _ | exact(Int.natCast_ediv _ _).symm) (by omega))) (oG rfl (zaF rfl rfl rfl) (oR 1 rfl (zq rfl ?_)))))))
             exact PD.sub ((52,dB (decide (((secB (s.extract (runL (inK [2]) (bl8 s)) (runL (inK [1,2]) (bl8 s))):Nat):Int)=(0:Int))||decide (((q:Nat):Int)<(((vD s):Nat):Int))))::[(2,dP g1 0),(3,dI 0),(5,dN (runL (inK [1,2]) (bl8 s))),(6,dN (vD s)),(8,dN (secB (s.extract (runL (inK [2]) (bl8 s)) (runL (inK [1,2]) (bl8 s)))))]) ⟨sc rfl (Cv.eq (congrArg (fun b=>D.v (.bool b)) (by first | (simp[h13,hc3,hc4,hg6];done) | (simp_all;done)))),sk rfl,sk rfl,sk rfl,sk rfl,sk rfl,trivial⟩ hQ5
         · skip
           refine zj ?_
           refine jC rfl (fun hc7=>?_) (fun hc7=>?_)
           · simp only[bA,bB,bC,bD,bE,bF,bG,bH,bI,bJ] at hc7
             have hs3:secB (s.extract (nD s) (nA s))=0∨1000000000 / secB (s.extract (nD s) (nA s))<vD s:=by have h:=hc7;rcases h with h | h;(exact .inl (by show secB (s.extract (runL (inK [2]) (bl8 s)) (runL (inK [1,2]) (bl8 s)))=0;omega));(exact .inr (by show 1000000000 / secB (s.extract (runL (inK [2]) (bl8 s)) (runL (inK [1,2]) (bl8 s)))<_;rw[hq];omega))
             refine jT rfl (oP rfl (zJ [] [] (zv:=(.agg #[(.int .i64 0),(.int .i64 0),(.string ByteArray.empty)])) rfl rfl (.nil) (Tryz.runUnderlying135) Tryz.zeroValue135 zb1 ⟨rfl,rfl,rfl,trivial⟩ rfl) (oE rfl (zi (i:=1) (X':=.agg [dI 0,dI 0,.v (.string ByteArray.empty)]) rfl rfl rfl (CellD.agg) Tryz.sizeOf135 rfl rfl rfl) ?_))
             rintro _ _ ⟨rfl,rfl⟩
             refine on rfl (oR 1 rfl (oZ rfl (zn rfl (zk (PD.subH (HSub.perm (zc (i:=2) rfl)) (pn rfl ?_))))))
             exact zh Tryz.results154 (.cons (zx (zU (X:=.agg [dI 0,dI 0,.v (.string ByteArray.empty)]) (d:=.agg [dI 0,dI 0,.v (.string ByteArray.empty)]) (i:=2) rfl rfl Tryz.isAgg135 Tryz.sizeOf135 rfl rfl) ((Cv.agg (.cons Cv.rfl' (.cons Cv.rfl' (.cons ((Cv.str (by first | decide | (unfold maxLen;omega)))) .nil)))).trans (Cv.eq (congrArg TokD.d (show (TokD.mk 0 0 ByteArray.empty)=(numT (bl8 s)).1 from(by rw[numT_3 hgood hdiff hs3];try rfl)))))) (.cons (zx (zl rfl) (Cv.eq (congrArg dN (by rw[numT_3 hgood hdiff hs3];try rfl)))) .nil)) rfl (HSub.fst 2 rfl) ⟨rfl,rfl⟩
           · simp only[bA,bB,bC,bD,bE,bF,bG,bH,bI,bJ] at hc7
             have hs4:¬(secB (s.extract (nD s) (nA s))=0∨1000000000 / secB (s.extract (nD s) (nA s))<vD s):=fun e=>by have h:=hc7;rcases e with e | e;(have e:secB (s.extract (runL (inK [2]) (bl8 s)) (runL (inK [1,2]) (bl8 s)))=0:=e;omega);(have e:1000000000 / secB (s.extract (runL (inK [2]) (bl8 s)) (runL (inK [1,2]) (bl8 s)))<vD s:=e;rw[hq] at e;omega)
             have hmu:vD s*secB (s.extract (runL (inK [2]) (bl8 s)) (runL (inK [1,2]) (bl8 s)))≤1000000000:=by have h:=hc7;exact(Nat.le_div_iff_mul_le (by omega)).1 (by rw[hq];omega)
             refine zt rfl (zj (jT rfl (oR 2 rfl ?_)))
             obtain ⟨m,hm,hm1⟩:∃ m:Nat,(vD s)*(secB (s.extract (runL (inK [2]) (bl8 s)) (runL (inK [1,2]) (bl8 s))))=m∧m≤1000000000:=⟨_,rfl,hmu⟩
             refine oP rfl (p_mul (c:=((m:Nat):Int)) rfl rfl (zab (by rw[←hm];first | exact Int.natCast_mul _ _ | exact(Int.natCast_mul _ _).symm) (by omega))) (OpsD.subH (HSub.perm (zc (i:=2) rfl)) (on rfl (oE rfl (zm [HPow] [HErr ev,.bx g1 135 (.agg [dI 0,dI 0,.v (.string ByteArray.empty)])] [] rfl rfl (.cons ArgC.id .nil) zg Tryz.call97 (itoa_c m (by omega)) (.inl rfl)) ?_)))
             rintro _ _ ⟨_,⟨rfl,rfl⟩,rfl⟩
             refine on rfl (oP rfl (zJ [0,2] [.const (.int .i64 4),.tmp 57] (zv:=(.agg #[(.int .i64 0),(.int .i64 0),(.string ByteArray.empty)])) rfl rfl (.cons (CellD.v rfl) (.cons CellD.s .nil)) (Tryz.runUnderlying135) Tryz.zeroValue135 zb1 ⟨rfl,rfl,rfl,trivial⟩ rfl) (oR 1 rfl (oE rfl (zi (i:=2) (X':=.agg [dI 4,dI 0,.s (digB m)]) rfl rfl rfl (CellD.agg) Tryz.sizeOf135 rfl rfl rfl) ?_)))
             rintro _ _ ⟨rfl,rfl⟩
             refine on rfl (oR 1 rfl (oZ rfl (jk [2,3] rfl (zn rfl ?_))))
             exact zh Tryz.results154 (.cons (zx (zU (X:=.agg [dI 4,dI 0,.s (digB m)]) (d:=.agg [dI 4,dI 0,.s (digB m)]) (i:=2) rfl rfl Tryz.isAgg135 Tryz.sizeOf135 rfl rfl) (Cv.eq (congrArg TokD.d (show (TokD.mk 4 0 (digB m))=(numT (bl8 s)).1 from(by have e:=numT_4 hgood hdiff hs4;rw[show vD s*secB (s.extract (nD s) (nA s))=m from hm] at e;rw[e];try rfl))))) (.cons (zx (zl rfl) (Cv.eq (congrArg dN (by have e:=numT_4 hgood hdiff hs4;rw[show vD s*secB (s.extract (nD s) (nA s))=m from hm] at e;rw[e];try rfl)))) .nil)) rfl (HSub.fst 2 rfl) ⟨rfl,rfl⟩
end Lp
set_option linter.unusedSimpArgs false
set_option linter.unusedVariables false
set_option maxHeartbeats 4000000
set_option maxRecDepth 100000
namespace Lp
open Go Go.RowKit Go.Proofs
namespace HdYtheccaeefigajaaGreatDoorV40
theorem fa_135_1 (b o:Nat):∀ w,(Instr.fieldAt 135 (.pointer (some ⟨b,o,none⟩)) 1).run Tryz.prog w=.ok (.pointer (some ⟨b,o+1,none⟩)) w:=fun _=>by kernel_rfl
theorem infz_135:∃ i,Tryz.prog.info? 135=some i∧i.zero=some (.agg #[(.int .i64 0),(.int .i64 0),(.string ByteArray.empty)])∧i.size=3∧i.bytes=32:=zbq (by kernel_rfl)
theorem infz_21:∃ i,Tryz.prog.info? 21=some i∧i.zero=some (.int .i32 0)∧i.size=1∧i.bytes=4:=zbq (by kernel_rfl)
theorem und_130:Tryz.prog.underlying 130=some (.slice 21):=by kernel_rfl
theorem und_67:Tryz.prog.underlying 67=some (.slice 135):=by kernel_rfl
end HdYtheccaeefigajaaGreatDoorV40
open HdYtheccaeefigajaaGreatDoorV40
theorem Spell_c (s:ByteArray) (hs:s.size≤1000000000):
 CD Tryz.prog 152 [] [.s s] (zdV 1 21 ((zah s).map dR)):=by
 refine zp Tryz.func152 rfl (N:=16) rfl rfl (fun C=>?_)
 refine jk [0] rfl ?_
 refine JD.bd 0 rfl (fun bd0=>?_)
 have sz0:s.size≤9223372036854775807:=bd0
 refine jT rfl (oR 1 rfl (oZ rfl (jT rfl (oR 1 rfl (oZ rfl (jS rfl (jT rfl (oR 1 rfl (oE rfl (zdo rfl Tryz.runUnderlying9) ?_)))))))))
 rintro _ _ ⟨g1,rfl,rfl⟩
 refine oZ rfl (jB rfl (jl3 (fun (a_:Nat) (b_:Value) (c_:List Int)=>[(2,dZ),(7,dP g1 0),(3,.ov b_)]) (fun a_ b_ c_=>[.it g1 s a_,.sl b_ 1 21 (c_.map dR)]) (fun a_ b_ c_=>(a_≤s.size)∧(c_.length≤a_)∧(zah s=c_++zaW s a_)) (fun a_ b_ c_=>s.size-a_) 0 (.slice none 0 0) [] rfl ⟨sk rfl,sk rfl,sc rfl (Cv.ov rfl),trivial⟩ (HSub.trans (HSub.nil 1 21) (HSub.perm (List.Perm.swap _ _ _))) ⟨Nat.zero_le _,Nat.le_refl _,rfl⟩ ?_))
 rintro p ov l ⟨hp,hn,hf⟩
 refine ja rfl (jn rfl ?_)
 rcases Nat.lt_or_ge p s.size with hlt | hge
 · skip
   have hrune:=zaO hlt
   have hrl:=zcM s p
   have hdw:=zaN s p hlt
   have hdp:=zY s p
   refine jT rfl (oE rfl (zcR (i:=0) rfl rfl hlt) ?_)
   rintro _ _ ⟨rfl,rfl⟩
   refine on rfl (oR 1 rfl (oZ rfl (jS rfl (jCt rfl (zt rfl (zj (jB rfl (jT rfl (oR 2 rfl (oZ rfl (zf rfl (oR 2 rfl (oE rfl (zL [.tmp 12] rfl rfl (.cons (CellD.v rfl) .nil) rfl Tryz.runUnderlying130 Tryz.sizeOf21 Tryz.zeroValue21 rfl rfl rfl rfl) ?_)))))))))))))
   rintro _ _ ⟨g2,rfl,rfl⟩
   refine oE rfl (zP (f:=dR) (l:=l) (l':=[((decR s p:Nat):Int)]) (i:=2) rfl rfl rfl (SrcD.own (j:=0) rfl rfl) und_130 infz_21 rfl rfl (by unfold maxLen;(try simp only[la,lc,ln,lm,lt',ld,ls,lr]);omega) (by (try simp only[la,lc,ln,lm,lt',ld,ls,lr]);omega)) ?_
   rintro _ _ ⟨v3,rfl,rfl⟩
   refine on rfl (oR 1 rfl (zq rfl (zB ?_)))
   exact pl3 (p+decW s p) v3 (l++[((decR s p:Nat):Int)]) (sa rfl) (HSub.lst 1 rfl) ⟨by have:=zaN s p hlt;omega,by rw[List.length_append,List.length_singleton];omega,by rw[hf,hrune,List.append_assoc];rfl⟩ (by have:=zY s p;omega)
 · skip
   have hrune:=zbb hge
   refine jT rfl (oP rfl (zdj (i:=0) rfl rfl hge) (oR 1 rfl (oZ rfl (jS rfl (jCf rfl (zF rfl (zw (zu (zr (zj (jT rfl (oR 2 rfl (oZ rfl (zn rfl (PD.subH (HSub.less (zd5 (i:=1) rfl)) (PD.subH (HSub.turn (h':=.sl ov 1 21 ((zah s).map dR)) rfl (Hp.eq_sl (show List.map dR l=List.map dR (zah s) from congrArg _ (by rw[hf,hrune,List.append_nil])))) ?_))))))))))))))))
   exact zew Tryz.results152 (.cons (zl rfl) .nil) rfl ⟨_,rfl,rfl⟩
theorem first_c (s:ByteArray) (ev:Value) (hev:EvOk ev) (hs:s.size≤1000000) (hz:0<s.size):
 CD Tryz.prog 109 [HPow,HErr ev] [.s s] (fun r H'=>r=.tup [TokD.d ((zz (bl8 s)).1),dN ((zz (bl8 s)).2)]∧H'=[HPow,HErr ev]):=by
 refine zp Tryz.func109 rfl (N:=36) rfl rfl (fun C=>?_)
 refine jk [0] rfl ?_
 refine JD.bd 0 rfl (fun bd0=>?_)
 have sz0:s.size≤9223372036854775807:=bd0
 obtain ⟨y,hy,ey⟩:∃ y,(zah s)[0]?=some y∧y=((decR s 0:Nat):Int):=⟨_,by rw[show zah s=zaW s 0 from rfl,zaO hz];rfl,rfl⟩
 have hyl:=zcM s 0
 refine jT rfl (oE rfl (zC (zv:=(.agg #[(.int .i64 0),(.int .i64 0),(.string ByteArray.empty)])) Tryz.zeroValue135 ⟨rfl,rfl,rfl,trivial⟩ (Cv.vagg (by decide))) ?_)
 rintro _ _ ⟨g1,rfl,rfl⟩
 refine oR 1 rfl (oZ rfl (jS rfl (jT rfl (oR 1 rfl (oE rfl (zm [] _ [] rfl rfl (.cons ArgC.id .nil) zg Tryz.call152 (Spell_c s (by omega)) (.inl rfl)) ?_)))))
 rintro _ _ ⟨_,⟨v2,rfl,rfl⟩,rfl⟩
 refine on rfl (oP rfl (zT (k:=0) (j:=0) rfl rfl rfl Tryz.runUnderlying130 Tryz.sizeOf21 (by first | rfl | omega) (zK hy)) (oP rfl (zaC rfl (i:=0) rfl (zK hy) Tryz.isAgg21 rfl) (oR 1 rfl (oZ rfl (jB rfl (jT rfl (oR 1 rfl (oW rfl rfl acs Tryz.call151 (Kind_c y) (oP rfl (zD rfl rfl rfl) (oR 1 rfl (oZ rfl ?_)))))))))))
 refine jD rfl (fun hc3=>?_) (fun hc3=>?_)
 · skip
   have q1:zM ((decR s 0:Nat):Int)=1:=by rw[←ey];exact hc3
   refine jT rfl (oR 1 rfl (oW rfl rfl acs Tryz.call153 (word_c s (by omega)) (oR 2 rfl (oE rfl (zi (i:=1) (X':=TokD.d ((zbN (bl8 s)).1)) rfl rfl rfl (CellD.agg) Tryz.sizeOf135 rfl rfl rfl) ?_))))
   rintro _ _ ⟨rfl,rfl⟩
   refine on rfl (oR 1 rfl (oZ rfl (jk [0,2,3] rfl (zn rfl (zo (zk (PD.subH (HSub.perm (zc (i:=3) rfl)) (pn rfl (PD.subH (HSub.perm (zc (i:=3) rfl)) (pn rfl ?_))))))))))
   exact zh Tryz.results109 (.cons (zx (zU (X:=TokD.d ((zbN (bl8 s)).1)) (d:=TokD.d ((zbN (bl8 s)).1)) (i:=3) rfl rfl Tryz.isAgg135 Tryz.sizeOf135 rfl rfl) (Cv.eq (congrArg TokD.d (show (zbN (bl8 s)).1=(zz (bl8 s)).1 from(by rw[firstT_1 q1]))))) (.cons (zx (zl rfl) (Cv.eq (congrArg dN (by rw[firstT_1 q1])))) .nil)) rfl (HSub.fst 2 rfl) ⟨rfl,rfl⟩
 · skip
   have q1:¬zM ((decR s 0:Nat):Int)=1:=by rw[←ey];exact hc3
   refine jT rfl (oR 1 rfl (oW rfl rfl acs Tryz.call151 (Kind_c y) (oP rfl (zD rfl rfl rfl) (oR 1 rfl (oZ rfl (jk [0,2,3,4,17] rfl ?_))))))
   refine jD rfl (fun hc4=>?_) (fun hc4=>?_)
   · skip
     have hk2:zM ((decR s 0:Nat):Int)=2:=by rw[←ey];exact hc4
     refine jT rfl (oR 1 rfl (OpsD.subH (HSub.perm (zc (i:=3) rfl)) (on rfl (OpsD.subH (HSub.perm (zc (i:=3) rfl)) (on rfl (oE rfl (zm [HPow,HErr ev] [.sl v2 1 21 ((zah s).map dR),.bx g1 135 (.agg [dI 0,dI 0,.v (.string ByteArray.empty)])] [] rfl rfl (.cons ArgC.id .nil) zg Tryz.call154 (number_c s ev hev (by omega) (by omega) hk2) (.inl rfl)) ?_))))))
     rintro _ _ ⟨_,⟨rfl,rfl⟩,rfl⟩
     refine on rfl (oR 2 rfl (oE rfl (zi (i:=3) (X':=TokD.d ((numT (bl8 s)).1)) rfl rfl rfl (CellD.agg) Tryz.sizeOf135 rfl rfl rfl) ?_))
     rintro _ _ ⟨rfl,rfl⟩
     refine on rfl (oR 1 rfl (oZ rfl (zn rfl (zo (zk ?_)))))
     exact zh Tryz.results109 (.cons (zx (zU (X:=TokD.d ((numT (bl8 s)).1)) (d:=TokD.d ((numT (bl8 s)).1)) (i:=3) rfl rfl Tryz.isAgg135 Tryz.sizeOf135 rfl rfl) (Cv.eq (congrArg TokD.d (show (numT (bl8 s)).1=(zz (bl8 s)).1 from(by rw[firstT_2 q1 hk2]))))) (.cons (zx (zl rfl) (Cv.eq (congrArg dN (by rw[firstT_2 q1 hk2])))) .nil)) rfl (HSub.fst 2 rfl) ⟨rfl,rfl⟩
   · skip
     have q2:¬zM ((decR s 0:Nat):Int)=2:=by rw[←ey];exact hc4
     refine jT rfl (oR 1 rfl (oP rfl (zD rfl rfl rfl) (oR 1 rfl (oZ rfl ?_))))
     refine jD rfl (fun hc5=>?_) (fun hc5=>?_)
     · skip
       have q3:decR s 0=34:=by have:=hc5;omega
       refine jT rfl (oR 1 rfl (oW rfl rfl acs Tryz.call155 (quoted_c s (by omega)) (oR 2 rfl (oE rfl (zi (i:=1) (X':=TokD.d ((strT (bl8 s)).1)) rfl rfl rfl (CellD.agg) Tryz.sizeOf135 rfl rfl rfl) ?_))))
       rintro _ _ ⟨rfl,rfl⟩
       refine on rfl (oR 1 rfl (oZ rfl (jk [0,2,3] rfl (zn rfl (zo (zk (PD.subH (HSub.perm (zc (i:=3) rfl)) (pn rfl (PD.subH (HSub.perm (zc (i:=3) rfl)) (pn rfl ?_))))))))))
       exact zh Tryz.results109 (.cons (zx (zU (X:=TokD.d ((strT (bl8 s)).1)) (d:=TokD.d ((strT (bl8 s)).1)) (i:=3) rfl rfl Tryz.isAgg135 Tryz.sizeOf135 rfl rfl) (Cv.eq (congrArg TokD.d (show (strT (bl8 s)).1=(zz (bl8 s)).1 from(by rw[firstT_3 q1 q2 q3]))))) (.cons (zx (zl rfl) (Cv.eq (congrArg dN (by rw[firstT_3 q1 q2 q3])))) .nil)) rfl (HSub.fst 2 rfl) ⟨rfl,rfl⟩
     · skip
       have q3:¬decR s 0=34:=by have:=hc5;omega
       refine zt rfl (zB (zj (jT rfl (oR 1 rfl (oW rfl rfl acs Tryz.call156 (sign_c s (by omega)) (oR 2 rfl (oE rfl (zi (i:=1) (X':=TokD.d ((zb2 (bl8 s)).1)) rfl rfl rfl (CellD.agg) Tryz.sizeOf135 rfl rfl rfl) ?_)))))))
       rintro _ _ ⟨rfl,rfl⟩
       refine on rfl (oR 1 rfl (oZ rfl (jk [2,3] rfl (zn rfl (PD.subH (HSub.perm (zc (i:=3) rfl)) (pn rfl (PD.subH (HSub.perm (zc (i:=3) rfl)) (pn rfl ?_))))))))
       exact zh Tryz.results109 (.cons (zx (zU (X:=TokD.d ((zb2 (bl8 s)).1)) (d:=TokD.d ((zb2 (bl8 s)).1)) (i:=3) rfl rfl Tryz.isAgg135 Tryz.sizeOf135 rfl rfl) (Cv.eq (congrArg TokD.d (show (zb2 (bl8 s)).1=(zz (bl8 s)).1 from(by rw[firstT_4 q1 q2 q3]))))) (.cons (zx (zl rfl) (Cv.eq (congrArg dN (by rw[firstT_4 q1 q2 q3])))) .nil)) rfl (HSub.fst 2 rfl) ⟨rfl,rfl⟩
theorem Words_c (s:ByteArray) (ev:Value) (hev:EvOk ev):
 CD Tryz.prog 38 [HPow,HErr ev] [.s s] (fun r H'=>∃ v,r=.tup [.ov v,dI (lexE s)]∧H'=[.sl v 3 135 ((lexL s).map TokD.d),HPow,HErr ev]):=by
 refine zp Tryz.func38 rfl (N:=44) rfl rfl (fun C=>?_)
 refine jk [0] rfl ?_
 refine JD.bd 0 rfl (fun bd0=>?_)
 have sz0:s.size≤9223372036854775807:=bd0
 refine jT rfl (oR 2 rfl (oZ rfl (jS rfl (jT rfl (oR 1 rfl (oP rfl (z7 rfl Tryz.runUnderlying9) (oP rfl (zaF rfl rfl rfl) (oZ rfl ?_))))))))
 refine jD rfl (fun hc1=>?_) (fun hc1=>?_)
 · skip
   have hlong:600<s.size:=by have:=hc1;omega
   refine jT rfl (oR 2 rfl (oZ rfl (zn rfl (zk (PD.subH (HSub.nil 3 135) (pn rfl (PD.norm [.sl (.slice none 0 0) 3 135 ((lexL s).map TokD.d),HPow,HErr ev] (by have hw9:([]:List TokD)=lexL s:=(lex_long hlong).1;rw[←hw9]<;>rfl) ?_)))))))
   exact zh Tryz.results38 (.cons (zx (zl rfl) (Cv.ov rfl)) (.cons (zx (zl rfl) (Cv.eq (congrArg dI (show (1:Int)=lexE s from(lex_long hlong).2)))) .nil)) rfl (HSub.fst 3 rfl) ⟨(.slice none 0 0),rfl,rfl⟩
 · skip
   have hshort:¬600<s.size:=by have:=hc1;omega
   have hr0:=zb6 (inK [3]) s
   refine zt rfl (zj (jT rfl (oR 1 rfl (oZ rfl (jS rfl (jT rfl (oR 1 rfl (oE rfl (Qu.ef (d:=.sh 1 ([3].map dI)) (zy [.const (.int .i64 3)] rfl rfl (.cons (CellD.v rfl) .nil) rfl Tryz.runUnderlying55 Tryz.sizeOf3 Tryz.zeroValue3 rfl rfl rfl rfl)) ?_))))))))
   rintro _ _ ⟨rfl,rfl⟩
   refine oW rfl rfl acs Tryz.call108 (zeM s [3]) (oR 1 rfl (oZ rfl (jB rfl (jl3 (fun (a_:Nat) (b_:Value) (c_:List TokD)=>[(0,.s s),(5,dN a_),(4,.ov b_)]) (fun a_ b_ c_=>[.sl b_ 3 135 (c_.map TokD.d),HPow,HErr ev]) (fun a_ b_ c_=>(WInv s a_ c_)∧(a_≤s.size)∧(c_.length≤a_)) (fun a_ b_ c_=>s.size-a_) (runL (inK [3]) (bl8 s)) (.slice none 0 0) [] rfl ⟨sk rfl,sk rfl,sc rfl (Cv.ov rfl),trivial⟩ (HSub.nil 3 135) ⟨WInv.zero,hr0,Nat.zero_le _⟩ ?_))))
   rintro p ov out ⟨hw,hp,ho⟩
   refine ja rfl (jn rfl (jS rfl (jT rfl (oR 2 rfl (oP rfl (z7 rfl Tryz.runUnderlying9) (oP rfl (zN rfl rfl rfl) (oZ rfl ?_)))))))
   refine jD rfl (fun hc2=>?_) (fun hc2=>?_)
   · skip
     have hlt:p<s.size:=by have:=hc2;omega
     have hfr:=first_run_le (s:=s) (p:=p) hp
     refine zt rfl (zj (jS rfl (jB rfl (jT rfl (oR 2 rfl (oP rfl (zam (a:=p) (c:=s.size) rfl rfl rfl (by first | rfl | (show _=_;omega)) (by first | rfl | (show _=_;omega)) Tryz.runUnderlying9 (by omega) (by omega)) (OpsD.subH (HSub.perm (zc (i:=2) rfl)) (on rfl (OpsD.subH (HSub.perm (zc (i:=2) rfl)) (on rfl (oE rfl (zm [HPow,HErr ev] [.sl ov 3 135 (out.map TokD.d)] [] rfl rfl (.cons ArgC.id .nil) zg Tryz.call109 (first_c (s.extract p s.size) ev hev (by simp only[ByteArray.size_extract];omega) (by simp only[ByteArray.size_extract];omega)) (.inl rfl)) ?_)))))))))))
     rintro _ _ ⟨_,⟨rfl,rfl⟩,rfl⟩
     refine on rfl (oR 3 rfl (oE rfl (zC (zv:=(.agg #[(.int .i64 0),(.int .i64 0),(.string ByteArray.empty)])) Tryz.zeroValue135 ⟨rfl,rfl,rfl,trivial⟩ (Cv.vagg (by decide))) ?_))
     rintro _ _ ⟨g3,rfl,rfl⟩
     refine oE rfl (zi (i:=0) (X':=TokD.d ((zz (bl8 (s.extract p s.size))).1)) rfl rfl rfl (CellD.agg) Tryz.sizeOf135 rfl rfl rfl) ?_
     rintro _ _ ⟨rfl,rfl⟩
     refine on rfl (oR 1 rfl (oZ rfl (jS rfl (jT rfl (oR 1 rfl (oP rfl (zD rfl rfl rfl) (oZ rfl ?_)))))))
     refine jD rfl (fun hc4=>?_) (fun hc4=>?_)
     · skip
       have hbad:(zz (bl8 (s.extract p s.size))).2=0:=by have:=hc4;omega
       refine jT rfl (oR 2 rfl (oZ rfl (zn rfl (zk (zo (zk (zal (zo (zk (PD.subH (HSub.nil 3 135) (pn rfl (PD.subH (HSub.perm (zc (i:=3) rfl)) (pn rfl (PD.subH (HSub.perm (zc (i:=3) rfl)) (pn rfl (PD.subH (HSub.perm (zc (i:=2) rfl)) (pn rfl (PD.norm [.sl (.slice none 0 0) 3 135 ((lexL s).map TokD.d),HPow,HErr ev,.bx g3 135 (TokD.d ((zz (bl8 (s.extract p s.size))).1)),.sl ov 3 135 (out.map TokD.d)] (by have hw9:([]:List TokD)=lexL s:=(lex_bad hshort (hw.bad hlt hbad)).1;rw[←hw9]<;>rfl) ?_))))))))))))))))))
       exact zh Tryz.results38 (.cons (zx (zl rfl) (Cv.ov rfl)) (.cons (zx (zl rfl) (Cv.eq (congrArg dI (show (2:Int)=lexE s from(lex_bad hshort (hw.bad hlt hbad)).2)))) .nil)) rfl (HSub.fst 3 rfl) ⟨(.slice none 0 0),rfl,rfl⟩
     · skip
       have hn0:¬(zz (bl8 (s.extract p s.size))).2=0:=by have:=hc4;omega
       have hrs:=zb6 (inK [3]) (s.extract (p+(zz (bl8 (s.extract p s.size))).2) s.size)
       rw[ByteArray.size_extract] at hrs
       refine zt rfl (zj (jT rfl (oR 1 rfl (oP rfl (zd rfl fa_135_1 rfl) (oE rfl (zi (i:=0) (X':=.agg [dI (((zz (bl8 (s.extract p s.size))).1).k),dN p,.s (((zz (bl8 (s.extract p s.size))).1).t)]) rfl rfl rfl (CellD.v rfl) Tryz.sizeOf3 rfl rfl rfl) ?_)))))
       rintro _ _ ⟨rfl,rfl⟩
       refine on rfl (oZ rfl (jT rfl (oR 1 rfl (oP rfl (zH (d:=.agg [dI (((zz (bl8 (s.extract p s.size))).1).k),dN p,.s (((zz (bl8 (s.extract p s.size))).1).t)]) rfl (i:=0) rfl Tryz.isAgg135 Tryz.sizeOf135 rfl rfl) (oE rfl (Qu.ef (d:=.sh 3 ([(TokD.mk (((zz (bl8 (s.extract p s.size))).1).k) ((p:Nat):Int) (((zz (bl8 (s.extract p s.size))).1).t))].map TokD.d)) (zy [.tmp 37] rfl rfl (.cons CellD.agg .nil) rfl Tryz.runUnderlying67 Tryz.sizeOf135 Tryz.zeroValue135 rfl rfl rfl rfl)) ?_)))))
       rintro _ _ ⟨rfl,rfl⟩
       refine oE rfl (zP (f:=TokD.d) (l:=out) (l':=[(TokD.mk (((zz (bl8 (s.extract p s.size))).1).k) ((p:Nat):Int) (((zz (bl8 (s.extract p s.size))).1).t))]) (i:=3) rfl rfl rfl (SrcD.sh) und_67 infz_135 rfl rfl (by unfold maxLen;(try simp only[la,lc,ln,lm,lt',ld,ls,lr]);omega) (by (try simp only[la,lc,ln,lm,lt',ld,ls,lr]);omega)) ?_
       rintro _ _ ⟨v5,rfl,rfl⟩
       refine on rfl (oR 1 rfl (oZ rfl (zf rfl (oR 2 rfl (oP rfl (zaz (c:=((p+((zz (bl8 (s.extract p s.size))).2):Nat):Int)) rfl rfl (zab (by omega) (by omega))) (oR 1 rfl (zq rfl (zB (zj (zf rfl (oR 3 rfl (oP rfl (zam (a:=p+((zz (bl8 (s.extract p s.size))).2)) (c:=s.size) rfl rfl rfl (by first | rfl | (show _=_;omega)) (by first | rfl | (show _=_;omega)) Tryz.runUnderlying9 (by omega) (by omega)) (oE rfl (Qu.ef (d:=.sh 1 ([3].map dI)) (zy [.const (.int .i64 3)] rfl rfl (.cons (CellD.v rfl) .nil) rfl Tryz.runUnderlying55 Tryz.sizeOf3 Tryz.zeroValue3 rfl rfl rfl rfl)) ?_)))))))))))))
       rintro _ _ ⟨rfl,rfl⟩
       refine oW rfl rfl acs Tryz.call108 (zeM (s.extract (p+((zz (bl8 (s.extract p s.size))).2)) s.size) [3]) (oP rfl (zaz (c:=(((p+((zz (bl8 (s.extract p s.size))).2))+(runL (inK [3]) (bl8 (s.extract (p+((zz (bl8 (s.extract p s.size))).2)) s.size))):Nat):Int)) rfl rfl (zab (by omega) (by omega))) (oR 1 rfl (zq rfl (PD.subH (HSub.perm (zc (i:=2) rfl)) (pn rfl (PD.subH (HSub.perm (zc (i:=2) rfl)) (pn rfl (PD.subH (HSub.perm (zc (i:=3) rfl)) (pn rfl ?_)))))))))
       exact pl3 ((p+((zz (bl8 (s.extract p s.size))).2))+(runL (inK [3]) (bl8 (s.extract (p+((zz (bl8 (s.extract p s.size))).2)) s.size)))) v5 (out++[(TokD.mk (((zz (bl8 (s.extract p s.size))).1).k) ((p:Nat):Int) (((zz (bl8 (s.extract p s.size))).1).t))]) (sa rfl) (HSub.fst 3 rfl) ⟨hw.next hlt hn0,by omega,by (try simp only[la,List.length_singleton]);omega⟩ (by omega)
   · skip
     have hge:s.size≤p:=by have:=hc2;omega
     refine zF rfl (zw (zu (zr (zj (jT rfl (oR 3 rfl (oZ rfl (zn rfl (PD.norm [.sl ov 3 135 ((lexL s).map TokD.d),HPow,HErr ev] (by have hw9:(out:List TokD)=lexL s:=(lex_ok hshort (hw.done hge)).1;rw[←hw9]<;>rfl) ?_)))))))))
     exact zh Tryz.results38 (.cons (zl rfl) (.cons (zx (zl rfl) (Cv.eq (congrArg dI (show (0:Int)=lexE s from(lex_ok hshort (hw.done hge)).2)))) .nil)) rfl (HSub.fst 3 rfl) ⟨ov,rfl,rfl⟩
end Lp
set_option linter.unusedVariables false
namespace Lp
open Go
section
variable {s s' s1 s2 s3 s4 s5 z:Rd} {k:Int} {ts:List ByteArray} {t t' a b:ByteArray} {q:Bool} {x:TokD}
theorem pk_0 (h:s.l.length=0):s.pk=zbH:=by unfold Rd.pk;rw[List.length_eq_zero_iff.1 h];rfl
theorem pk_x (h:s.l[0]?=some x):s.pk=x:=by
 unfold Rd.pk
 cases e:s.l with
 | nil=>rw[e] at h;cases h
 | cons y l=>rw[e] at h;injection h
theorem pk_len (hk:k≠0) (h:s.pk.k=k):0<s.l.length:=List.length_pos_iff.2 (pk_ne hk h)
theorem is_k (h:s.is k ts=true):s.pk.k=k:=by unfold Rd.is at h;simp only[Bool.and_eq_true,decide_eq_true_eq] at h;exact h.1
theorem is_ne (hk:k≠0) (h:s.is k ts=true):0<s.l.length:=pk_len hk (is_k h)
theorem take_no (h:s.b=true∨s.is k ts=false):s.take k ts=(ByteArray.empty,false,s):=by unfold Rd.take;rw[if_pos h]
theorem tail_td (l:List TokD):(l.take l.length).drop 1=l.tail:=by rw[List.take_length,List.drop_one]
theorem take_ok (hb:s.b=false) (hi:s.is k ts=true) (hx:s.l[0]?=some x):s.take k ts=(x.t,true,⟨(s.l.take s.l.length).drop 1,s.n,s.b⟩):=by
 unfold Rd.take;rw[if_neg (by rw[hb,hi];simp),pk_x hx,tail_td]
theorem any_no (h:s.b=true∨s.pk.k≠k):s.any k=(ByteArray.empty,⟨s.l,s.n,true⟩):=by unfold Rd.any;rw[if_pos h]
theorem any_ok (hb:s.b=false) (h:s.pk.k=k):s.any k=(s.pk.t,⟨(s.l.take s.l.length).drop 1,s.n,s.b⟩):=by
 unfold Rd.any;rw[if_neg (by rw[hb,h];simp),tail_td]
theorem must_of (e:(t',q,s')=s.take 5 [t]):(⟨s'.l,s'.n,s'.b||!q⟩:Rd)=s.must t:=by unfold Rd.must;rw[←e]
theorem number_of (e:(t,s')=s.any k):(numV t,s')=s.number k:=by unfold Rd.number;rw[←e]
theorem zeh (e:s'=s.node):Stp 1 s s':=by rw[e];exact zcy s
theorem nd_e {c:Int} {p:Nd×Rd} {n:Nd} (e:(n,s')=p) (h:Stp c s p.2):Stp c s s':=by rw[←e] at h;exact h
variable {f:Nat} {o l:List ByteArray}
theorem names_bad (hb:z.b=true):zbY (f+1) o z=(o,z):=by unfold zbY;rw[if_pos hb]
theorem names_go (hb:z.b=false) (e1:(t,s1)=z.any 1) (e2:(t',q,s2)=s1.take 5 [za0]) (hq:q=true):zbY (f+1) o z=zbY f (o++[t]) s2:=by
 conv=>lhs;unfold zbY
 rw[if_neg (by rw[hb];simp),←e1]
 simp only
 rw[←e2,if_pos hq]
theorem names_end (hb:z.b=false) (e1:(t,s1)=z.any 1) (e2:(t',q,s2)=s1.take 5 [za0]) (hq:¬q=true):zbY (f+1) o z=(o++[t],s2):=by
 conv=>lhs;unfold zbY
 rw[if_neg (by rw[hb];simp),←e1]
 simp only
 rw[←e2,if_neg hq]
theorem names_0 (e1:s1=s.must zag) (hi:s1.is 5 [zaJ]=true) (e2:s2=s1.must zaJ):([],s2)=s.names:=by
 unfold Rd.names;rw[←e1,if_pos hi,e2]
theorem names_1 (e1:s1=s.must zag) (hi:¬s1.is 5 [zaJ]=true) (hf:zbY (s1.l.length+1) [] s1=(l,s2)) (e2:s3=s2.must zaJ):(l,s3)=s.names:=by
 unfold Rd.names;rw[←e1,if_neg hi,hf,e2]
theorem mode_0 (e:(t,q,s1)=s.take 1 [a,b]) (hq:q=false):(0,[],s1)=s.mode a b:=by unfold Rd.mode;rw[←e,if_pos hq]
theorem mode_1 (e:(t,q,s1)=s.take 1 [a,b]) (hq:¬q=false) (ht:t=a) (e2:(l,s2)=s1.names):(1,l,s2)=s.mode a b:=by unfold Rd.mode;rw[←e,if_neg hq,if_pos ht,e2]
theorem mode_2 (e:(t,q,s1)=s.take 1 [a,b]) (hq:¬q=false) (ht:¬t=a) (e2:(l,s2)=s1.names):(2,l,s2)=s.mode a b:=by unfold Rd.mode;rw[←e,if_neg hq,if_neg ht,e2]
variable {part:Rd→Nd×Rd} {n p:Nd} {m:Int} {sg:List ByteArray}
theorem level_stop (e:(t,q,s1)=z.take 5 sg) (hq:q=false):zbl part sg (f+1) n z=(n,s1):=by
 conv=>lhs;unfold zbl
 rw[←e,if_pos hq]
theorem level_go (e:(t,q,s1)=z.take 5 sg) (hq:¬q=false) (e2:(m,l,s2)=s1.mode tOn zaE) (e3:(p,s3)=part s2) (e4:s4=s3.node):zbl part sg (f+1) n z=zbl part sg f (.mk tBin t 0 m l [] [n,p]) s4:=by
 conv=>lhs;unfold zbl
 rw[←e,if_neg hq]
 simp only
 rw[←e2]
 simp only
 rw[←e3,e4]
theorem level_of (e:(n,s1)=part s):zbl part sg (s1.l.length+1) n s1=s.level part sg:=by unfold Rd.level;rw[←e]
variable {om:List MatD} {c v:ByteArray}
theorem braces_bad (hb:z.b=true):za6 (f+1) om z=(om,z):=by unfold za6;rw[if_pos hb]
theorem braces_go (hb:z.b=false) (e1:(t,s1)=z.any 1) (e2:(c,q,s2)=s1.take 5 [tEq,tNe,zbe,zao]) (e3:s3=⟨s2.l,s2.n,s2.b||!q⟩) (e4:(v,s4)=s3.any 3) {q':Bool} (e5:(t',q',s5)=s4.take 5 [za0]) (hq:q'=true):
 za6 (f+1) om z=za6 f (om++[⟨t,opM c,v⟩]) s5:=by
 conv=>lhs;unfold za6
 rw[if_neg (by rw[hb];simp),←e1]
 simp only
 rw[←e2]
 simp only
 rw[←e3,←e4]
 simp only
 rw[←e5,if_pos hq]
theorem braces_end (hb:z.b=false) (e1:(t,s1)=z.any 1) (e2:(c,q,s2)=s1.take 5 [tEq,tNe,zbe,zao]) (e3:s3=⟨s2.l,s2.n,s2.b||!q⟩) (e4:(v,s4)=s3.any 3) {q':Bool} (e5:(t',q',s5)=s4.take 5 [za0]) (hq:¬q'=true):
 za6 (f+1) om z=(om++[⟨t,opM c,v⟩],s5):=by
 conv=>lhs;unfold za6
 rw[if_neg (by rw[hb];simp),←e1]
 simp only
 rw[←e2]
 simp only
 rw[←e3,←e4]
 simp only
 rw[←e5,if_neg hq]
variable (rm:List MatD→Bool)
theorem braces_0 (e1:s1=s.must zcF) (hi:s1.is 5 [zcs]=true) (e2:s2=s1.must zcs):([],s2)=s.braces rm:=by
 unfold Rd.braces;rw[←e1,if_pos hi,e2]
theorem braces_1 (e1:s1=s.must zcF) (hi:¬s1.is 5 [zcs]=true) (hf:za6 (s1.l.length+1) [] s1=(om,s2)) (e2:s3=s2.must zcs):(om,(⟨s3.l,s3.n,s3.b||!rm om⟩:Rd))=s.braces rm:=by
 unfold Rd.braces;rw[←e1,if_neg hi,hf,e2]
theorem braces_e {ms:List MatD} (e:(ms,s')=s.braces rm):Stp 0 s s':=by have h:=braces_stp rm s;rw[←e] at h;exact h
theorem selName_1 (h:s.pk.k=1∧zd9 s.pk.t=false) (e:(t,s1)=s.any 1):(t,s1)=s.selName:=by unfold Rd.selName;rw[if_pos h,e]
theorem selName_0 (h:¬(s.pk.k=1∧zd9 s.pk.t=false)):(ByteArray.empty,s)=s.selName:=by unfold Rd.selName;rw[if_neg h]
theorem selMs_1 (h:s.is 5 [zcF]=true) {ms:List MatD} (e:(ms,s1)=s.braces rm):(ms,s1)=s.selMs rm t:=by unfold Rd.selMs;rw[if_pos h,e]
theorem selMs_0 (h:¬s.is 5 [zcF]=true):([],(⟨s.l,s.n,s.b||decide (t=ByteArray.empty)⟩:Rd))=s.selMs rm t:=by unfold Rd.selMs;rw[if_neg h]
theorem selWin_1 (e:(t,q,s1)=s.take 5 [tSq]) (hq:q=true) {w:Int} (e2:(w,s2)=s1.number 4) (e3:s3=s2.must tSqE):(w,s3)=s.selWin:=by unfold Rd.selWin;rw[←e,if_pos hq,←e2,e3]
theorem selWin_0 (e:(t,q,s1)=s.take 5 [tSq]) (hq:¬q=true):(0,s1)=s.selWin:=by unfold Rd.selWin;rw[←e,if_neg hq]
theorem selector_of {ms:List MatD} {w:Int} (e1:(t,s1)=s.selName) (e2:(ms,s2)=s1.selMs rm t) (e3:(w,s3)=s2.selWin) (e4:s4=s3.node):(Nd.mk nSel t w 0 [] ms [],s4)=s.selector rm:=by
 unfold Rd.selector
 simp only
 rw[←e1]
 simp only
 rw[←e2]
 simp only
 rw[←e3,e4]
variable {ex:Rd→Nd×Rd}
theorem aggr_1 {s6 s7:Rd} {w:Int} (e1:(t,s1)=s.any 1) (e2:(m,l,s2)=s1.mode tBy zau) (e3:s3=s2.must zag) (hn:zbk t=true) (e4:(w,s4)=s3.number 2) (e5:s5=s4.must za0) (e6:(n,s6)=ex s5) {s8:Rd} (e7:s7=s6.must zaJ) (e8:s8=s7.node):
 (Nd.mk tAgg t w m l [] [n],s8)=s.aggr ex:=by
 unfold Rd.aggr
 simp only
 rw[←e1]
 simp only
 rw[←e2]
 simp only
 rw[if_pos hn,if_pos hn,←e3,←e4]
 simp only
 rw[←e5,←e6,e8,e7]
theorem aggr_0 {s6 s7:Rd} (e1:(t,s1)=s.any 1) (e2:(m,l,s2)=s1.mode tBy zau) (e3:s3=s2.must zag) (hn:¬zbk t=true) (e6:(n,s6)=ex s3) {s8:Rd} (e7:s7=s6.must zaJ) (e8:s8=s7.node):
 (Nd.mk tAgg t 0 m l [] [n],s8)=s.aggr ex:=by
 unfold Rd.aggr
 simp only
 rw[←e1]
 simp only
 rw[←e2]
 simp only
 rw[if_neg hn,if_neg hn,←e3]
 simp only
 rw[←e6,e8,e7]
theorem prim_bad (hb:s.b=true):(noNd,s)=s.prim rm ex:=by unfold Rd.prim;rw[if_pos hb]
theorem prim_num (hb:¬s.b=true) (hk:s.pk.k=2) {w:Int} (e:(w,s1)=s.number 2) (e2:s2=s1.node):(Nd.mk tNum ByteArray.empty w 0 [] [] [],s2)=s.prim rm ex:=by
 unfold Rd.prim;rw[if_neg hb,if_pos hk,←e,e2]
theorem prim_brk (hb:¬s.b=true) (hk:¬s.pk.k=2) (hi:s.is 5 [zag]=true) (e1:s1=s.must zag) (e2:(n,s2)=ex s1) (e3:s3=s2.must zaJ):(n,s3)=s.prim rm ex:=by
 unfold Rd.prim;rw[if_neg hb,if_neg hk,if_pos hi,←e1,←e2,e3]
theorem prim_agg (hb:¬s.b=true) (hk:¬s.pk.k=2) (hi:¬s.is 5 [zag]=true) (ha:s.pk.k=1∧hasN aggN s.pk.t=true) (e:(n,s1)=s.aggr ex):(n,s1)=s.prim rm ex:=by
 unfold Rd.prim;rw[if_neg hb,if_neg hk,if_neg hi,if_pos ha,e]
theorem prim_fn (hb:¬s.b=true) (hk:¬s.pk.k=2) (hi:¬s.is 5 [zag]=true) (ha:¬(s.pk.k=1∧hasN aggN s.pk.t=true)) (hf:s.pk.k=1∧hasN fnN s.pk.t=true) (e1:(t,s1)=s.any 1) (e2:s2=s1.must zag) (e3:(n,s3)=ex s2) (e4:s4=s3.node) (e5:s5=s4.must zaJ):
 (Nd.mk tFn t 0 0 [] [] [n],s5)=s.prim rm ex:=by
 unfold Rd.prim;rw[if_neg hb,if_neg hk,if_neg hi,if_neg ha,if_pos hf]
 simp only
 rw[←e1]
 simp only
 rw[←e2,←e3,e5,e4]
theorem prim_sel (hb:¬s.b=true) (hk:¬s.pk.k=2) (hi:¬s.is 5 [zag]=true) (ha:¬(s.pk.k=1∧hasN aggN s.pk.t=true)) (hf:¬(s.pk.k=1∧hasN fnN s.pk.t=true)) (e:(n,s1)=s.selector rm):(n,s1)=s.prim rm ex:=by
 unfold Rd.prim;rw[if_neg hb,if_neg hk,if_neg hi,if_neg ha,if_neg hf,e]
theorem unary_1 (e:(t,q,s1)=s.take 5 [zco]) (hq:q=true) (e2:(n,s2)=za7 rm ex f s1) (e3:s3=s2.node):(Nd.mk tNeg ByteArray.empty 0 0 [] [] [n],s3)=za7 rm ex (f+1) s:=by
 unfold za7;rw[←e,if_pos hq]
 simp only
 rw[←e2,e3]
theorem unary_0 (e:(t,q,s1)=s.take 5 [zco]) (hq:¬q=true) (e2:(n,s2)=s1.prim rm ex):(n,s2)=za7 rm ex (f+1) s:=by
 unfold za7;rw[←e,if_neg hq,e2]
theorem bound_0 (e:(t,q,s1)=s.take 1 [a]) (hq:q=false):(-1,s1)=s.bound a:=by unfold Rd.bound;rw[←e,if_pos hq]
theorem bound_1 (e:(t,q,s1)=s.take 1 [a]) (hq:¬q=false) {w:Int} (e2:(w,s2)=s1.number 2):(w,(⟨s2.l,s2.n,s2.b||decide (2000<w)⟩:Rd))=s.bound a:=by unfold Rd.bound;rw[←e,if_neg hq,←e2]
theorem bound_e {w:Int} (e:(w,s')=s.bound a):Stp 0 s s':=by
 have h:s'=(s.bound a).2:=congrArg Prod.snd e
 rw[h];unfold Rd.bound;split
 · exact z8 s 1 _
 · exact(((z8 s 1 [a]).trans (za3 _ 2)).le (by omega)).bad _
theorem order_0 (e:(t,q,s1)=s.take 1 [zcW]) (hq:¬q=true):(0,s1)=s.order:=by
 unfold Rd.order;simp only;rw[←e,if_pos (by simpa using hq)]
theorem order_2 (e:(t,q,s1)=s.take 1 [zcW]) (hq:q=true) {q':Bool} (e2:(t',q',s2)=s1.take 1 [zeL]) (hq':q'=true):(2,s2)=s.order:=by
 unfold Rd.order;simp only;rw[←e,if_neg (by simp[hq])];simp only;rw[←e2,if_pos hq']
theorem order_1 (e:(t,q,s1)=s.take 1 [zcW]) (hq:q=true) {q':Bool} (e2:(t',q',s2)=s1.take 1 [zeL]) (hq':¬q'=true) (e3:(c,s3)=s2.any 1):(1,(⟨s3.l,s3.n,s3.b||decide (c≠tAsc)⟩:Rd))=s.order:=by
 unfold Rd.order;simp only;rw[←e,if_neg (by simp[hq])];simp only;rw[←e2,if_neg hq',←e3]
end
end Lp
