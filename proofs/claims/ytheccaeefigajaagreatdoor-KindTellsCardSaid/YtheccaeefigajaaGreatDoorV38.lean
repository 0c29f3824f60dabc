import Derived.Laws.BytesArg
import Derived.Test.YtheccaeefigajaaGreatDoorDN
set_option linter.unusedSimpArgs false
set_option linter.unusedVariables false
set_option maxHeartbeats 4000000
set_option maxRecDepth 100000
namespace Lp
open Go Go.RowKit Go.Proofs
namespace HdYtheccaeefigajaaGreatDoorV36
theorem zb1:∀ w,((#[⟨"Kind",3,0,false, "", "",0⟩,⟨"At",3,1,false, "", "",8⟩,⟨"Text",9,2,false, "", "",16⟩]:Array Field).mapM fun f=>do pure (f.offset,←Go.sizeOf f.type):Sem (Array (Nat×Nat))).run Tryz.prog w=.ok ([(0,1),(1,1),(2,1)]:List (Nat×Nat)).toArray w:=fun _=>by kernel_rfl
end HdYtheccaeefigajaaGreatDoorV36
open HdYtheccaeefigajaaGreatDoorV36
theorem indexI_c (ns:List Int) (n:Int) :
 CD Tryz.prog 175 [] [.sh 1 (ns.map dI),dI n] (isR (dI (idxI n 0 ns))):=by
 refine zp Tryz.func175 J (N:=19) J J (fun C=>?_)
 refine jk [0,1] J ?_
 refine JD.bd 0 J (fun bd0=>?_)
 have nl0:=zbF bd0
 refine jT J (oR 1 J (oZ J (jS J (jT J (oR 1 J (oP J (zbf (n:=ns.length) J Tryz.runUnderlying55 (by simp only[lm,lc,ln])) (oR 1 rfl (oZ rfl (jB rfl (jl1 (fun (a_:Nat)=>[(0,.sh 1 (ns.map dI)),(1,dI n),(7,dN ns.length),(8,dN a_)]) (fun a_=>[]) (fun a_=>(idxI n 0 ns=idxI n a_ (ns.drop a_))) (fun a_=>ns.length-a_) 0 rfl (sa rfl) HSub.rfl' rfl ?_))))))))))
 rintro k hf
 refine ja J (jn J (jT J (oP J (zN J J J) (oZ J (jS J ?_)))))
 refine jD J (fun hc1=>?_) (fun hc1=>?_)
 · skip
   refine zt J (zj (jS J (jB J (jT J (oR 2 J (oZ J (jT J (oR 3 J ?_))))))))
   obtain ⟨x1,hx1⟩:=zW ns k (by omega)
   refine oP J (zI (k:=k) J J Tryz.runUnderlying55 Tryz.sizeOf3 (by first | rfl | omega) (zK hx1)) (oP rfl (zar rfl Tryz.isAgg3 rfl) (oP rfl (zD rfl rfl rfl) (oZ rfl ?_)))
   refine jD J (fun hc2=>?_) (fun hc2=>?_)
   · skip
     refine jT J (oR 2 J (oZ J (zn J (zo (zk (zal (zo (zk ?_))))))))
     exact zh Tryz.results175 (.cons (zx (zl J) (Cv.eq (congrArg (fun n=>D.v (.int .i64 n)) (by exact idxI_at hx1 hf hc2)))) .nil) rfl HSub.none ⟨rfl,rfl⟩
   · skip
     refine zt J (zB (zj (zf J (oP J (zaz (c:=((k+1:Nat):Int)) J J (zab (by omega) (by omega))) (oR 1 rfl (zq rfl ?_))))))
     exact pl1 (k+1) (sa J) HSub.rfl' (idxI_next hx1 hf hc2) (by omega)
 · skip
   refine zF J (zw (zu (zr (zj (jT J (oR 1 J (oZ J (zn J ?_))))))))
   exact zh Tryz.results175 (.cons (zx (zl J) (Cv.eq (congrArg (fun n=>D.v (.int .i64 n)) (by exact idxI_end (by omega) hf)))) .nil) rfl HSub.none ⟨rfl,rfl⟩
theorem containsI_c (ns:List Int) (n:Int) :
 CD Tryz.prog 150 [] [.sh 1 (ns.map dI),dI n] (isR (dB (hasI ns n))):=by
 refine zp Tryz.func150 J (N:=9) J J (fun C=>?_)
 refine jk [0,1] J ?_
 refine JD.bd 0 J (fun bd0=>?_)
 have nl0:=zbF bd0
 refine jT J (oR 1 J (oZ J (jT J (oR 2 J (oW J J acs Tryz.call175 (indexI_c ns n) (oP J (zaw J J J) (oR 1 J (oZ J (zn J ?_)))))))))
 exact zh Tryz.results150 (.cons (zx (zl J) (Cv.eq (congrArg (fun b=>D.v (.bool b)) (by exact idxI_has n ns 0)))) .nil) rfl HSub.none ⟨rfl,rfl⟩
theorem indexS_c (ns:List ByteArray) (n:ByteArray) :
 CD Tryz.prog 117 [] [.sh 1 (ns.map D.s),.s n] (isR (dI (idxN n 0 ns))):=by
 refine zp Tryz.func117 J (N:=19) J J (fun C=>?_)
 refine jk [0,1] J ?_
 refine JD.bd 0 J (fun bd0=>?_)
 have nl0:=zbF bd0
 refine JD.bd 1 J (fun bd1=>?_)
 have sz1:n.size≤9223372036854775807:=bd1
 refine jT J (oR 1 J (oZ J (jS J (jT J (oR 1 J (oP J (zbf (n:=ns.length) J Tryz.runUnderlying23 (by simp only[lm,lc,ln])) (oR 1 rfl (oZ rfl (jB rfl (jl1 (fun (a_:Nat)=>[(0,.sh 1 (ns.map D.s)),(1,.s n),(7,dN ns.length),(8,dN a_)]) (fun a_=>[]) (fun a_=>(idxN n 0 ns=idxN n a_ (ns.drop a_))) (fun a_=>ns.length-a_) 0 rfl (sa rfl) HSub.rfl' rfl ?_))))))))))
 rintro k hf
 refine ja J (jn J (jT J (oP J (zN J J J) (oZ J (jS J ?_)))))
 refine jD J (fun hc1=>?_) (fun hc1=>?_)
 · skip
   refine zt J (zj (jS J (jB J (jT J (oR 2 J (oZ J (jT J (oR 3 J ?_))))))))
   obtain ⟨x1,hx1⟩:=zW ns k (by omega)
   refine oP J (zI (k:=k) J J Tryz.runUnderlying23 Tryz.sizeOf9 (by first | rfl | omega) (zK hx1)) (oP rfl (zar rfl Tryz.isAgg9 rfl) (oP rfl (zQ rfl rfl rfl) (oZ rfl ?_)))
   refine jD J (fun hc2=>?_) (fun hc2=>?_)
   · skip
     refine jT J (oR 2 J (oZ J (zn J (zo (zk (zal (zo (zk ?_))))))))
     exact zh Tryz.results117 (.cons (zx (zl J) (Cv.eq (congrArg (fun n=>D.v (.int .i64 n)) (by exact idxN_at hx1 hf hc2)))) .nil) rfl HSub.none ⟨rfl,rfl⟩
   · skip
     refine zt J (zB (zj (zf J (oP J (zaz (c:=((k+1:Nat):Int)) J J (zab (by omega) (by omega))) (oR 1 rfl (zq rfl ?_))))))
     exact pl1 (k+1) (sa J) HSub.rfl' (idxN_next hx1 hf hc2) (by omega)
 · skip
   refine zF J (zw (zu (zr (zj (jT J (oR 1 J (oZ J (zn J ?_))))))))
   exact zh Tryz.results117 (.cons (zx (zl J) (Cv.eq (congrArg (fun n=>D.v (.int .i64 n)) (by exact idxN_end (by omega) hf)))) .nil) rfl HSub.none ⟨rfl,rfl⟩
theorem containsS_c (ns:List ByteArray) (n:ByteArray) :
 CD Tryz.prog 46 [] [.sh 1 (ns.map D.s),.s n] (isR (dB (hasN ns n))):=by
 refine zp Tryz.func46 J (N:=9) J J (fun C=>?_)
 refine jk [0,1] J ?_
 refine JD.bd 0 J (fun bd0=>?_)
 have nl0:=zbF bd0
 refine JD.bd 1 J (fun bd1=>?_)
 have sz1:n.size≤9223372036854775807:=bd1
 refine jT J (oR 1 J (oZ J (jT J (oR 2 J (oW J J acs Tryz.call117 (indexS_c ns n) (oP J (zaw J J J) (oR 1 J (oZ J (zn J ?_)))))))))
 exact zh Tryz.results46 (.cons (zx (zl J) (Cv.eq (congrArg (fun b=>D.v (.bool b)) (by exact idxN_has n ns 0)))) .nil) rfl HSub.none ⟨rfl,rfl⟩
theorem zeM (s:ByteArray) (ks:List Int) :
 CD Tryz.prog 108 [] [.s s,.sh 1 (ks.map dI)] (isR (dN (runL (inK ks) (bl8 s)))):=by
 refine zp Tryz.func108 J (N:=21) J J (fun C=>?_)
 refine jk [0,1] J ?_
 refine JD.bd 0 J (fun bd0=>?_)
 have sz0:s.size≤9223372036854775807:=bd0
 refine JD.bd 1 J (fun bd1=>?_)
 have nl1:=zbF bd1
 refine jT J (oR 1 J (oZ J (jS J (jT J (oR 1 J (oE J (zdo J Tryz.runUnderlying9) ?_))))))
 rintro _ _ ⟨g1,rfl,rfl⟩
 refine oZ J (jB J (jl1 (fun (a_:Nat)=>[(0,.s s),(1,.sh 1 (ks.map dI)),(8,dP g1 0)]) (fun a_=>[.it g1 s a_]) (fun a_=>(a_≤s.size)∧(runL (inK ks) (bl8 s)=a_+runL (inK ks) (bts s a_))) (fun a_=>s.size-a_) 0 J (sa J) HSub.rfl' ⟨Nat.zero_le _,run_start⟩ ?_))
 rintro p ⟨hp,hf⟩
 refine ja J (jn J ?_)
 rcases Nat.lt_or_ge p s.size with hlt | hge
 · skip
   have hrune:=zaO hlt
   have hrl:=zcM s p
   have hdw:=zaN s p hlt
   have hdp:=zY s p
   refine jT J (oE J (zcR (i:=0) J J hlt) ?_)
   rintro _ _ ⟨rfl,rfl⟩
   refine on J (oR 1 J (oZ J (jS J (jCt J (zt J (zj (jB J (jT J (oR 4 J (oZ J (jT J (oR 2 J (oW J J acs Tryz.call151 (Kind_c ((decR s p:Nat):Int)) (oW J J acs Tryz.call150 (containsI_c ks (zM ((decR s p:Nat):Int))) (oP J (zaZ J) (oZ J ?_))))))))))))))))
   refine jC J (fun hc2=>?_) (fun hc2=>?_)
   · simp only[bA,bB,bC,bD,bE,bF,bG,bH,bI,bJ] at hc2
     refine jT J (oR 2 J (oZ J (zn J (zo (zal (zo (zk ?_)))))))
     exact zh Tryz.results108 (.cons (zx (zl J) (Cv.eq (congrArg dN (by exact run_stop hf (by have h0:=hc2;rw[←hasI_inK];simpa using h0))))) .nil) rfl HSub.none ⟨rfl,rfl⟩
   · simp only[bA,bB,bC,bD,bE,bF,bG,bH,bI,bJ] at hc2
     refine zt J (zB ?_)
     exact pl1 (p+decW s p) (sa J) HSub.rfl' ⟨by have:=zaN s p hlt;omega,run_next hf hlt (by have h0:=hc2;rw[←hasI_inK];simpa using h0)⟩ (by have:=zY s p;omega)
 · skip
   have hrune:=zbb hge
   refine jT J (oP J (zdj (i:=0) J J hge) (oR 1 J (oZ J (jS J (jCf J (zF J (zw (zu (zr (zj (jT J (oR 1 J (oP J (z7 J Tryz.runUnderlying9) (oR 1 J (oZ J (zn J ?_))))))))))))))))
   exact zh Tryz.results108 (.cons (zx (zl J) (Cv.eq (congrArg dN (by exact run_end hf hge hp)))) .nil) rfl HSub.none ⟨rfl,rfl⟩
theorem word_c (s:ByteArray) (hs:s.size≤1000000):
 CD Tryz.prog 153 [] [.s s] (isR (.tup [TokD.d ((zbN (bl8 s)).1),dN ((zbN (bl8 s)).2)])):=by
 refine zp Tryz.func153 J (N:=19) J J (fun C=>?_)
 refine jk [0] J ?_
 refine JD.bd 0 J (fun bd0=>?_)
 have sz0:s.size≤9223372036854775807:=bd0
 have hn:=zb6 (inK [1,2]) s
 refine jT J (oE J (zC (zv:=(.agg #[(.int .i64 0),(.int .i64 0),(.string ByteArray.empty)])) Tryz.zeroValue135 ⟨J,J,J,trivial⟩ (Cv.vagg (by decide))) ?_)
 rintro _ _ ⟨g1,rfl,rfl⟩
 refine oR 1 J (oZ J (jT J (oR 1 J (oE J (Qu.ef (d:=.sh 1 ([1,2].map dI)) (zy [.const (.int .i64 1),.const (.int .i64 2)] J J (.cons (CellD.v J) (.cons (CellD.v J) .nil)) J Tryz.runUnderlying55 Tryz.sizeOf3 Tryz.zeroValue3 J J J J)) ?_))))
 rintro _ _ ⟨rfl,rfl⟩
 refine oW J J acs Tryz.call108 (zeM s [1,2]) (oR 1 J (oZ J (jS J (jT J (oR 2 J (oP J (zam (a:=0) (c:=runL (inK [1,2]) (bl8 s)) J J J (by first | rfl | (show _=_;omega)) (by first | rfl | (show _=_;omega)) Tryz.runUnderlying9 (by omega) (by omega)) (oW rfl rfl acs Tryz.call176 (Name_c (s.extract 0 (runL (inK [1,2]) (bl8 s)))) (oP rfl (zaZ rfl) (oZ rfl ?_)))))))))
 refine jC J (fun hc2=>?_) (fun hc2=>?_)
 · simp only[bA,bB,bC,bD,bE,bF,bG,bH,bI,bJ] at hc2
   refine jT J (oP J (zJ [] [] (zv:=(.agg #[(.int .i64 0),(.int .i64 0),(.string ByteArray.empty)])) J J (.nil) (Tryz.runUnderlying135) Tryz.zeroValue135 zb1 ⟨rfl,J,J,trivial⟩ J) (oE J (zi (i:=0) (X':=.agg [dI 0,dI 0,.v (.string ByteArray.empty)]) J J J (CellD.agg) Tryz.sizeOf135 J J J) ?_))
   rintro _ _ ⟨rfl,rfl⟩
   refine on J (oR 1 J (oZ J (jk [0,2,3,4] J (zn J (zk ?_)))))
   exact zh Tryz.results153 (.cons (zx (zU (X:=.agg [dI 0,dI 0,.v (.string ByteArray.empty)]) (d:=.agg [dI 0,dI 0,.v (.string ByteArray.empty)]) (i:=0) J J Tryz.isAgg135 Tryz.sizeOf135 J J) ((Cv.agg (.cons Cv.rfl' (.cons Cv.rfl' (.cons ((Cv.str (by first | decide | (unfold maxLen;omega)))) .nil)))).trans (Cv.eq (congrArg TokD.d (show (TokD.mk 0 0 ByteArray.empty)=(zbN (bl8 s)).1 from(by rw[wordT_f (by simpa using hc2)];try rfl)))))) (.cons (zx (zl rfl) (Cv.eq (congrArg dN (by rw[wordT_f (by simpa using hc2)];try rfl)))) .nil)) rfl HSub.none ⟨rfl,rfl⟩
 · simp only[bA,bB,bC,bD,bE,bF,bG,bH,bI,bJ] at hc2
   refine zt J (zj (jT J (oR 2 J (oP J (zam (a:=0) (c:=runL (inK [1,2]) (bl8 s)) J J J (by first | rfl | (show _=_;omega)) (by first | rfl | (show _=_;omega)) Tryz.runUnderlying9 (by omega) (by omega)) (oP rfl (zJ [0,2] [.const (.int .i64 1),.tmp 16] (zv:=(.agg #[(.int .i64 0),(.int .i64 0),(.string ByteArray.empty)])) rfl rfl (.cons (CellD.v rfl) (.cons CellD.s .nil)) (Tryz.runUnderlying135) Tryz.zeroValue135 zb1 ⟨rfl,rfl,rfl,trivial⟩ rfl) (oR 1 rfl (oE rfl (zi (i:=0) (X':=.agg [dI 1,dI 0,.s (s.extract 0 (runL (inK [1,2]) (bl8 s)))]) rfl rfl rfl (CellD.agg) Tryz.sizeOf135 rfl rfl rfl) ?_)))))))
   rintro _ _ ⟨rfl,rfl⟩
   refine on J (oR 1 J (oZ J (jk [2,3] J (zn J ?_))))
   exact zh Tryz.results153 (.cons (zx (zU (X:=.agg [dI 1,dI 0,.s (s.extract 0 (runL (inK [1,2]) (bl8 s)))]) (d:=.agg [dI 1,dI 0,.s (s.extract 0 (runL (inK [1,2]) (bl8 s)))]) (i:=0) J J Tryz.isAgg135 Tryz.sizeOf135 J J) (Cv.eq (congrArg TokD.d (show (TokD.mk 1 0 (s.extract 0 (runL (inK [1,2]) (bl8 s))))=(zbN (bl8 s)).1 from(by rw[wordT_t (by simpa using hc2)];try rfl))))) (.cons (zx (zl rfl) (Cv.eq (congrArg dN (by rw[wordT_t (by simpa using hc2)];try rfl)))) .nil)) rfl HSub.none ⟨rfl,rfl⟩
theorem seconds_c (s:ByteArray) :
 CD Tryz.prog 177 [] [.s s] (isR (dN (secB s))):=by
 refine zp Tryz.func177 J (N:=10) J J (fun C=>?_)
 refine jk [0] J ?_
 refine JD.bd 0 J (fun bd0=>?_)
 have sz0:s.size≤9223372036854775807:=bd0
 refine jT J (oR 1 J (oZ J (jS J (jT J (oR 1 J (oZ J (jB J (jT J (oP J (zQ J J J) (oR 1 J (oZ J ?_)))))))))))
 refine jD J (fun hc1=>?_) (fun hc1=>?_)
 · skip
   refine jT J (oR 1 J (oZ J (zn J (zo (zk ?_)))))
   exact zh Tryz.results177 (.cons (zx (zl J) (Cv.eq (congrArg dN (by unfold secB;simp[*])))) .nil) rfl HSub.none ⟨rfl,rfl⟩
 · skip
   refine jT J (oP J (zQ J J J) (oR 1 J (oZ J ?_)))
   refine jD J (fun hc2=>?_) (fun hc2=>?_)
   · skip
     refine jT J (oR 1 J (oZ J (zn J (zo (zk ?_)))))
     exact zh Tryz.results177 (.cons (zx (zl J) (Cv.eq (congrArg dN (by unfold secB;simp[*])))) .nil) rfl HSub.none ⟨rfl,rfl⟩
   · skip
     refine jT J (oP J (zQ J J J) (oR 1 J (oZ J ?_)))
     refine jD J (fun hc3=>?_) (fun hc3=>?_)
     · skip
       refine jT J (oR 1 J (oZ J (zn J (zo (zk ?_)))))
       exact zh Tryz.results177 (.cons (zx (zl J) (Cv.eq (congrArg dN (by unfold secB;simp[*])))) .nil) rfl HSub.none ⟨rfl,rfl⟩
     · skip
       refine zt J (zB (zj (jT J (oR 1 J (oZ J (zn J ?_))))))
       exact zh Tryz.results177 (.cons (zx (zl J) (Cv.eq (congrArg dN (by unfold secB;simp[*])))) .nil) rfl HSub.none ⟨rfl,rfl⟩
theorem signs_c  :
 CD Tryz.prog 179 [] [] (isR ((D.ls 1 D.s) zbI)):=by
 refine zp Tryz.func179 J (N:=2) J J (fun C=>?_)
 refine jk [] J (jT J (oR 1 J (oZ J (jT J ?_))))
 refine oE J (Qu.ef (d:=.sh 1 ([(⟨#[61,61]⟩:ByteArray),(⟨#[33,61]⟩:ByteArray),(⟨#[60,61]⟩:ByteArray),(⟨#[62,61]⟩:ByteArray),(⟨#[61,126]⟩:ByteArray),(⟨#[33,126]⟩:ByteArray),(⟨#[43]⟩:ByteArray),(⟨#[45]⟩:ByteArray),(⟨#[42]⟩:ByteArray),(⟨#[47]⟩:ByteArray),(⟨#[37]⟩:ByteArray),(⟨#[40]⟩:ByteArray),(⟨#[41]⟩:ByteArray),(⟨#[123]⟩:ByteArray),(⟨#[125]⟩:ByteArray),(⟨#[91]⟩:ByteArray),(⟨#[93]⟩:ByteArray),(⟨#[44]⟩:ByteArray),(⟨#[61]⟩:ByteArray),(⟨#[60]⟩:ByteArray),(⟨#[62]⟩:ByteArray)].map D.s)) ((zy [.const (.string (⟨#[61,61]⟩:ByteArray)),.const (.string (⟨#[33,61]⟩:ByteArray)),.const (.string (⟨#[60,61]⟩:ByteArray)),.const (.string (⟨#[62,61]⟩:ByteArray)),.const (.string (⟨#[61,126]⟩:ByteArray)),.const (.string (⟨#[33,126]⟩:ByteArray)),.const (.string (⟨#[43]⟩:ByteArray)),.const (.string (⟨#[45]⟩:ByteArray)),.const (.string (⟨#[42]⟩:ByteArray)),.const (.string (⟨#[47]⟩:ByteArray)),.const (.string (⟨#[37]⟩:ByteArray)),.const (.string (⟨#[40]⟩:ByteArray)),.const (.string (⟨#[41]⟩:ByteArray)),.const (.string (⟨#[123]⟩:ByteArray)),.const (.string (⟨#[125]⟩:ByteArray)),.const (.string (⟨#[91]⟩:ByteArray)),.const (.string (⟨#[93]⟩:ByteArray)),.const (.string (⟨#[44]⟩:ByteArray)),.const (.string (⟨#[61]⟩:ByteArray)),.const (.string (⟨#[60]⟩:ByteArray)),.const (.string (⟨#[62]⟩:ByteArray))] J J (.cons (CellD.v J) (.cons (CellD.v J) (.cons (CellD.v J) (.cons (CellD.v J) (.cons (CellD.v J) (.cons (CellD.v J) (.cons (CellD.v J) (.cons (CellD.v J) (.cons (CellD.v J) (.cons (CellD.v J) (.cons (CellD.v J) (.cons (CellD.v J) (.cons (CellD.v J) (.cons (CellD.v J) (.cons (CellD.v J) (.cons (CellD.v J) (.cons (CellD.v J) (.cons (CellD.v J) (.cons (CellD.v J) (.cons (CellD.v J) (.cons (CellD.v J) .nil))))))))))))))))))))) J Tryz.runUnderlying23 Tryz.sizeOf9 Tryz.zeroValue9 J J J J).cv (Cv.shs (.cons (Cv.str (by first | decide | (unfold maxLen;omega))) (.cons (Cv.str (by first | decide | (unfold maxLen;omega))) (.cons (Cv.str (by first | decide | (unfold maxLen;omega))) (.cons (Cv.str (by first | decide | (unfold maxLen;omega))) (.cons (Cv.str (by first | decide | (unfold maxLen;omega))) (.cons (Cv.str (by first | decide | (unfold maxLen;omega))) (.cons (Cv.str (by first | decide | (unfold maxLen;omega))) (.cons (Cv.str (by first | decide | (unfold maxLen;omega))) (.cons (Cv.str (by first | decide | (unfold maxLen;omega))) (.cons (Cv.str (by first | decide | (unfold maxLen;omega))) (.cons (Cv.str (by first | decide | (unfold maxLen;omega))) (.cons (Cv.str (by first | decide | (unfold maxLen;omega))) (.cons (Cv.str (by first | decide | (unfold maxLen;omega))) (.cons (Cv.str (by first | decide | (unfold maxLen;omega))) (.cons (Cv.str (by first | decide | (unfold maxLen;omega))) (.cons (Cv.str (by first | decide | (unfold maxLen;omega))) (.cons (Cv.str (by first | decide | (unfold maxLen;omega))) (.cons (Cv.str (by first | decide | (unfold maxLen;omega))) (.cons (Cv.str (by first | decide | (unfold maxLen;omega))) (.cons (Cv.str (by first | decide | (unfold maxLen;omega))) (.cons (Cv.str (by first | decide | (unfold maxLen;omega))) .nil)))))))))))))))))))))))) ?_
 rintro _ _ ⟨rfl,rfl⟩
 refine oR 1 J (oZ J (zn J ?_))
 exact zh Tryz.results179 (.cons (zx (zl J) (Cv.eq (congrArg (D.ls 1 D.s) (show [(⟨#[61,61]⟩:ByteArray),(⟨#[33,61]⟩:ByteArray),(⟨#[60,61]⟩:ByteArray),(⟨#[62,61]⟩:ByteArray),(⟨#[61,126]⟩:ByteArray),(⟨#[33,126]⟩:ByteArray),(⟨#[43]⟩:ByteArray),(⟨#[45]⟩:ByteArray),(⟨#[42]⟩:ByteArray),(⟨#[47]⟩:ByteArray),(⟨#[37]⟩:ByteArray),(⟨#[40]⟩:ByteArray),(⟨#[41]⟩:ByteArray),(⟨#[123]⟩:ByteArray),(⟨#[125]⟩:ByteArray),(⟨#[91]⟩:ByteArray),(⟨#[93]⟩:ByteArray),(⟨#[44]⟩:ByteArray),(⟨#[61]⟩:ByteArray),(⟨#[60]⟩:ByteArray),(⟨#[62]⟩:ByteArray)]=zbI from(by rfl))))) .nil) rfl HSub.none ⟨rfl,rfl⟩
theorem sign_c (s:ByteArray) (hs:s.size≤1000000):
 CD Tryz.prog 156 [] [.s s] (isR (.tup [TokD.d ((zb2 (bl8 s)).1),dN ((zb2 (bl8 s)).2)])):=by
 refine zp Tryz.func156 J (N:=21) J J (fun C=>?_)
 refine jk [0] J ?_
 refine JD.bd 0 J (fun bd0=>?_)
 have sz0:s.size≤9223372036854775807:=bd0
 have hsl:zbI.length=21:=rfl
 refine jT J (oE J (zC (zv:=(.agg #[(.int .i64 0),(.int .i64 0),(.string ByteArray.empty)])) Tryz.zeroValue135 ⟨J,J,J,trivial⟩ (Cv.vagg (by decide))) ?_)
 rintro _ _ ⟨g1,rfl,rfl⟩
 refine oR 1 J (oZ J (jS J (jT J (oW J J acs Tryz.call179 (signs_c) (oP J (zbf (n:=zbI.length) J Tryz.runUnderlying23 (by simp only[lm,lc,ln])) (oR 1 rfl (oZ rfl (jB rfl (jl1 (fun (a_:Nat)=>[(0,.s s),(2,dP g1 0),(6,.sh 1 (zbI.map D.s)),(7,dN zbI.length),(8,dN a_)]) (fun a_=>[.bx g1 135 (.agg [dI 0,dI 0,.v (.string ByteArray.empty)])]) (fun a_=>(za1 zbI (bl8 s)=za1 (zbI.drop a_) (bl8 s))) (fun a_=>zbI.length-a_) 0 rfl (sa rfl) HSub.rfl' rfl ?_)))))))))
 rintro k hf
 refine ja J (jn J (jT J (oP J (zN J J J) (oZ J (jS J ?_)))))
 refine jD J (fun hc2=>?_) (fun hc2=>?_)
 · skip
   refine zt J (zj (jS J (jB J (jT J ?_))))
   obtain ⟨x1,hx1⟩:=zW zbI k (by omega)
   refine oP J (zI (k:=k) J J Tryz.runUnderlying23 Tryz.sizeOf9 (by first | rfl | omega) (zK hx1)) (oP rfl (zar rfl Tryz.isAgg9 rfl) (oR 1 rfl (oZ rfl (jT rfl (oR 2 rfl (oW rfl rfl acs Tryz.call172 (HasPrefix_c s x1) (oZ rfl ?_)))))))
   refine jC J (fun hc3=>?_) (fun hc3=>?_)
   · skip
     refine jT J (oR 1 J (oP J (zJ [0,2] [.const (.int .i64 5),.tmp 15] (zv:=(.agg #[(.int .i64 0),(.int .i64 0),(.string ByteArray.empty)])) J J (.cons (CellD.v J) (.cons CellD.s .nil)) (Tryz.runUnderlying135) Tryz.zeroValue135 zb1 ⟨rfl,J,J,trivial⟩ J) (oR 1 J (oP J (z7 J Tryz.runUnderlying9) (oE J (zi (i:=0) (X':=.agg [dI 5,dI 0,.s x1]) J J J (CellD.agg) Tryz.sizeOf135 J J J) ?_)))))
     rintro _ _ ⟨rfl,rfl⟩
     refine on J (oR 1 J (oZ J (zn J (zo (zk (zal (zo (zk ?_))))))))
     exact zh Tryz.results156 (.cons (zx (zU (X:=.agg [dI 5,dI 0,.s x1]) (d:=.agg [dI 5,dI 0,.s x1]) (i:=0) J J Tryz.isAgg135 Tryz.sizeOf135 J J) (Cv.eq (congrArg TokD.d (show (TokD.mk 5 0 x1)=(zb2 (bl8 s)).1 from(by unfold zb2;rw[signIn_at hx1 hf (by simpa using hc3)];try rfl))))) (.cons (zx (zl rfl) (Cv.eq (congrArg dN (by unfold zb2;rw[signIn_at hx1 hf (by simpa using hc3)];try rfl)))) .nil)) rfl HSub.none ⟨rfl,rfl⟩
   · skip
     refine zt J (zB (zj (zf J (oP J (zaz (c:=((k+1:Nat):Int)) J J (zab (by omega) (by omega))) (oR 1 rfl (zq rfl ?_))))))
     exact pl1 (k+1) (sa J) HSub.rfl' (signIn_next hx1 hf (by simpa using hc3)) (by omega)
 · skip
   refine zF J (zw (zu (zr (zj (jT J (oP J (zJ [] [] (zv:=(.agg #[(.int .i64 0),(.int .i64 0),(.string ByteArray.empty)])) J J (.nil) (Tryz.runUnderlying135) Tryz.zeroValue135 zb1 ⟨rfl,J,J,trivial⟩ J) (oE J (zi (i:=0) (X':=.agg [dI 0,dI 0,.v (.string ByteArray.empty)]) J J J (CellD.agg) Tryz.sizeOf135 J J J) ?_)))))))
   rintro _ _ ⟨rfl,rfl⟩
   refine on J (oR 1 J (oZ J (zn J ?_)))
   exact zh Tryz.results156 (.cons (zx (zU (X:=.agg [dI 0,dI 0,.v (.string ByteArray.empty)]) (d:=.agg [dI 0,dI 0,.v (.string ByteArray.empty)]) (i:=0) J J Tryz.isAgg135 Tryz.sizeOf135 J J) ((Cv.agg (.cons Cv.rfl' (.cons Cv.rfl' (.cons ((Cv.str (by first | decide | (unfold maxLen;omega)))) .nil)))).trans (Cv.eq (congrArg TokD.d (show (TokD.mk 0 0 ByteArray.empty)=(zb2 (bl8 s)).1 from(by unfold zb2;rw[signIn_end hf (by omega)];try rfl)))))) (.cons (zx (zl rfl) (Cv.eq (congrArg dN (by unfold zb2;rw[signIn_end hf (by omega)];try rfl)))) .nil)) rfl HSub.none ⟨rfl,rfl⟩
end Lp
set_option linter.unusedVariables false
namespace Lp
open Go Go.RowKit
variable {P:Program} {ty:TypeId} {K:Kd} {H:List Hp}
abbrev dB8 (n:Int):D:=.v (.int .u8 n)
theorem rep_bytes {w:World} {F:Nat→Prop}:∀ {xs:List Int} {us:List Value},RepE w F 1 (xs.map dB8) us→us=xs.map (Value.int .u8)
 | [],_,h=>h
 | x::r,_,⟨u,t,e,h1,_,_,h4⟩=>by
  have h1':u=.int .u8 x:=h1
  rw[e,rep_bytes h4,h1'];rfl
theorem p_bytes {t1 t2 e:TypeId} {x:Operand} {j:Nat} {v:Value} {T:TypeId} {xs:List Int} (hx:opO K x=some v) (hm:nth H j=some (.sl v 1 T (xs.map dB8))) (hn:xs≠[]) (hs:P.underlying t1=some (.slice e)) (he:P.underlying e=some (.int .u8)) (hd:P.underlying t2=some .string):
 Pu P (.convert t1 t2 x) ty K H (.v (.string (strOfNums xs))):=
 ⟨fun ρ w F hk _ hH=>by
  obtain ⟨us,hr,ho⟩:=hH _ (zaj hm)
  have hu:=rep_bytes hr
  subst hu
  obtain ⟨A,c,hv,h2,h3,h4,h5⟩:=ho.sl
  obtain ⟨b,o,rfl,_,_,hat⟩:=h4 (by simpa using hn)
  have hev:ev ρ x=v:=hk.opO hx
  have hl:((xs.map (Value.int .u8)).map vcs).length=xs.length:=by simp
  rw[hl] at hv
  have hcv:=run_convert_bytes_arg (P:=P) w t1 e hs he b o xs.length c xs rfl (fun i hi=>by
   have:=hat i [Value.int .u8 (xs.getD i 0)] (by
    rw[List.getElem?_map,List.getElem?_map,List.getElem?_eq_getElem hi]
    simp[vcs,List.getD,List.getElem?_eq_getElem hi,Value.cells])
   have h0:=this.2 0 _ J
   simpa using h0) t2 hd
  exact EOp.of_run (v:=.string (strOfNums xs)) (w':=w) (by
   have h1:=zbw hcv
   simpa [execOp,zas,hev,hv] using h1) ⟨rfl,rfl⟩⟩
end Lp
set_option linter.unusedSimpArgs false
set_option linter.unusedVariables false
set_option maxHeartbeats 4000000
set_option maxRecDepth 100000
namespace Lp
open Go Go.RowKit Go.Proofs
namespace HdYtheccaeefigajaaGreatDoorV37
end HdYtheccaeefigajaaGreatDoorV37
open HdYtheccaeefigajaaGreatDoorV37
theorem ext_indexByte (u:Nat) (w:World):(callFunc 237 #[.string (⟨#[48,49,50,51,52,53,54,55,56,57,97,98,99,100,101,102]⟩:ByteArray),.int .u8 (u:Int)]).run Tryz.prog w=.ok (.value (.int .i64 (hexI u))) w:=by
 rw[run_callFunc_extern Tryz.func237 (by kernel_rfl) (by kernel_rfl) (by kernel_rfl) (e:=Extern.BytealgIndexByte.indexByte) (by kernel_rfl),run_indexByte_string]
 rfl
theorem p_indexByte {ty:TypeId} {K:Kd} {H:List Hp} {x y:Operand} {ats:Array TypeId} {u:Nat} (hx:opS K x=some (⟨#[48,49,50,51,52,53,54,55,56,57,97,98,99,100,101,102]⟩:ByteArray)) (hy:opD K y=some (.v (.int .u8 (u:Int)))):Pu Tryz.prog (.call { callee:=.value (.func 237),args:=#[x,y],argTypes:=ats }) ty K H (dI (hexI u)):=
 ⟨fun ρ w F hk _ _=>e_ext (vs:=[.string (⟨#[48,49,50,51,52,53,54,55,56,57,97,98,99,100,101,102]⟩:ByteArray),.int .u8 (u:Int)]) (zA ρ [x,y]) (by rw[show (#[x,y]:Array Operand).toList=[x,y] from rfl,zb7 ρ [x,y] [x,y] (fun _ h=>h)];have e:ev ρ y=_:=hk.op hy;simp[hk.opS hx,e]) (ext_indexByte u) ⟨rfl,rfl⟩⟩
section
variable {P:Program} {ty:TypeId} {K:Kd} {H:List Hp} {t t':TypeId} {x y:Operand}
theorem p_shl4 {k':IntKind} {a:Nat} (hx:opD K x=some (dI (a:Int))) (hy:opD K y=some (.v (.int k' 4))) (ha:a<16):Pu P (.binOp .shl t x y t') ty K H (dN (a*16)):=
 zdx hx hy (fun w=>by
  rcases (show a=0∨a=1∨a=2∨a=3∨a=4∨a=5∨a=6∨a=7∨a=8∨a=9∨a=10∨a=11∨a=12∨a=13∨a=14∨a=15 by omega) with rfl | rfl | rfl | rfl | rfl | rfl | rfl | rfl | rfl | rfl | rfl | rfl | rfl | rfl | rfl | rfl<;>rfl)
theorem bv64o (a b:Nat) (ha:a<256) (hb:b<256):(BitVec.ofInt IntKind.i64.bits (a:Int)||| BitVec.ofInt IntKind.i64.bits (b:Int)).toNat=a||| b:=by
 rw[BitVec.toNat_or,BitVec.toNat_ofInt,BitVec.toNat_ofInt]
 have e:(2:Nat) ^ IntKind.i64.bits=18446744073709551616:=rfl
 rw[e]
 congr 1<;>omega
theorem or16:∀ a,a<16→∀ b,b<16→a*16||| b=a*16+b:=by decide
theorem p_or64 {a b:Nat} (hx:opD K x=some (dN (a*16))) (hy:opD K y=some (dI (b:Int))) (ha:a<16) (hb:b<16):Pu P (.binOp .or t x y t') ty K H (dN (a*16+b)):=
 zdx hx hy (fun w=>by
  have h:=or16 a ha b hb
  simp only[eqGuard,binOp,Op.intBits,bv64o (a*16) b (by omega) (by omega),h,w64 (show -9223372036854775808≤((a*16+b:Nat):Int)∧((a*16+b:Nat):Int)≤9223372036854775807 by omega)]
  rfl)
end
theorem indexByte0_c (c:Nat) :
 CD Tryz.prog 229 [] [.v (.string (⟨#[48,49,50,51,52,53,54,55,56,57,97,98,99,100,101,102]⟩:ByteArray)),.v (.int .u8 ((c:Nat):Int))] (isR (dI (hexI c))):=by
 refine zp Tryz.func229 J (N:=8) J J (fun C=>?_)
 refine jk [0,1] J (jT J (oR 1 J (oZ J (jT J (oR 2 J (oP J (p_indexByte (u:=c) J J) (oR 1 J (oZ J (zn J ?_)))))))))
 exact zh Tryz.results229 (.cons (zx (zl J) (Cv.eq (congrArg (fun n=>D.v (.int .i64 n)) (by rfl)))) .nil) rfl HSub.none ⟨rfl,rfl⟩
theorem indexByte_c (c:Nat) :
 CD Tryz.prog 218 [] [.v (.string (⟨#[48,49,50,51,52,53,54,55,56,57,97,98,99,100,101,102]⟩:ByteArray)),.v (.int .u8 ((c:Nat):Int))] (isR (dI (hexI c))):=by
 refine zp Tryz.func218 J (N:=8) J J (fun C=>?_)
 refine jk [0,1] J (jT J (oR 1 J (oZ J (jT J (oR 2 J (oW J J acs Tryz.call229 (indexByte0_c c) (oR 1 J (oZ J (zn J ?_)))))))))
 exact zh Tryz.results218 (.cons (zl J) .nil) J HSub.none ⟨rfl,J⟩
def hasS (s:ByteArray):Bool:=decide (1≤s.size)&&decide (s.extract (s.size-1) s.size=(⟨#[34]⟩:ByteArray))
theorem hasP_size {a b:ByteArray} (h:hasP a b=true):b.size≤a.size:=by unfold hasP at h;simp only[Bool.and_eq_true,decide_eq_true_eq] at h;exact h.1
theorem hasS_size {s:ByteArray} (h:hasS s=true):1≤s.size:=by unfold hasS at h;simp only[Bool.and_eq_true,decide_eq_true_eq] at h;exact h.1
theorem hasS_c (s:ByteArray) :
 CD Tryz.prog 230 [] [.s s,.v (.string (⟨#[34]⟩:ByteArray))] (isR (dB (hasS s))):=by
 refine zp Tryz.func230 J (N:=21) J J (fun C=>?_)
 refine jk [0,1] J ?_
 refine JD.bd 0 J (fun bd0=>?_)
 have sz0:s.size≤9223372036854775807:=bd0
 have h34:(⟨#[34]⟩:ByteArray).size=1:=rfl
 refine jT J (oR 1 J (oZ J (jS J (jk [0,1] J ?_))))
 refine zR 4 ((decide ((((⟨#[34]⟩:ByteArray).size:Nat):Int)≤((s.size:Nat):Int))&&decide ((s.extract (s.size-((⟨#[34]⟩:ByteArray).size)) s.size)=(⟨#[34]⟩:ByteArray)))) [] (fun _ hQ1=>?_) ?_
 · skip
   by_cases hg2:(((⟨#[34]⟩:ByteArray).size:Nat):Int)≤((s.size:Nat):Int)
   · skip
     refine zf J (oR 1 J (oP J (z7 J Tryz.runUnderlying9) (oR 1 J (oP J (z7 J Tryz.runUnderlying9) (oP J (zaw J J (decide_eq_true hg2)) (oR 3 J (oG J (z7 J Tryz.runUnderlying9) (oR 1 J (oG J (z7 J Tryz.runUnderlying9) (oG J (zeA (c:=((s.size-((⟨#[34]⟩:ByteArray).size):Nat):Int)) J J (zab (by omega) (by omega))) (oG rfl (zam (a:=s.size-((⟨#[34]⟩:ByteArray).size)) (c:=s.size) rfl rfl rfl (by first | rfl | (show _=_;omega)) (by first | rfl | (show _=_;omega)) Tryz.runUnderlying9 (by omega) (by omega)) (oR 1 rfl (oG rfl (zQ rfl rfl rfl) (oR 2 rfl (zq rfl ?_)))))))))))))))
     exact PD.sub ((4,dB (decide ((((⟨#[34]⟩:ByteArray).size:Nat):Int)≤((s.size:Nat):Int))&&decide ((s.extract (s.size-((⟨#[34]⟩:ByteArray).size)) s.size)=(⟨#[34]⟩:ByteArray))))::[(0,.s s),(1,.v (.string (⟨#[34]⟩:ByteArray)))]) ⟨sc J (Cv.eq (congrArg (fun b=>D.v (.bool b)) (by first | (simp[hg2];done) | (simp_all;done)))),sk rfl,sk rfl,trivial⟩ hQ1
   · skip
     refine zf J (oR 1 J (oP J (z7 J Tryz.runUnderlying9) (oR 1 J (oP J (z7 J Tryz.runUnderlying9) (oP J (zaw J J (decide_eq_false hg2)) (oR 12 J (zq J ?_)))))))
     exact PD.sub ((4,dB (decide ((((⟨#[34]⟩:ByteArray).size:Nat):Int)≤((s.size:Nat):Int))&&decide ((s.extract (s.size-((⟨#[34]⟩:ByteArray).size)) s.size)=(⟨#[34]⟩:ByteArray))))::[(0,.s s),(1,.v (.string (⟨#[34]⟩:ByteArray)))]) ⟨sc J (Cv.eq (congrArg (fun b=>D.v (.bool b)) (by first | (simp[hg2];done) | (simp_all;done)))),sk rfl,sk rfl,trivial⟩ hQ1
 · skip
   refine zj (zn J ?_)
   exact zh Tryz.results230 (.cons (zx (zl J) (Cv.eq (congrArg (fun b=>D.v (.bool b)) (by unfold hasS;congr 1;exact decide_eq_decide.2 (by omega))))) .nil) rfl HSub.none ⟨rfl,rfl⟩
theorem trimP0_c (s:ByteArray) :
 CD Tryz.prog 217 [] [.s s,.v (.string (⟨#[34]⟩:ByteArray))] (isR (D.s (zcw s))):=by
 refine zp Tryz.func217 J (N:=13) J J (fun C=>?_)
 refine jk [0,1] J ?_
 refine JD.bd 0 J (fun bd0=>?_)
 have sz0:s.size≤9223372036854775807:=bd0
 have h34:(⟨#[34]⟩:ByteArray).size=1:=rfl
 refine jT J (oR 1 J (oZ J (jS J (jT J (oR 2 J (oW J J (.cons ArgC.id (.cons (ArgC.cv (Cv.str (by first | decide | (unfold maxLen;omega)))) .nil)) Tryz.call195 (hasP_c s (⟨#[34]⟩:ByteArray)) (oZ rfl ?_)))))))
 refine jC J (fun hc1=>?_) (fun hc1=>?_)
 · skip
   have hps:=hasP_size hc1
   refine jT J (oR 2 J (oP J (z7 J Tryz.runUnderlying9) (oP J (zam (a:=(⟨#[34]⟩:ByteArray).size) (c:=s.size) J J J (by first | rfl | (show _=_;omega)) (by first | rfl | (show _=_;omega)) Tryz.runUnderlying9 (by omega) (by omega)) (oR 1 rfl (oZ rfl (zn rfl (zk ?_)))))))
   exact zh Tryz.results217 (.cons (zx (zl J) (Cv.eq (congrArg D.s (by unfold zcw;first | rw[if_pos (by simpa using hc1)];rfl | rw[if_neg (by simpa using hc1)])))) .nil) rfl HSub.none ⟨rfl,rfl⟩
 · skip
   refine zt J (zj (jT J (oR 2 J (oZ J (zn J ?_)))))
   exact zh Tryz.results217 (.cons (zx (zl J) (Cv.eq (congrArg D.s (by unfold zcw;first | rw[if_pos (by simpa using hc1)];rfl | rw[if_neg (by simpa using hc1)])))) .nil) rfl HSub.none ⟨rfl,rfl⟩
theorem trimP_c (s:ByteArray) :
 CD Tryz.prog 197 [] [.s s,.v (.string (⟨#[34]⟩:ByteArray))] (isR (D.s (zcw s))):=by
 refine zp Tryz.func197 J (N:=8) J J (fun C=>?_)
 refine jk [0,1] J ?_
 refine JD.bd 0 J (fun bd0=>?_)
 have sz0:s.size≤9223372036854775807:=bd0
 have h34:(⟨#[34]⟩:ByteArray).size=1:=rfl
 refine jT J (oR 1 J (oZ J (jT J (oR 2 J (oW J J acs Tryz.call217 (trimP0_c s) (oR 1 J (oZ J (zn J ?_))))))))
 exact zh Tryz.results197 (.cons (zl J) .nil) J HSub.none ⟨rfl,J⟩
theorem trimS0_c (s:ByteArray) :
 CD Tryz.prog 219 [] [.s s,.v (.string (⟨#[34]⟩:ByteArray))] (isR (D.s (zde s))):=by
 refine zp Tryz.func219 J (N:=16) J J (fun C=>?_)
 refine jk [0,1] J ?_
 refine JD.bd 0 J (fun bd0=>?_)
 have sz0:s.size≤9223372036854775807:=bd0
 have h34:(⟨#[34]⟩:ByteArray).size=1:=rfl
 refine jT J (oR 1 J (oZ J (jS J (jT J (oR 2 J (oW J J acs Tryz.call230 (hasS_c s) (oZ J ?_)))))))
 refine jC J (fun hc1=>?_) (fun hc1=>?_)
 · skip
   have hps:=hasS_size hc1
   refine jT J (oR 2 J (oP J (z7 J Tryz.runUnderlying9) (oR 1 J (oP J (z7 J Tryz.runUnderlying9) (oP J (zeA (c:=((s.size-((⟨#[34]⟩:ByteArray).size):Nat):Int)) J J (zab (by omega) (by omega))) (oP rfl (zam (a:=0) (c:=s.size-((⟨#[34]⟩:ByteArray).size)) rfl rfl rfl (by first | rfl | (show _=_;omega)) (by first | rfl | (show _=_;omega)) Tryz.runUnderlying9 (by omega) (by omega)) (oR 1 rfl (oZ rfl (jk [0,4] rfl (zn rfl (zk ?_)))))))))))
   exact zh Tryz.results219 (.cons (zx (zl rfl) (Cv.eq (congrArg D.s (by have h0:=hc1;unfold hasS at h0;unfold zde;simp only[Bool.and_eq_true,Bool.and_eq_false_iff,decide_eq_true_eq,decide_eq_false_iff_not] at h0;first | (rw[if_pos h0];rfl) | rw[if_neg (fun e=>by rcases h0 with h | h;exact h e.1;exact h e.2)])))) .nil) rfl HSub.none ⟨rfl,rfl⟩
 · skip
   refine zt J (zj (jT J (oR 2 J (oZ J (zn J ?_)))))
   exact zh Tryz.results219 (.cons (zx (zl rfl) (Cv.eq (congrArg D.s (by have h0:=hc1;unfold hasS at h0;unfold zde;simp only[Bool.and_eq_true,Bool.and_eq_false_iff,decide_eq_true_eq,decide_eq_false_iff_not] at h0;first | (rw[if_pos h0];rfl) | rw[if_neg (fun e=>by rcases h0 with h | h;exact h e.1;exact h e.2)])))) .nil) rfl HSub.none ⟨rfl,rfl⟩
theorem trimS_c (s:ByteArray) :
 CD Tryz.prog 199 [] [.s s,.v (.string (⟨#[34]⟩:ByteArray))] (isR (D.s (zde s))):=by
 refine zp Tryz.func199 J (N:=8) J J (fun C=>?_)
 refine jk [0,1] J ?_
 refine JD.bd 0 J (fun bd0=>?_)
 have sz0:s.size≤9223372036854775807:=bd0
 have h34:(⟨#[34]⟩:ByteArray).size=1:=rfl
 refine jT J (oR 1 J (oZ J (jT J (oR 2 J (oW J J acs Tryz.call219 (trimS0_c s) (oR 1 J (oZ J (zn J ?_))))))))
 exact zh Tryz.results199 (.cons (zl J) .nil) J HSub.none ⟨rfl,J⟩
end Lp
set_option linter.unusedSimpArgs false
set_option linter.unusedVariables false
set_option maxHeartbeats 4000000
set_option maxRecDepth 100000
namespace Lp
open Go Go.RowKit Go.Proofs
namespace HdYtheccaeefigajaaGreatDoorV38
theorem zd3 {a:Int} (h:0≤a∧a≤255):∀ w,(convert 3 5 (.int .i64 a)).run Tryz.prog w=.ok (.int .u8 a) w:=fun w=>by
 have e:IntKind.u8.wrap a=a:=by simp[IntKind.wrap,IntKind.bits,IntKind.signed];omega
 simp[convert,run_underlying (show Tryz.prog.underlying 3=some _ by kernel_rfl),run_underlying (show Tryz.prog.underlying 5=some _ by kernel_rfl),Conv.intToInt,e]
theorem zbo:Tryz.prog.underlying 103=some (.slice 5):=by kernel_rfl
end HdYtheccaeefigajaaGreatDoorV38
open HdYtheccaeefigajaaGreatDoorV38
theorem escaped_c (s:ByteArray) (hs:s.size≤1000000):
 CD Tryz.prog 198 [] [.s s] (isR (.tup [D.s (escT s),dN (escN s)])):=by
 refine zp Tryz.func198 J (N:=52) J J (fun C=>?_)
 refine jk [0] J ?_
 refine JD.bd 0 J (fun bd0=>?_)
 have sz0:s.size≤9223372036854775807:=bd0
 refine jT J (oR 2 J (oZ J (jS J (jB J (jT J (oR 1 J (oP J (zQ J J J) (oR 1 J (oZ J ?_)))))))))
 refine jD J (fun hc1=>?_) (fun hc1=>?_)
 · skip
   refine jT J (oR 2 J (oZ J (zn J (zo (zk ?_)))))
   exact zh Tryz.results198 (.cons (zx (zl J) (((Cv.str (by first | decide | (unfold maxLen;omega)))).trans (Cv.eq (congrArg D.s (by have T:=esc_0 hc1;first | exact T.1 | exact T.2))))) (.cons (zx (zl rfl) (Cv.eq (congrArg dN (by have T:=esc_0 hc1;first | exact T.1 | exact T.2)))) .nil)) rfl HSub.none ⟨rfl,rfl⟩
 · skip
   have hz:=ne_size hc1
   refine jS J ?_
   obtain ⟨u1,hu1⟩:=zcc s 0 (by omega)
   have hlu1:=u1.toNat_lt
   refine jk [0,2,3] J ?_
   refine zR 9 ((decide (((u1.toNat:Nat):Int)=(34:Int))||decide (((u1.toNat:Nat):Int)=(92:Int)))) [] (fun _ hQ2=>?_) ?_
   · skip
     by_cases hg3:((u1.toNat:Nat):Int)=(34:Int)
     · skip
       refine zf J (oR 1 J (oP J (zac (k:=0) J J Tryz.runUnderlying9 (by first | rfl | omega) hu1) (oP rfl (zD rfl rfl (decide_eq_true hg3)) (oR 6 rfl (zq rfl ?_)))))
       exact PD.sub ((9,dB (decide (((u1.toNat:Nat):Int)=(34:Int))||decide (((u1.toNat:Nat):Int)=(92:Int))))::[(0,.s s),(2,.v (.string ByteArray.empty)),(3,dI 0)]) ⟨sc J (Cv.eq (congrArg (fun b=>D.v (.bool b)) (by first | (simp[hc1,hg3];done) | (simp_all;done)))),sk rfl,sk rfl,sk rfl,trivial⟩ hQ2
     · skip
       refine zf J (oR 1 J (oP J (zac (k:=0) J J Tryz.runUnderlying9 (by first | rfl | omega) hu1) (oP rfl (zD rfl rfl (decide_eq_false hg3)) (oR 2 rfl (oG rfl (zac (k:=0) rfl rfl Tryz.runUnderlying9 (by first | rfl | omega) hu1) (oG rfl (zD rfl rfl rfl) (oR 2 rfl (zq rfl ?_))))))))
       exact PD.sub ((9,dB (decide (((u1.toNat:Nat):Int)=(34:Int))||decide (((u1.toNat:Nat):Int)=(92:Int))))::[(0,.s s),(2,.v (.string ByteArray.empty)),(3,dI 0)]) ⟨sc J (Cv.eq (congrArg (fun b=>D.v (.bool b)) (by first | (simp[hc1,hg3];done) | (simp_all;done)))),sk rfl,sk rfl,sk rfl,trivial⟩ hQ2
   · skip
     refine zj ?_
     refine jC J (fun hc4=>?_) (fun hc4=>?_)
     · simp only[bA,bB,bC,bD,bE,bF,bG,bH,bI,bJ] at hc4
       refine jT J (oR 1 J (oP J (zam (a:=0) (c:=1) J J J (by first | rfl | (show _=_;omega)) (by first | rfl | (show _=_;omega)) Tryz.runUnderlying9 (by omega) (by omega)) (oR 2 rfl (oZ rfl (zn rfl (zo (zk ?_)))))))
       exact zh Tryz.results198 (.cons (zx (zl J) (Cv.eq (congrArg D.s (by have T:=esc_1 hz (by rw[←(zS hu1)];have:=hc4;omega);first | exact T.1 | exact T.2)))) (.cons (zx (zl rfl) (Cv.eq (congrArg dN (by have T:=esc_1 hz (by rw[←(zS hu1)];have:=hc4;omega);first | exact T.1 | exact T.2)))) .nil)) rfl HSub.none ⟨rfl,rfl⟩
     · simp only[bA,bB,bC,bD,bE,bF,bG,bH,bI,bJ] at hc4
       refine jT J (oR 1 J (oP J (zac (k:=0) J J Tryz.runUnderlying9 (by first | rfl | omega) hu1) (oP rfl (zD rfl rfl rfl) (oR 1 rfl (oZ rfl ?_)))))
       refine jD J (fun hc5=>?_) (fun hc5=>?_)
       · skip
         refine jT J (oR 2 J (oZ J (zn J (zo (zk ?_)))))
         exact zh Tryz.results198 (.cons (zx (zl J) (((Cv.str (by first | decide | (unfold maxLen;omega)))).trans (Cv.eq (congrArg D.s (by have T:=esc_2 hz (by rw[←(zS hu1)];have:=hc4;omega) (by rw[←(zS hu1)];have:=hc5;omega);first | exact T.1 | exact T.2))))) (.cons (zx (zl rfl) (Cv.eq (congrArg dN (by have T:=esc_2 hz (by rw[←(zS hu1)];have:=hc4;omega) (by rw[←(zS hu1)];have:=hc5;omega);first | exact T.1 | exact T.2)))) .nil)) rfl HSub.none ⟨rfl,rfl⟩
       · skip
         refine jS J (jk [0,2,3] J ?_)
         refine zR 24 ((decide (((u1.toNat:Nat):Int)=(120:Int))&&decide ((3:Int)≤((s.size:Nat):Int)))) [] (fun _ hQ6=>?_) ?_
         · skip
           by_cases hg7:((u1.toNat:Nat):Int)=(120:Int)
           · skip
             refine zf J (oR 1 J (oP J (zac (k:=0) J J Tryz.runUnderlying9 (by first | rfl | omega) hu1) (oP rfl (zD rfl rfl (decide_eq_true hg7)) (oR 2 rfl (oG rfl (z7 rfl Tryz.runUnderlying9) (oG rfl (zaw rfl rfl rfl) (oR 2 rfl (zq rfl ?_))))))))
             exact PD.sub ((24,dB (decide (((u1.toNat:Nat):Int)=(120:Int))&&decide ((3:Int)≤((s.size:Nat):Int))))::[(0,.s s),(2,.v (.string ByteArray.empty)),(3,dI 0)]) ⟨sc J (Cv.eq (congrArg (fun b=>D.v (.bool b)) (by first | (simp[hc1,hc5,hg7];done) | (simp_all;done)))),sk rfl,sk rfl,sk rfl,trivial⟩ hQ6
           · skip
             refine zf J (oR 1 J (oP J (zac (k:=0) J J Tryz.runUnderlying9 (by first | rfl | omega) hu1) (oP rfl (zD rfl rfl (decide_eq_false hg7)) (oR 6 rfl (zq rfl ?_)))))
             exact PD.sub ((24,dB (decide (((u1.toNat:Nat):Int)=(120:Int))&&decide ((3:Int)≤((s.size:Nat):Int))))::[(0,.s s),(2,.v (.string ByteArray.empty)),(3,dI 0)]) ⟨sc J (Cv.eq (congrArg (fun b=>D.v (.bool b)) (by first | (simp[hc1,hc5,hg7];done) | (simp_all;done)))),sk rfl,sk rfl,sk rfl,trivial⟩ hQ6
         · skip
           refine zj ?_
           refine jC J (fun hc8=>?_) (fun hc8=>?_)
           · simp only[bA,bB,bC,bD,bE,bF,bG,bH,bI,bJ] at hc8
             refine jS J (jk [0,2,3,24] J (jn J ?_))
             obtain ⟨u2,hu2⟩:=zcc s 1 (by omega)
             have hlu2:=u2.toNat_lt
             obtain ⟨u3,hu3⟩:=zcc s 2 (by omega)
             have hlu3:=u3.toNat_lt
             refine zaX 5 [(33,.s s,none),(34,.v (.int .u8 ((u2.toNat:Nat):Int)),none),(35,dI (hexI u2.toNat),none),(36,.s s,none),(37,.v (.int .u8 ((u3.toNat:Nat):Int)),none)] [] (Hn:=[]) mixed J J J J HSub.rfl' J ⟨sa_p J J J (zG J),sa_p J J J (zac (k:=1) J J Tryz.runUnderlying9 (by first | rfl | omega) hu2),sa_q rfl rfl rfl (zbS rfl (.cons Cv.rfl' (.cons Cv.rfl' .nil)) Tryz.call218 (indexByte_c u2.toNat) zb4),sa_p rfl rfl rfl (zG rfl),sa_p rfl rfl rfl (zac (k:=2) rfl rfl Tryz.runUnderlying9 (by first | rfl | omega) hu3),trivial⟩ (ok [0,2,3,24,33,34,35,36,37] rfl (oW rfl rfl acs Tryz.call218 (indexByte_c u3.toNat) (oR 2 rfl (oZ rfl (jS rfl (jk [2,3,4,5] rfl ?_))))))
             refine zR 44 ((decide ((0:Int)≤hexI u2.toNat)&&decide ((0:Int)≤hexI u3.toNat))) [] (fun _ hQ9=>?_) ?_
             · skip
               by_cases hg10:(0:Int)≤hexI u2.toNat
               · skip
                 refine zf J (oR 1 J (oP J (zaw J J (decide_eq_true hg10)) (oR 2 J (oG J (zaw J J J) (oR 1 J (zq J ?_))))))
                 exact PD.sub ((44,dB (decide ((0:Int)≤hexI u2.toNat)&&decide ((0:Int)≤hexI u3.toNat)))::[(2,.v (.string ByteArray.empty)),(3,dI 0),(4,dI (hexI u2.toNat)),(5,dI (hexI u3.toNat))]) ⟨sc J (Cv.eq (congrArg (fun b=>D.v (.bool b)) (by first | (simp[hc1,hc5,hg10];done) | (simp_all;done)))),sk rfl,sk rfl,sk rfl,sk rfl,trivial⟩ hQ9
               · skip
                 refine zf J (oR 1 J (oP J (zaw J J (decide_eq_false hg10)) (oR 4 J (zq J ?_))))
                 exact PD.sub ((44,dB (decide ((0:Int)≤hexI u2.toNat)&&decide ((0:Int)≤hexI u3.toNat)))::[(2,.v (.string ByteArray.empty)),(3,dI 0),(4,dI (hexI u2.toNat)),(5,dI (hexI u3.toNat))]) ⟨sc J (Cv.eq (congrArg (fun b=>D.v (.bool b)) (by first | (simp[hc1,hc5,hg10];done) | (simp_all;done)))),sk rfl,sk rfl,sk rfl,sk rfl,trivial⟩ hQ9
             · skip
               refine zj ?_
               refine jC J (fun hc11=>?_) (fun hc11=>?_)
               · simp only[bA,bB,bC,bD,bE,bF,bG,bH,bI,bJ] at hc11
                 have hxa:=hexI_bd u2.toNat (by omega)
                 obtain ⟨a,ha⟩:∃ n:Nat,hexI u2.toNat=(n:Int):=⟨(hexI u2.toNat).toNat,by omega⟩
                 have hxb:=hexI_bd u3.toNat (by omega)
                 obtain ⟨b,hb⟩:∃ n:Nat,hexI u3.toNat=(n:Int):=⟨(hexI u3.toNat).toNat,by omega⟩
                 refine JD.sub [(2,.v (.string ByteArray.empty)),(3,dI 0),(4,dN a),(5,dN b)] ⟨sk J,sk J,sc J (Cv.eq (congrArg dI ha)),sc J (Cv.eq (congrArg dI hb)),trivial⟩ (jT J (oR 1 J (oP J (p_shl4 (a:=a) J J (by omega)) (oR 1 rfl (oP rfl (p_or64 (a:=a) (b:=b) rfl rfl (by omega) (by omega)) (oP rfl (zaK rfl (c:=((a*16+b:Nat):Int)) (zd3 (by omega))) (oE rfl (zL [.tmp 49] rfl rfl (.cons (CellD.v rfl) .nil) rfl Tryz.runUnderlying103 Tryz.sizeOf5 Tryz.zeroValue5 rfl rfl rfl rfl) ?_)))))))
                 rintro _ _ ⟨g12,rfl,rfl⟩
                 refine oP J ((p_bytes (j:=0) (xs:=[((a*16+b:Nat):Int)]) J J (by simp) zbo (by kernel_rfl) (by kernel_rfl)).cv (Cv.str (by rw[strOfNums_size];show 1≤maxLen;decide))) (oR 2 rfl (oZ rfl (jk [2,3] rfl (zn rfl (zo (zk ?_))))))
                 exact zh Tryz.results198 (.cons (zx (zl J) (Cv.eq (congrArg D.s (by have T:=esc_3 (a:=a) (b:=b) hz (by rw[←(zS hu1)];have:=hc4;omega) (by rw[←(zS hu1)];have:=hc5;omega) ⟨by rw[←(zS hu1)];have:=hc8.1;omega,by have:=hc8.2;omega⟩ (by rw[←zS hu2];exact ha) (by rw[←zS hu3];exact hb);first | (rw[nums_one (by omega)];exact T.1) | exact T.2)))) (.cons (zx (zl rfl) (Cv.eq (congrArg dN (by have T:=esc_3 (a:=a) (b:=b) hz (by rw[←(zS hu1)];have:=hc4;omega) (by rw[←(zS hu1)];have:=hc5;omega) ⟨by rw[←(zS hu1)];have:=hc8.1;omega,by have:=hc8.2;omega⟩ (by rw[←zS hu2];exact ha) (by rw[←zS hu3];exact hb);first | (rw[nums_one (by omega)];exact T.1) | exact T.2)))) .nil)) rfl HSub.none ⟨rfl,rfl⟩
               · simp only[bA,bB,bC,bD,bE,bF,bG,bH,bI,bJ] at hc11
                 refine zt J (zB (zj (jT J (oR 2 J (oZ J (zn J ?_))))))
                 exact zh Tryz.results198 (.cons (zx (zl rfl) (((Cv.str (by first | decide | (unfold maxLen;omega)))).trans (Cv.eq (congrArg D.s (by have T:=esc_4 hz (by rw[←(zS hu1)];have:=hc4;omega) (by rw[←(zS hu1)];have:=hc5;omega) (fun e=>by have h3:=e.2.2.1;have h4:=e.2.2.2;rw[←zS hu2] at h3;rw[←zS hu3] at h4;rcases hc11 with h | h<;>omega);first | exact T.1 | exact T.2))))) (.cons (zx (zl rfl) (Cv.eq (congrArg dN (by have T:=esc_4 hz (by rw[←(zS hu1)];have:=hc4;omega) (by rw[←(zS hu1)];have:=hc5;omega) (fun e=>by have h3:=e.2.2.1;have h4:=e.2.2.2;rw[←zS hu2] at h3;rw[←zS hu3] at h4;rcases hc11 with h | h<;>omega);first | exact T.1 | exact T.2)))) .nil)) rfl HSub.none ⟨rfl,rfl⟩
           · simp only[bA,bB,bC,bD,bE,bF,bG,bH,bI,bJ] at hc8
             refine zt J (zB (zj (jT J (oR 2 J (oZ J (zn J ?_))))))
             exact zh Tryz.results198 (.cons (zx (zl rfl) (((Cv.str (by first | decide | (unfold maxLen;omega)))).trans (Cv.eq (congrArg D.s (by have T:=esc_4 hz (by rw[←(zS hu1)];have:=hc4;omega) (by rw[←(zS hu1)];have:=hc5;omega) (fun e=>by have h3:=e.1;have h4:=e.2.1;rw[←(zS hu1)] at h3;rcases hc8 with h | h<;>omega);first | exact T.1 | exact T.2))))) (.cons (zx (zl rfl) (Cv.eq (congrArg dN (by have T:=esc_4 hz (by rw[←(zS hu1)];have:=hc4;omega) (by rw[←(zS hu1)];have:=hc5;omega) (fun e=>by have h3:=e.1;have h4:=e.2.1;rw[←(zS hu1)] at h3;rcases hc8 with h | h<;>omega);first | exact T.1 | exact T.2)))) .nil)) rfl HSub.none ⟨rfl,rfl⟩
theorem Unquote_c (s:ByteArray) (h2:2≤s.size) (hs:s.size≤1000000):
 CD Tryz.prog 178 [] [.s s] (isR (.tup [D.s (unqT s),dB (zdA s)])):=by
 refine zp Tryz.func178 J (N:=42) J J (fun C=>?_)
 refine jk [0] J ?_
 refine JD.bd 0 J (fun bd0=>?_)
 have sz0:s.size≤9223372036854775807:=bd0
 have hts:=trimP_size s
 refine jT J (oR 2 J (oZ J (jT J (oE J (zC (zv:=(.agg #[(.pointer none),(.slice none 0 0)])) (X:=.agg [.v (.pointer none),.ov (.slice none 0 0)]) Tryz.zeroValue213 ⟨J,J,trivial⟩ ((Cv.vagg (by decide)).trans (Cv.agg (.cons Cv.rfl' (.cons (Cv.ov rfl) .nil))))) ?_))))
 rintro _ _ ⟨g1,rfl,rfl⟩
 refine OpsD.subH (HSub.nil 1 5) (on J (oZ J (jS J (jT J (oR 1 J (oW J J acs Tryz.call197 (trimP_c s) (oR 1 J (oZ J (jB J (JD.subH (HSub.perm (zc (i:=1) J)) (jn J (jl4 (fun (a_:ByteArray) (b_:Value) (c_:Value) (d_:List UInt8)=>[(0,.s s),(4,dP g1 0),(5,.s a_)]) (fun a_ b_ c_ d_=>[.bx g1 213 (.agg [.v b_,.ov c_]),.sl c_ 1 5 (d_.map dU8)]) (fun a_ b_ c_ d_=>(b_=.pointer none∨b_=.pointer (some ⟨g1,0,none⟩))∧(UInv (zcw s) a_ d_)∧(a_.size≤s.size)∧(d_.length+a_.size≤s.size)∧(d_=[]→a_.size=(zcw s).size)) (fun a_ b_ c_ d_=>a_.size) (zcw s) (.pointer none) (.slice none 0 0) [] J (sa J) HSub.rfl' ⟨.inl J,UInv.zero _,hts.2,by show 0+(zcw s).size≤s.size;omega,fun _=>rfl⟩ ?_))))))))))))
 rintro r pv ov bs ⟨hp,hu,hr,hb,hn⟩
 refine ja J (jn J ?_)
 have hts:=trimP_size s
 refine jS J (jT J (oR 1 J (oP J (zeQ J J J) (oZ J ?_))))
 refine jD J (fun hc2=>?_) (fun hc2=>?_)
 · skip
   have hz:=ne_size hc2
   have hex0:(r.extract 1 r.size).size=r.size-1:=by rw[ByteArray.size_extract];omega
   refine zt J (zj (jB J (jS J (jT J (oR 1 J ?_)))))
   obtain ⟨u1,hu1⟩:=zcc r 0 (by omega)
   have hlu1:=u1.toNat_lt
   refine oP J (zac (k:=0) J J Tryz.runUnderlying9 (by first | rfl | omega) hu1) (oP rfl (za2 rfl rfl rfl) (oZ rfl ?_))
   refine jD J (fun hc3=>?_) (fun hc3=>?_)
   · skip
     refine jT J (oR 1 J (oP J (zac (k:=0) J J Tryz.runUnderlying9 (by first | rfl | omega) hu1) (oE rfl (zm [.bx g1 213 (.agg [.v pv,.ov ov]),.sl ov 1 5 (bs.map dU8)] [] [] rfl rfl (.cons ArgC.id (.cons ArgC.id .nil)) zg Tryz.call169 (zb5 g1 pv ov bs u1 hp (by (try simp only[la,lc,ln]);omega)) (.inl rfl)) ?_)))
     rintro _ _ ⟨_,⟨bv4,rfl,rfl⟩,rfl⟩
     refine on J (oZ J (jT J (oR 1 J (oP J (zam (a:=1) (c:=r.size) J J J (by first | rfl | (show _=_;omega)) (by first | rfl | (show _=_;omega)) Tryz.runUnderlying9 (by omega) (by omega)) (oR 1 rfl (oZ rfl (zF rfl (zw (zr (pn rfl ?_))))))))))
     exact pl4 (r.extract 1 r.size) (.pointer (some ⟨g1,0,none⟩)) bv4 (bs++[u1]) (sa J) HSub.rfl' ⟨.inr J,hu.raw hu1 (u8_ne92 hc3),by simp only[ByteArray.size_extract];omega,by simp only[la,lc,ln,len_toList,ByteArray.size_extract];omega,by intro e;have:=congrArg List.length e;simp only[la,lc,ln,len_toList] at this;omega⟩ (by simp only[ByteArray.size_extract];omega)
   · skip
     refine zt J (zj (jT J (oR 1 J (oP J (zam (a:=1) (c:=r.size) J J J (by first | rfl | (show _=_;omega)) (by first | rfl | (show _=_;omega)) Tryz.runUnderlying9 (by omega) (by omega)) (oW rfl rfl acs Tryz.call198 (escaped_c (r.extract 1 r.size) (by omega)) (oR 5 rfl (oZ rfl (jS rfl (jT rfl (oR 1 rfl (oP rfl (zD rfl rfl rfl) (oZ rfl ?_))))))))))))
     refine jD J (fun hc5=>?_) (fun hc5=>?_)
     · skip
       refine jT J (oR 2 J (oZ J (zn J (zk (zo (zal (zo (zk ?_))))))))
       exact zh Tryz.results178 (.cons (zx (zl J) (((Cv.str (by first | decide | (unfold maxLen;omega)))).trans (Cv.eq (congrArg D.s (by have T:=unq_n (hu.none (by rw[hu1,u8_92 (u:=u1) (by have:=hc3;omega)]) (by have:=hc5;omega));first | exact T.1 | exact T.2))))) (.cons (zx (zl rfl) (Cv.eq (congrArg (fun b=>D.v (.bool b)) (by have T:=unq_n (hu.none (by rw[hu1,u8_92 (u:=u1) (by have:=hc3;omega)]) (by have:=hc5;omega));first | exact T.1 | exact T.2)))) .nil)) rfl HSub.none ⟨rfl,rfl⟩
     · skip
       obtain ⟨hes,hes1,hes2⟩:=escT_size (r.extract 1 r.size)
       have hex1:(r.extract 1 r.size).size=r.size-1:=by rw[ByteArray.size_extract];omega
       refine zt J (zj (jT J (oR 1 J (oE J (zm [.bx g1 213 (.agg [.v pv,.ov ov]),.sl ov 1 5 (bs.map dU8)] [] [] J J (.cons ArgC.id (.cons ArgC.id .nil)) zg Tryz.call171 (WriteString_c g1 pv ov bs (escT (r.extract 1 r.size)) hp (by (try simp only[la,lc,ln]);omega) (by first | decide | omega)) (.inl rfl)) ?_))))
       rintro _ _ ⟨_,⟨bv6,rfl,rfl⟩,rfl⟩
       refine on J (oZ J (zf J (oR 2 J (oP J (zaz (c:=((1+(escN (r.extract 1 r.size)):Nat):Int)) J J (zab (by omega) (by omega))) (oP rfl (zam (a:=1+(escN (r.extract 1 r.size))) (c:=r.size) rfl rfl rfl (by first | rfl | (show _=_;omega)) (by first | rfl | (show _=_;omega)) Tryz.runUnderlying9 (by omega) (by omega)) (oR 1 rfl (zq rfl (zB (pn rfl ?_)))))))))
       exact pl4 (r.extract (1+(escN (r.extract 1 r.size))) r.size) (.pointer (some ⟨g1,0,none⟩)) bv6 (bs++(escT (r.extract 1 r.size)).data.toList) (sa J) HSub.rfl' ⟨.inr J,hu.esc (by rw[hu1,u8_92 (u:=u1) (by have:=hc3;omega)]) (by have:=hc5;omega),by simp only[ByteArray.size_extract];omega,by simp only[la,lc,ln,len_toList,ByteArray.size_extract];omega,by intro e;have:=congrArg List.length e;simp only[la,lc,ln,len_toList] at this;omega⟩ (by simp only[ByteArray.size_extract];omega)
 · skip
   have hre:r=ByteArray.empty:=Decidable.byContradiction hc2
   have htz:=trimS_size ⟨bs.toArray⟩
   have hbz:(⟨bs.toArray⟩:ByteArray).size=bs.length:=zai bs
   have hdn:=hu.done hre
   have hne:bs≠[]:=fun e=>by have h1:=hn e;rw[hre] at h1;have h2:(ByteArray.empty).size=0:=rfl;have hts:=trimP_size s;omega
   refine zF J (zw (zu (zr (zj (jT J (oE J (zm [.bx g1 213 (.agg [.v pv,.ov ov]),.sl ov 1 5 (bs.map dU8)] [] [] J J (.cons ArgC.id .nil) zg Tryz.call173 (String_c g1 pv ov bs hne) (.inl J)) ?_))))))
   rintro _ _ ⟨_,⟨rfl,rfl⟩,rfl⟩
   refine on J (oW J J acs Tryz.call199 (trimS_c (⟨bs.toArray⟩)) (oR 1 J (oZ J (jS J (jT J (oR 1 J (oW J J acs Tryz.call148 (Quote_c (zde (⟨bs.toArray⟩)) (by omega)) (oR 1 rfl (oP rfl (zeQ rfl rfl rfl) (oZ rfl (jk [8,40] rfl ?_)))))))))))
   refine jD J (fun hc7=>?_) (fun hc7=>?_)
   · skip
     refine jT J (oR 2 J (oZ J (zn J (zk ?_))))
     exact zh Tryz.results178 (.cons (zx (zl J) (((Cv.str (by first | decide | (unfold maxLen;omega)))).trans (Cv.eq (congrArg D.s (by have T:=unq_f hdn (by simpa using hc7);first | exact T.1 | exact T.2))))) (.cons (zx (zl rfl) (Cv.eq (congrArg (fun b=>D.v (.bool b)) (by have T:=unq_f hdn (by simpa using hc7);first | exact T.1 | exact T.2)))) .nil)) rfl HSub.none ⟨rfl,rfl⟩
   · skip
     refine zt J (zj (jT J (oR 3 J (oZ J (zn J ?_)))))
     exact zh Tryz.results178 (.cons (zx (zl J) (Cv.eq (congrArg D.s (by have T:=unq_t (s:=s) (o:=bs) (by simpa using hc7);first | exact T.1 | exact T.2)))) (.cons (zx (zl rfl) (Cv.eq (congrArg (fun b=>D.v (.bool b)) (by have T:=unq_t (s:=s) (o:=bs) (by simpa using hc7);first | exact T.1 | exact T.2)))) .nil)) rfl HSub.none ⟨rfl,rfl⟩
end Lp
