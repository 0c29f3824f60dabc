import Derived.Test.YtheccaeefigajaaGreatDoorPPr
set_option linter.unusedSimpArgs false
set_option linter.unusedVariables false
set_option maxHeartbeats 4000000
set_option maxRecDepth 100000
namespace Lp
open Go Go.RowKit Go.Proofs
namespace HdYtheccaeefigajaaGreatDoorV115
theorem zaB (b o:Nat):∀ w,(Instr.fieldAt 27 (.pointer (some ⟨b,o,none⟩)) 0).run Tryz.prog w=.ok (.pointer (some ⟨b,o+0,none⟩)) w:=fun _=>by kernel_rfl
theorem zaA (b o:Nat):∀ w,(Instr.fieldAt 27 (.pointer (some ⟨b,o,none⟩)) 1).run Tryz.prog w=.ok (.pointer (some ⟨b,o+1,none⟩)) w:=fun _=>by kernel_rfl
theorem zaD (b o:Nat):∀ w,(Instr.fieldAt 27 (.pointer (some ⟨b,o,none⟩)) 2).run Tryz.prog w=.ok (.pointer (some ⟨b,o+2,none⟩)) w:=fun _=>by kernel_rfl
theorem zdu (b o:Nat):∀ w,(Instr.fieldAt 27 (.pointer (some ⟨b,o,none⟩)) 3).run Tryz.prog w=.ok (.pointer (some ⟨b,o+3,none⟩)) w:=fun _=>by kernel_rfl
theorem zap (b o:Nat):∀ w,(Instr.fieldAt 27 (.pointer (some ⟨b,o,none⟩)) 6).run Tryz.prog w=.ok (.pointer (some ⟨b,o+6,none⟩)) w:=fun _=>by kernel_rfl
theorem zcI:∃ i,Tryz.prog.info? 9=some i∧i.zero=some (.string ByteArray.empty)∧i.size=1∧i.bytes=16:=zbq (by kernel_rfl)
theorem zcE:Tryz.prog.underlying 23=some (.slice 9):=by kernel_rfl
end HdYtheccaeefigajaaGreatDoorV115
open HdYtheccaeefigajaaGreatDoorV115
def of7S (n:Nat):Int:=if 0<n then 3 else 2
def of7F (k:Int):Int:=if k=3 then 2 else 0
def of7A (text:ByteArray) (n:Nat) (k:Int):Int:=if k≠2∨(text=nQ∧100<n)∨(text=nTop∧(n<1∨2000<n)) then 0 else 2
def of7N (k:Int):Int:=if k=3 then 0 else k
def of7B (mode a b:Int):Int:=if a=0∨b=0∨a=3∨b=3∨(0<mode∧(a≠2∨b≠2)) then 0 else max a b
theorem of7_num (text:ByteArray) (n:Nat) (mode:Int) (names:List ByteArray) (ms:List MatD) :
 CD Tryz.prog 16 [] [.agg [.s (⟨#[110,117,109]⟩:ByteArray),.s text,dN n,dI mode,.sh 1 (names.map D.s),.sh 3 (ms.map MatD.d),.sh 7 []]] (isR (dI (1))):=by
 refine zp Tryz.func16 J (N:=106) J J (fun C=>?_)
 refine jk [0] J ?_
 refine JD.bd 0 J (fun bd0=>?_)
 refine jT J (oE J (zaY J (CellD.agg)) ?_)
 rintro _ _ ⟨g1,rfl,rfl⟩
 refine oR 1 J (oZ J (jS J (jT J (oP J (zd J zaB J) (oP J (ze J (i:=0) J Tryz.isAgg9 J) (oZ J (jB J (jT J (oP J (zQ J J (decide_eq_true (by decide))) (oR 1 rfl (oZ rfl (jCt rfl (jT rfl (oR 1 rfl (oZ rfl (zn rfl (zo (zk ?_))))))))))))))))))
 exact zh Tryz.results16 (.cons (zl J) .nil) J HSub.none ⟨rfl,J⟩
theorem of7_neg (text:ByteArray) (n:Nat) (mode:Int) (names:List ByteArray) (ms:List MatD) (xa xb:ByteArray) (xc xd:Int) (xe:List ByteArray) (xf:List MatD) (xg:List Nd) (kx:Int)  (hkx:CD Tryz.prog 16 [] [.agg [.s xa,.s xb,dI xc,dI xd,.sh 1 (xe.map D.s),.sh 3 (xf.map MatD.d),.sh 7 (Nd.ds xg)]] (isR (dI kx))):
 CD Tryz.prog 16 [] [.agg [.s (⟨#[110,101,103]⟩:ByteArray),.s text,dN n,dI mode,.sh 1 (names.map D.s),.sh 3 (ms.map MatD.d),.sh 7 [.agg [.s xa,.s xb,dI xc,dI xd,.sh 1 (xe.map D.s),.sh 3 (xf.map MatD.d),.sh 7 (Nd.ds xg)]]]] (isR (dI (of7N kx))):=by
 refine zp Tryz.func16 J (N:=106) J J (fun C=>?_)
 refine jk [0] J ?_
 refine JD.bd 0 J (fun bd0=>?_)
 refine jT J (oE J (zaY J (CellD.agg)) ?_)
 rintro _ _ ⟨g1,rfl,rfl⟩
 refine oR 1 J (oZ J (jS J (jT J (oP J (zd J zaB J) (oP J (ze J (i:=0) J Tryz.isAgg9 J) (oZ J (jB J (jT J (oP J (zQ J J (decide_eq_false (by decide))) (oR 1 rfl (oZ rfl (jCf rfl (jT rfl (oP rfl (zQ rfl rfl (decide_eq_false (by decide))) (oR 1 rfl (oZ rfl (jCf rfl (jT rfl (oP rfl (zQ rfl rfl (decide_eq_false (by decide))) (oR 1 rfl (oZ rfl (jCf rfl (jT rfl (oP rfl (zQ rfl rfl (decide_eq_false (by decide))) (oR 1 rfl (oZ rfl (jk [1,2,7,23] rfl (jCf rfl (jT rfl (oP rfl (zQ rfl rfl (decide_eq_true (by decide))) (oR 1 rfl (oZ rfl (jCt rfl (jT rfl (oP rfl (zd rfl zap rfl) (oP rfl (ze rfl (i:=0) rfl Tryz.isAgg25 rfl) (oP rfl (zI (k:=0) rfl rfl Tryz.runUnderlying25 Tryz.sizeOf27 (by first | rfl | omega) rfl) (oP rfl (zan (d:=.agg [.s xa,.s xb,dI xc,dI xd,.sh 1 (xe.map D.s),.sh 3 (xf.map MatD.d),.sh 7 (Nd.ds xg)]) rfl Tryz.isAgg27 Tryz.sizeOf27 rfl rfl) (oW rfl rfl acs Tryz.call16 (hkx) (oR 1 rfl (oZ rfl (jk [1,2,3] rfl (jS rfl (jT rfl (oR 1 rfl (oP rfl (zD rfl rfl rfl) (oZ rfl ?_)))))))))))))))))))))))))))))))))))))))))))))))
 refine jD J (fun hc2=>?_) (fun hc2=>?_)
 · skip
   refine jT J (oR 1 J (oZ J (zn J (zk (zo (zk ?_))))))
   exact zh Tryz.results16 (.cons (zx (zl rfl) (Cv.eq (congrArg (fun n=>D.v (.int .i64 n)) (by unfold of7N;have h:=hc2;first | (rw[if_pos (by first | exact h | omega | (rcases h with (h | h) | h;exact .inl h;exact .inr (.inl ⟨h.1,by have:=h.2;omega⟩);exact .inr (.inr ⟨h.1,by have:=h.2;omega⟩)))]) | (rw[if_neg (by first | exact h | omega | (rintro (k | k | k);exact k h.1.1;(rcases h.1.2 with q | q;exact q k.1;exact q (by have:=k.2;omega));(rcases h.2 with q | q;exact q k.1;(have:=k.2;omega))))]))))) .nil) rfl HSub.none ⟨rfl,rfl⟩
 · skip
   refine zt J (zj (jT J (oR 2 J (oZ J (zn J (zo (zk ?_)))))))
   exact zh Tryz.results16 (.cons (zx (zl rfl) (Cv.eq (congrArg (fun n=>D.v (.int .i64 n)) (by unfold of7N;have h:=hc2;first | (rw[if_pos (by first | exact h | omega | (rcases h with (h | h) | h;exact .inl h;exact .inr (.inl ⟨h.1,by have:=h.2;omega⟩);exact .inr (.inr ⟨h.1,by have:=h.2;omega⟩)))]) | (rw[if_neg (by first | exact h | omega | (rintro (k | k | k);exact k h.1.1;(rcases h.1.2 with q | q;exact q k.1;exact q (by have:=k.2;omega));(rcases h.2 with q | q;exact q k.1;(have:=k.2;omega))))]))))) .nil) rfl HSub.none ⟨rfl,rfl⟩
theorem of7_bin (text:ByteArray) (n:Nat) (mode:Int) (names:List ByteArray) (ms:List MatD) (xa xb:ByteArray) (xc xd:Int) (xe:List ByteArray) (xf:List MatD) (xg:List Nd) (ya yb:ByteArray) (yc yd:Int) (ye:List ByteArray) (yf:List MatD) (yg:List Nd) (kx:Int) (ky:Int)  (hkx:CD Tryz.prog 16 [] [.agg [.s xa,.s xb,dI xc,dI xd,.sh 1 (xe.map D.s),.sh 3 (xf.map MatD.d),.sh 7 (Nd.ds xg)]] (isR (dI kx))) (hky:CD Tryz.prog 16 [] [.agg [.s ya,.s yb,dI yc,dI yd,.sh 1 (ye.map D.s),.sh 3 (yf.map MatD.d),.sh 7 (Nd.ds yg)]] (isR (dI ky))):
 CD Tryz.prog 16 [] [.agg [.s (⟨#[98,105,110]⟩:ByteArray),.s text,dN n,dI mode,.sh 1 (names.map D.s),.sh 3 (ms.map MatD.d),.sh 7 [.agg [.s xa,.s xb,dI xc,dI xd,.sh 1 (xe.map D.s),.sh 3 (xf.map MatD.d),.sh 7 (Nd.ds xg)],.agg [.s ya,.s yb,dI yc,dI yd,.sh 1 (ye.map D.s),.sh 3 (yf.map MatD.d),.sh 7 (Nd.ds yg)]]]] (isR (dI (of7B mode kx ky))):=by
 refine zp Tryz.func16 J (N:=106) J J (fun C=>?_)
 refine jk [0] J ?_
 refine JD.bd 0 J (fun bd0=>?_)
 refine jT J (oE J (zaY J (CellD.agg)) ?_)
 rintro _ _ ⟨g1,rfl,rfl⟩
 refine oR 1 J (oZ J (jS J (jT J (oP J (zd J zaB J) (oP J (ze J (i:=0) J Tryz.isAgg9 J) (oZ J (jB J (jT J (oP J (zQ J J (decide_eq_false (by decide))) (oR 1 rfl (oZ rfl (jCf rfl (jT rfl (oP rfl (zQ rfl rfl (decide_eq_false (by decide))) (oR 1 rfl (oZ rfl (jCf rfl (jT rfl (oP rfl (zQ rfl rfl (decide_eq_false (by decide))) (oR 1 rfl (oZ rfl (jCf rfl (jT rfl (oP rfl (zQ rfl rfl (decide_eq_false (by decide))) (oR 1 rfl (oZ rfl (jk [1,2,7,23] rfl (jCf rfl (jT rfl (oP rfl (zQ rfl rfl (decide_eq_false (by decide))) (oR 1 rfl (oZ rfl (jCf rfl (zt rfl (zB (zj (jS rfl (jk [1,2,7,23,56,57] rfl (jn rfl ?_)))))))))))))))))))))))))))))))))))))))
 refine zaX 9 [(66,dP g1 6,none),(67,.sh 7 [.agg [.s xa,.s xb,dI xc,dI xd,.sh 1 (xe.map D.s),.sh 3 (xf.map MatD.d),.sh 7 (Nd.ds xg)],.agg [.s ya,.s yb,dI yc,dI yd,.sh 1 (ye.map D.s),.sh 3 (yf.map MatD.d),.sh 7 (Nd.ds yg)]],none),(68,.el (.agg [.s xa,.s xb,dI xc,dI xd,.sh 1 (xe.map D.s),.sh 3 (xf.map MatD.d),.sh 7 (Nd.ds xg)]) 0,none),(69,.agg [.s xa,.s xb,dI xc,dI xd,.sh 1 (xe.map D.s),.sh 3 (xf.map MatD.d),.sh 7 (Nd.ds xg)],none),(70,dI kx,none),(71,dP g1 6,none),(72,.sh 7 [.agg [.s xa,.s xb,dI xc,dI xd,.sh 1 (xe.map D.s),.sh 3 (xf.map MatD.d),.sh 7 (Nd.ds xg)],.agg [.s ya,.s yb,dI yc,dI yd,.sh 1 (ye.map D.s),.sh 3 (yf.map MatD.d),.sh 7 (Nd.ds yg)]],none),(73,.el (.agg [.s ya,.s yb,dI yc,dI yd,.sh 1 (ye.map D.s),.sh 3 (yf.map MatD.d),.sh 7 (Nd.ds yg)]) 0,none),(74,.agg [.s ya,.s yb,dI yc,dI yd,.sh 1 (ye.map D.s),.sh 3 (yf.map MatD.d),.sh 7 (Nd.ds yg)],none)] [.bx g1 27 (.agg [.s (⟨#[98,105,110]⟩:ByteArray),.s text,dN n,dI mode,.sh 1 (names.map D.s),.sh 3 (ms.map MatD.d),.sh 7 [.agg [.s xa,.s xb,dI xc,dI xd,.sh 1 (xe.map D.s),.sh 3 (xf.map MatD.d),.sh 7 (Nd.ds xg)],.agg [.s ya,.s yb,dI yc,dI yd,.sh 1 (ye.map D.s),.sh 3 (yf.map MatD.d),.sh 7 (Nd.ds yg)]]])] (Hn:=[.bx g1 27 (.agg [.s (⟨#[98,105,110]⟩:ByteArray),.s text,dN n,dI mode,.sh 1 (names.map D.s),.sh 3 (ms.map MatD.d),.sh 7 [.agg [.s xa,.s xb,dI xc,dI xd,.sh 1 (xe.map D.s),.sh 3 (xf.map MatD.d),.sh 7 (Nd.ds xg)],.agg [.s ya,.s yb,dI yc,dI yd,.sh 1 (ye.map D.s),.sh 3 (yf.map MatD.d),.sh 7 (Nd.ds yg)]]])]) mixed J J J J HSub.rfl' J ⟨sa_p J J J (zd J zap J),sa_p J J J (ze J (i:=0) J Tryz.isAgg25 J),sa_p J J J (zI (k:=0) J J Tryz.runUnderlying25 Tryz.sizeOf27 (by first | rfl | omega) rfl),sa_p rfl rfl rfl (zan (d:=.agg [.s xa,.s xb,dI xc,dI xd,.sh 1 (xe.map D.s),.sh 3 (xf.map MatD.d),.sh 7 (Nd.ds xg)]) rfl Tryz.isAgg27 Tryz.sizeOf27 rfl rfl),sa_q rfl rfl rfl (zbS rfl (.cons Cv.rfl' .nil) Tryz.call16 (hkx) zb4),sa_p rfl rfl rfl (zd rfl zap rfl),sa_p rfl rfl rfl (ze rfl (i:=0) rfl Tryz.isAgg25 rfl),sa_p rfl rfl rfl (zI (k:=1) rfl rfl Tryz.runUnderlying25 Tryz.sizeOf27 (by first | rfl | omega) rfl),sa_p rfl rfl rfl (zan (d:=.agg [.s ya,.s yb,dI yc,dI yd,.sh 1 (ye.map D.s),.sh 3 (yf.map MatD.d),.sh 7 (Nd.ds yg)]) rfl Tryz.isAgg27 Tryz.sizeOf27 rfl rfl),trivial⟩ ?_
 refine ok [1,2,7,23,56,57,66,67,68,69,70,71,72,73,74] J (oW J J acs Tryz.call16 (hky) (oR 2 J (oZ J (jk [1,2,4,5] J (jS J (jS J (jk [1,2,4,5] J ?_)))))))
 refine zR 102 (((((decide (kx=(0:Int))||decide (ky=(0:Int)))||decide (kx=(3:Int)))||decide (ky=(3:Int)))||(decide ((0:Int)<mode)&&(decide (kx≠(2:Int))||decide (ky≠(2:Int)))))) [.bx g1 27 (.agg [.s (⟨#[98,105,110]⟩:ByteArray),.s text,dN n,dI mode,.sh 1 (names.map D.s),.sh 3 (ms.map MatD.d),.sh 7 [.agg [.s xa,.s xb,dI xc,dI xd,.sh 1 (xe.map D.s),.sh 3 (xf.map MatD.d),.sh 7 (Nd.ds xg)],.agg [.s ya,.s yb,dI yc,dI yd,.sh 1 (ye.map D.s),.sh 3 (yf.map MatD.d),.sh 7 (Nd.ds yg)]]])] (fun _ hQ2=>?_) ?_
 · skip
   by_cases hg3:kx=(0:Int)
   · skip
     refine zf J (oR 1 J (oP J (zD J J (decide_eq_true hg3)) (oR 25 J (zq J ?_))))
     exact PD.sub ((102,dB ((((decide (kx=(0:Int))||decide (ky=(0:Int)))||decide (kx=(3:Int)))||decide (ky=(3:Int)))||(decide ((0:Int)<mode)&&(decide (kx≠(2:Int))||decide (ky≠(2:Int))))))::[(1,dP g1 0),(2,dI 0),(4,dI kx),(5,dI ky)]) ⟨sc J (Cv.eq (congrArg (fun b=>D.v (.bool b)) (by first | (simp[hg3];done) | (simp_all;done) | (simp_all;exact Iff.rfl)))),sk rfl,sk rfl,sk rfl,sk rfl,trivial⟩ hQ2
   · skip
     by_cases hg4:ky=(0:Int)
     · skip
       refine zf J (oR 1 J (oP J (zD J J (decide_eq_false hg3)) (oR 2 J (oG J (zD J J (decide_eq_true hg4)) (oR 22 J (zq J ?_))))))
       exact PD.sub ((102,dB ((((decide (kx=(0:Int))||decide (ky=(0:Int)))||decide (kx=(3:Int)))||decide (ky=(3:Int)))||(decide ((0:Int)<mode)&&(decide (kx≠(2:Int))||decide (ky≠(2:Int))))))::[(1,dP g1 0),(2,dI 0),(4,dI kx),(5,dI ky)]) ⟨sc J (Cv.eq (congrArg (fun b=>D.v (.bool b)) (by first | (simp[hg3,hg4];done) | (simp_all;done) | (simp_all;exact Iff.rfl)))),sk rfl,sk rfl,sk rfl,sk rfl,trivial⟩ hQ2
     · skip
       by_cases hg5:kx=(3:Int)
       · skip
         refine zf J (oR 1 J (oP J (zD J J (decide_eq_false hg3)) (oR 2 J (oG J (zD J J (decide_eq_false hg4)) (oR 3 J (oG J (zD J J (decide_eq_true hg5)) (oR 18 J (zq J ?_))))))))
         exact PD.sub ((102,dB ((((decide (kx=(0:Int))||decide (ky=(0:Int)))||decide (kx=(3:Int)))||decide (ky=(3:Int)))||(decide ((0:Int)<mode)&&(decide (kx≠(2:Int))||decide (ky≠(2:Int))))))::[(1,dP g1 0),(2,dI 0),(4,dI kx),(5,dI ky)]) ⟨sc J (Cv.eq (congrArg (fun b=>D.v (.bool b)) (by first | (simp[hg3,hg4,hg5];done) | (simp_all;done) | (simp_all;exact Iff.rfl)))),sk rfl,sk rfl,sk rfl,sk rfl,trivial⟩ hQ2
       · skip
         by_cases hg6:ky=(3:Int)
         · skip
           refine zf J (oR 1 J (oP J (zD J J (decide_eq_false hg3)) (oR 2 J (oG J (zD J J (decide_eq_false hg4)) (oR 3 J (oG J (zD J J (decide_eq_false hg5)) (oR 3 J (oG J (zD J J (decide_eq_true hg6)) (oR 14 J (zq J ?_))))))))))
           exact PD.sub ((102,dB ((((decide (kx=(0:Int))||decide (ky=(0:Int)))||decide (kx=(3:Int)))||decide (ky=(3:Int)))||(decide ((0:Int)<mode)&&(decide (kx≠(2:Int))||decide (ky≠(2:Int))))))::[(1,dP g1 0),(2,dI 0),(4,dI kx),(5,dI ky)]) ⟨sc J (Cv.eq (congrArg (fun b=>D.v (.bool b)) (by first | (simp[hg3,hg4,hg5,hg6];done) | (simp_all;done) | (simp_all;exact Iff.rfl)))),sk rfl,sk rfl,sk rfl,sk rfl,trivial⟩ hQ2
         · skip
           by_cases hg7:(0:Int)<mode
           · skip
             by_cases hg8:kx≠(2:Int)
             · skip
               refine zf J (oR 1 J (oP J (zD J J (decide_eq_false hg3)) (oR 2 J (oG J (zD J J (decide_eq_false hg4)) (oR 3 J (oG J (zD J J (decide_eq_false hg5)) (oR 3 J (oG J (zD J J (decide_eq_false hg6)) (oR 2 J (oG J (zd J zdu J) (oG J (ze J (i:=0) J Tryz.isAgg3 J) (oG J (zaF J J (decide_eq_true hg7)) (oR 2 J (oG J (za2 J J (decide_eq_true hg8)) (oR 6 J (zq J ?_))))))))))))))))
               exact PD.sub ((102,dB ((((decide (kx=(0:Int))||decide (ky=(0:Int)))||decide (kx=(3:Int)))||decide (ky=(3:Int)))||(decide ((0:Int)<mode)&&(decide (kx≠(2:Int))||decide (ky≠(2:Int))))))::[(1,dP g1 0),(2,dI 0),(4,dI kx),(5,dI ky)]) ⟨sc J (Cv.eq (congrArg (fun b=>D.v (.bool b)) (by first | (simp[hg3,hg4,hg5,hg6,hg7,hg8];done) | (simp_all;done) | (simp_all;exact Iff.rfl)))),sk rfl,sk rfl,sk rfl,sk rfl,trivial⟩ hQ2
             · skip
               refine zf J (oR 1 J (oP J (zD J J (decide_eq_false hg3)) (oR 2 J (oG J (zD J J (decide_eq_false hg4)) (oR 3 J (oG J (zD J J (decide_eq_false hg5)) (oR 3 J (oG J (zD J J (decide_eq_false hg6)) (oR 2 J (oG J (zd J zdu J) (oG J (ze J (i:=0) J Tryz.isAgg3 J) (oG J (zaF J J (decide_eq_true hg7)) (oR 2 J (oG J (za2 J J (decide_eq_false hg8)) (oR 2 J (oG J (za2 J J J) (oR 3 J (zq J ?_))))))))))))))))))
               exact PD.sub ((102,dB ((((decide (kx=(0:Int))||decide (ky=(0:Int)))||decide (kx=(3:Int)))||decide (ky=(3:Int)))||(decide ((0:Int)<mode)&&(decide (kx≠(2:Int))||decide (ky≠(2:Int))))))::[(1,dP g1 0),(2,dI 0),(4,dI kx),(5,dI ky)]) ⟨sc J (Cv.eq (congrArg (fun b=>D.v (.bool b)) (by first | (simp[hg3,hg4,hg5,hg6,hg7,hg8];done) | (simp_all;done) | (simp_all;exact Iff.rfl)))),sk rfl,sk rfl,sk rfl,sk rfl,trivial⟩ hQ2
           · skip
             refine zf J (oR 1 J (oP J (zD J J (decide_eq_false hg3)) (oR 2 J (oG J (zD J J (decide_eq_false hg4)) (oR 3 J (oG J (zD J J (decide_eq_false hg5)) (oR 3 J (oG J (zD J J (decide_eq_false hg6)) (oR 2 J (oG J (zd J zdu J) (oG J (ze J (i:=0) J Tryz.isAgg3 J) (oG J (zaF J J (decide_eq_false hg7)) (oR 9 J (zq J ?_))))))))))))))
             exact PD.sub ((102,dB ((((decide (kx=(0:Int))||decide (ky=(0:Int)))||decide (kx=(3:Int)))||decide (ky=(3:Int)))||(decide ((0:Int)<mode)&&(decide (kx≠(2:Int))||decide (ky≠(2:Int))))))::[(1,dP g1 0),(2,dI 0),(4,dI kx),(5,dI ky)]) ⟨sc J (Cv.eq (congrArg (fun b=>D.v (.bool b)) (by first | (simp[hg3,hg4,hg5,hg6,hg7];done) | (simp_all;done) | (simp_all;exact Iff.rfl)))),sk rfl,sk rfl,sk rfl,sk rfl,trivial⟩ hQ2
 · skip
   refine zj ?_
   refine jC J (fun hc9=>?_) (fun hc9=>?_)
   · simp only[bA,bB,bC,bD,bE,bF,bG,bH,bI,bJ] at hc9
     refine jT J (oR 1 J (oZ J (zn J (zk ?_))))
     exact zh Tryz.results16 (.cons (zx (zl rfl) (Cv.eq (congrArg (fun n=>D.v (.int .i64 n)) (by unfold of7B;have h:=hc9;first | (rw[if_pos (by first | exact h | omega | (rcases h with (h | h) | h;exact .inl h;exact .inr (.inl ⟨h.1,by have:=h.2;omega⟩);exact .inr (.inr ⟨h.1,by have:=h.2;omega⟩)))]) | (rw[if_neg (by first | exact h | omega | (rintro (k | k | k);exact k h.1.1;(rcases h.1.2 with q | q;exact q k.1;exact q (by have:=k.2;omega));(rcases h.2 with q | q;exact q k.1;(have:=k.2;omega))))]))))) .nil) rfl HSub.none ⟨rfl,rfl⟩
   · simp only[bA,bB,bC,bD,bE,bF,bG,bH,bI,bJ] at hc9
     refine zt J (zj (jT J (oR 2 J (oP J (p_max J J J) (oR 1 J (oZ J (zn J ?_)))))))
     exact zh Tryz.results16 (.cons (zx (zl rfl) (Cv.eq (congrArg (fun n=>D.v (.int .i64 n)) (by unfold of7B;have h:=hc9;first | (rw[if_pos (by first | exact h | omega | (rcases h with (h | h) | h;exact .inl h;exact .inr (.inl ⟨h.1,by have:=h.2;omega⟩);exact .inr (.inr ⟨h.1,by have:=h.2;omega⟩)))]) | (rw[if_neg (by first | exact h | omega | (rintro (k | k | k);exact k h.1.1;(rcases h.1.2 with q | q;exact q k.1;exact q (by have:=k.2;omega));(rcases h.2 with q | q;exact q k.1;(have:=k.2;omega))))]))))) .nil) rfl HSub.none ⟨rfl,rfl⟩
theorem of7_agg (text:ByteArray) (n:Nat) (mode:Int) (names:List ByteArray) (ms:List MatD) (xa xb:ByteArray) (xc xd:Int) (xe:List ByteArray) (xf:List MatD) (xg:List Nd) (kx:Int)  (hkx:CD Tryz.prog 16 [] [.agg [.s xa,.s xb,dI xc,dI xd,.sh 1 (xe.map D.s),.sh 3 (xf.map MatD.d),.sh 7 (Nd.ds xg)]] (isR (dI kx))):
 CD Tryz.prog 16 [] [.agg [.s (⟨#[97,103,103]⟩:ByteArray),.s text,dN n,dI mode,.sh 1 (names.map D.s),.sh 3 (ms.map MatD.d),.sh 7 [.agg [.s xa,.s xb,dI xc,dI xd,.sh 1 (xe.map D.s),.sh 3 (xf.map MatD.d),.sh 7 (Nd.ds xg)]]]] (isR (dI (of7A text n kx))):=by
 refine zp Tryz.func16 J (N:=106) J J (fun C=>?_)
 refine jk [0] J ?_
 refine JD.bd 0 J (fun bd0=>?_)
 refine jT J (oE J (zaY J (CellD.agg)) ?_)
 rintro _ _ ⟨g1,rfl,rfl⟩
 refine oR 1 J (oZ J (jS J (jT J (oP J (zd J zaB J) (oP J (ze J (i:=0) J Tryz.isAgg9 J) (oZ J (jB J (jT J (oP J (zQ J J (decide_eq_false (by decide))) (oR 1 rfl (oZ rfl (jCf rfl (jT rfl (oP rfl (zQ rfl rfl (decide_eq_false (by decide))) (oR 1 rfl (oZ rfl (jCf rfl (jT rfl (oP rfl (zQ rfl rfl (decide_eq_false (by decide))) (oR 1 rfl (oZ rfl (jCf rfl (jT rfl (oP rfl (zQ rfl rfl (decide_eq_true (by decide))) (oR 1 rfl (oZ rfl (jk [1,2,7,23] rfl (jCt rfl (jS rfl (jS rfl (jk [1,2] rfl ?_)))))))))))))))))))))))))))))))
 refine zR 55 (((decide (kx≠(2:Int))||(decide (text=(⟨#[113,117,97,110,116,105,108,101]⟩:ByteArray))&&decide ((100:Int)<((n:Nat):Int))))||(decide (text=(⟨#[116,111,112,107]⟩:ByteArray))&&(decide (((n:Nat):Int)<(1:Int))||decide ((2000:Int)<((n:Nat):Int)))))) [.bx g1 27 (.agg [.s (⟨#[97,103,103]⟩:ByteArray),.s text,dN n,dI mode,.sh 1 (names.map D.s),.sh 3 (ms.map MatD.d),.sh 7 [.agg [.s xa,.s xb,dI xc,dI xd,.sh 1 (xe.map D.s),.sh 3 (xf.map MatD.d),.sh 7 (Nd.ds xg)]]])] (fun _ hQ2=>?_) ?_
 · skip
   by_cases hg3:kx≠(2:Int)
   · skip
     refine zf J (oP J (zd J zap J) (oP J (ze J (i:=0) J Tryz.isAgg25 J) (oP J (zI (k:=0) J J Tryz.runUnderlying25 Tryz.sizeOf27 (by first | rfl | omega) rfl) (oP rfl (zan (d:=.agg [.s xa,.s xb,dI xc,dI xd,.sh 1 (xe.map D.s),.sh 3 (xf.map MatD.d),.sh 7 (Nd.ds xg)]) rfl Tryz.isAgg27 Tryz.sizeOf27 rfl rfl) (oW rfl rfl acs Tryz.call16 (hkx) (oP rfl (za2 rfl rfl (decide_eq_true hg3)) (oR 25 rfl (zq rfl ?_))))))))
     exact PD.sub ((55,dB ((decide (kx≠(2:Int))||(decide (text=(⟨#[113,117,97,110,116,105,108,101]⟩:ByteArray))&&decide ((100:Int)<((n:Nat):Int))))||(decide (text=(⟨#[116,111,112,107]⟩:ByteArray))&&(decide (((n:Nat):Int)<(1:Int))||decide ((2000:Int)<((n:Nat):Int))))))::[(1,dP g1 0),(2,dI 0)]) ⟨sc J (Cv.eq (congrArg (fun b=>D.v (.bool b)) (by first | (simp[hg3];done) | (simp_all;done) | (simp_all;exact Iff.rfl)))),sk rfl,sk rfl,trivial⟩ hQ2
   · skip
     by_cases hg4:text=(⟨#[113,117,97,110,116,105,108,101]⟩:ByteArray)
     · skip
       by_cases hg5:(100:Int)<((n:Nat):Int)
       · skip
         refine zf J (oP J (zd J zap J) (oP J (ze J (i:=0) J Tryz.isAgg25 J) (oP J (zI (k:=0) J J Tryz.runUnderlying25 Tryz.sizeOf27 (by first | rfl | omega) rfl) (oP rfl (zan (d:=.agg [.s xa,.s xb,dI xc,dI xd,.sh 1 (xe.map D.s),.sh 3 (xf.map MatD.d),.sh 7 (Nd.ds xg)]) rfl Tryz.isAgg27 Tryz.sizeOf27 rfl rfl) (oW rfl rfl acs Tryz.call16 (hkx) (oP rfl (za2 rfl rfl (decide_eq_false hg3)) (oR 1 rfl (oG rfl (zd rfl zaA rfl) (oG rfl (ze rfl (i:=0) rfl Tryz.isAgg9 rfl) (oG rfl (zQ rfl rfl (decide_eq_true hg4)) (oR 1 rfl (oG rfl (zd rfl zaD rfl) (oG rfl (ze rfl (i:=0) rfl Tryz.isAgg3 rfl) (oG rfl (zaF rfl rfl (decide_eq_true hg5)) (oR 17 rfl (zq rfl ?_))))))))))))))))
         exact PD.sub ((55,dB ((decide (kx≠(2:Int))||(decide (text=(⟨#[113,117,97,110,116,105,108,101]⟩:ByteArray))&&decide ((100:Int)<((n:Nat):Int))))||(decide (text=(⟨#[116,111,112,107]⟩:ByteArray))&&(decide (((n:Nat):Int)<(1:Int))||decide ((2000:Int)<((n:Nat):Int))))))::[(1,dP g1 0),(2,dI 0)]) ⟨sc J (Cv.eq (congrArg (fun b=>D.v (.bool b)) (by first | (simp[hg3,hg4,hg5];done) | (simp_all;done) | (simp_all;exact Iff.rfl)))),sk rfl,sk rfl,trivial⟩ hQ2
       · skip
         by_cases hg6:text=(⟨#[116,111,112,107]⟩:ByteArray)
         · skip
           by_cases hg7:((n:Nat):Int)<(1:Int)
           · skip
             refine zf J (oP J (zd J zap J) (oP J (ze J (i:=0) J Tryz.isAgg25 J) (oP J (zI (k:=0) J J Tryz.runUnderlying25 Tryz.sizeOf27 (by first | rfl | omega) rfl) (oP rfl (zan (d:=.agg [.s xa,.s xb,dI xc,dI xd,.sh 1 (xe.map D.s),.sh 3 (xf.map MatD.d),.sh 7 (Nd.ds xg)]) rfl Tryz.isAgg27 Tryz.sizeOf27 rfl rfl) (oW rfl rfl acs Tryz.call16 (hkx) (oP rfl (za2 rfl rfl (decide_eq_false hg3)) (oR 1 rfl (oG rfl (zd rfl zaA rfl) (oG rfl (ze rfl (i:=0) rfl Tryz.isAgg9 rfl) (oG rfl (zQ rfl rfl (decide_eq_true hg4)) (oR 1 rfl (oG rfl (zd rfl zaD rfl) (oG rfl (ze rfl (i:=0) rfl Tryz.isAgg3 rfl) (oG rfl (zaF rfl rfl (decide_eq_false hg5)) (oR 3 rfl (oG rfl (zd rfl zaA rfl) (oG rfl (ze rfl (i:=0) rfl Tryz.isAgg9 rfl) (oG rfl (zQ rfl rfl (decide_eq_true hg6)) (oR 1 rfl (oG rfl (zd rfl zaD rfl) (oG rfl (ze rfl (i:=0) rfl Tryz.isAgg3 rfl) (oG rfl (zN rfl rfl (decide_eq_true hg7)) (oR 7 rfl (zq rfl ?_))))))))))))))))))))))))
             exact PD.sub ((55,dB ((decide (kx≠(2:Int))||(decide (text=(⟨#[113,117,97,110,116,105,108,101]⟩:ByteArray))&&decide ((100:Int)<((n:Nat):Int))))||(decide (text=(⟨#[116,111,112,107]⟩:ByteArray))&&(decide (((n:Nat):Int)<(1:Int))||decide ((2000:Int)<((n:Nat):Int))))))::[(1,dP g1 0),(2,dI 0)]) ⟨sc J (Cv.eq (congrArg (fun b=>D.v (.bool b)) (by first | (simp[hg3,hg4,hg5,hg6,hg7];done) | (simp_all;done) | (simp_all;exact Iff.rfl)))),sk rfl,sk rfl,trivial⟩ hQ2
           · skip
             refine zf J (oP J (zd J zap J) (oP J (ze J (i:=0) J Tryz.isAgg25 J) (oP J (zI (k:=0) J J Tryz.runUnderlying25 Tryz.sizeOf27 (by first | rfl | omega) rfl) (oP rfl (zan (d:=.agg [.s xa,.s xb,dI xc,dI xd,.sh 1 (xe.map D.s),.sh 3 (xf.map MatD.d),.sh 7 (Nd.ds xg)]) rfl Tryz.isAgg27 Tryz.sizeOf27 rfl rfl) (oW rfl rfl acs Tryz.call16 (hkx) (oP rfl (za2 rfl rfl (decide_eq_false hg3)) (oR 1 rfl (oG rfl (zd rfl zaA rfl) (oG rfl (ze rfl (i:=0) rfl Tryz.isAgg9 rfl) (oG rfl (zQ rfl rfl (decide_eq_true hg4)) (oR 1 rfl (oG rfl (zd rfl zaD rfl) (oG rfl (ze rfl (i:=0) rfl Tryz.isAgg3 rfl) (oG rfl (zaF rfl rfl (decide_eq_false hg5)) (oR 3 rfl (oG rfl (zd rfl zaA rfl) (oG rfl (ze rfl (i:=0) rfl Tryz.isAgg9 rfl) (oG rfl (zQ rfl rfl (decide_eq_true hg6)) (oR 1 rfl (oG rfl (zd rfl zaD rfl) (oG rfl (ze rfl (i:=0) rfl Tryz.isAgg3 rfl) (oG rfl (zN rfl rfl (decide_eq_false hg7)) (oR 1 rfl (oG rfl (zd rfl zaD rfl) (oG rfl (ze rfl (i:=0) rfl Tryz.isAgg3 rfl) (oG rfl (zaF rfl rfl rfl) (oR 3 rfl (zq rfl ?_))))))))))))))))))))))))))))
             exact PD.sub ((55,dB ((decide (kx≠(2:Int))||(decide (text=(⟨#[113,117,97,110,116,105,108,101]⟩:ByteArray))&&decide ((100:Int)<((n:Nat):Int))))||(decide (text=(⟨#[116,111,112,107]⟩:ByteArray))&&(decide (((n:Nat):Int)<(1:Int))||decide ((2000:Int)<((n:Nat):Int))))))::[(1,dP g1 0),(2,dI 0)]) ⟨sc J (Cv.eq (congrArg (fun b=>D.v (.bool b)) (by first | (simp[hg3,hg4,hg5,hg6,hg7];done) | (simp_all;done) | (simp_all;exact Iff.rfl)))),sk rfl,sk rfl,trivial⟩ hQ2
         · skip
           refine zf J (oP J (zd J zap J) (oP J (ze J (i:=0) J Tryz.isAgg25 J) (oP J (zI (k:=0) J J Tryz.runUnderlying25 Tryz.sizeOf27 (by first | rfl | omega) rfl) (oP rfl (zan (d:=.agg [.s xa,.s xb,dI xc,dI xd,.sh 1 (xe.map D.s),.sh 3 (xf.map MatD.d),.sh 7 (Nd.ds xg)]) rfl Tryz.isAgg27 Tryz.sizeOf27 rfl rfl) (oW rfl rfl acs Tryz.call16 (hkx) (oP rfl (za2 rfl rfl (decide_eq_false hg3)) (oR 1 rfl (oG rfl (zd rfl zaA rfl) (oG rfl (ze rfl (i:=0) rfl Tryz.isAgg9 rfl) (oG rfl (zQ rfl rfl (decide_eq_true hg4)) (oR 1 rfl (oG rfl (zd rfl zaD rfl) (oG rfl (ze rfl (i:=0) rfl Tryz.isAgg3 rfl) (oG rfl (zaF rfl rfl (decide_eq_false hg5)) (oR 3 rfl (oG rfl (zd rfl zaA rfl) (oG rfl (ze rfl (i:=0) rfl Tryz.isAgg9 rfl) (oG rfl (zQ rfl rfl (decide_eq_false hg6)) (oR 11 rfl (zq rfl ?_))))))))))))))))))))
           exact PD.sub ((55,dB ((decide (kx≠(2:Int))||(decide (text=(⟨#[113,117,97,110,116,105,108,101]⟩:ByteArray))&&decide ((100:Int)<((n:Nat):Int))))||(decide (text=(⟨#[116,111,112,107]⟩:ByteArray))&&(decide (((n:Nat):Int)<(1:Int))||decide ((2000:Int)<((n:Nat):Int))))))::[(1,dP g1 0),(2,dI 0)]) ⟨sc J (Cv.eq (congrArg (fun b=>D.v (.bool b)) (by first | (simp[hg3,hg4,hg5,hg6];done) | (simp_all;done) | (simp_all;exact Iff.rfl)))),sk rfl,sk rfl,trivial⟩ hQ2
     · skip
       by_cases hg8:text=(⟨#[116,111,112,107]⟩:ByteArray)
       · skip
         by_cases hg9:((n:Nat):Int)<(1:Int)
         · skip
           refine zf J (oP J (zd J zap J) (oP J (ze J (i:=0) J Tryz.isAgg25 J) (oP J (zI (k:=0) J J Tryz.runUnderlying25 Tryz.sizeOf27 (by first | rfl | omega) rfl) (oP rfl (zan (d:=.agg [.s xa,.s xb,dI xc,dI xd,.sh 1 (xe.map D.s),.sh 3 (xf.map MatD.d),.sh 7 (Nd.ds xg)]) rfl Tryz.isAgg27 Tryz.sizeOf27 rfl rfl) (oW rfl rfl acs Tryz.call16 (hkx) (oP rfl (za2 rfl rfl (decide_eq_false hg3)) (oR 1 rfl (oG rfl (zd rfl zaA rfl) (oG rfl (ze rfl (i:=0) rfl Tryz.isAgg9 rfl) (oG rfl (zQ rfl rfl (decide_eq_false hg4)) (oR 7 rfl (oG rfl (zd rfl zaA rfl) (oG rfl (ze rfl (i:=0) rfl Tryz.isAgg9 rfl) (oG rfl (zQ rfl rfl (decide_eq_true hg8)) (oR 1 rfl (oG rfl (zd rfl zaD rfl) (oG rfl (ze rfl (i:=0) rfl Tryz.isAgg3 rfl) (oG rfl (zN rfl rfl (decide_eq_true hg9)) (oR 7 rfl (zq rfl ?_))))))))))))))))))))
           exact PD.sub ((55,dB ((decide (kx≠(2:Int))||(decide (text=(⟨#[113,117,97,110,116,105,108,101]⟩:ByteArray))&&decide ((100:Int)<((n:Nat):Int))))||(decide (text=(⟨#[116,111,112,107]⟩:ByteArray))&&(decide (((n:Nat):Int)<(1:Int))||decide ((2000:Int)<((n:Nat):Int))))))::[(1,dP g1 0),(2,dI 0)]) ⟨sc J (Cv.eq (congrArg (fun b=>D.v (.bool b)) (by first | (simp[hg3,hg4,hg8,hg9];done) | (simp_all;done) | (simp_all;exact Iff.rfl)))),sk rfl,sk rfl,trivial⟩ hQ2
         · skip
           refine zf J (oP J (zd J zap J) (oP J (ze J (i:=0) J Tryz.isAgg25 J) (oP J (zI (k:=0) J J Tryz.runUnderlying25 Tryz.sizeOf27 (by first | rfl | omega) rfl) (oP rfl (zan (d:=.agg [.s xa,.s xb,dI xc,dI xd,.sh 1 (xe.map D.s),.sh 3 (xf.map MatD.d),.sh 7 (Nd.ds xg)]) rfl Tryz.isAgg27 Tryz.sizeOf27 rfl rfl) (oW rfl rfl acs Tryz.call16 (hkx) (oP rfl (za2 rfl rfl (decide_eq_false hg3)) (oR 1 rfl (oG rfl (zd rfl zaA rfl) (oG rfl (ze rfl (i:=0) rfl Tryz.isAgg9 rfl) (oG rfl (zQ rfl rfl (decide_eq_false hg4)) (oR 7 rfl (oG rfl (zd rfl zaA rfl) (oG rfl (ze rfl (i:=0) rfl Tryz.isAgg9 rfl) (oG rfl (zQ rfl rfl (decide_eq_true hg8)) (oR 1 rfl (oG rfl (zd rfl zaD rfl) (oG rfl (ze rfl (i:=0) rfl Tryz.isAgg3 rfl) (oG rfl (zN rfl rfl (decide_eq_false hg9)) (oR 1 rfl (oG rfl (zd rfl zaD rfl) (oG rfl (ze rfl (i:=0) rfl Tryz.isAgg3 rfl) (oG rfl (zaF rfl rfl rfl) (oR 3 rfl (zq rfl ?_))))))))))))))))))))))))
           exact PD.sub ((55,dB ((decide (kx≠(2:Int))||(decide (text=(⟨#[113,117,97,110,116,105,108,101]⟩:ByteArray))&&decide ((100:Int)<((n:Nat):Int))))||(decide (text=(⟨#[116,111,112,107]⟩:ByteArray))&&(decide (((n:Nat):Int)<(1:Int))||decide ((2000:Int)<((n:Nat):Int))))))::[(1,dP g1 0),(2,dI 0)]) ⟨sc J (Cv.eq (congrArg (fun b=>D.v (.bool b)) (by first | (simp[hg3,hg4,hg8,hg9];done) | (simp_all;done) | (simp_all;exact Iff.rfl)))),sk rfl,sk rfl,trivial⟩ hQ2
       · skip
         refine zf J (oP J (zd J zap J) (oP J (ze J (i:=0) J Tryz.isAgg25 J) (oP J (zI (k:=0) J J Tryz.runUnderlying25 Tryz.sizeOf27 (by first | rfl | omega) rfl) (oP rfl (zan (d:=.agg [.s xa,.s xb,dI xc,dI xd,.sh 1 (xe.map D.s),.sh 3 (xf.map MatD.d),.sh 7 (Nd.ds xg)]) rfl Tryz.isAgg27 Tryz.sizeOf27 rfl rfl) (oW rfl rfl acs Tryz.call16 (hkx) (oP rfl (za2 rfl rfl (decide_eq_false hg3)) (oR 1 rfl (oG rfl (zd rfl zaA rfl) (oG rfl (ze rfl (i:=0) rfl Tryz.isAgg9 rfl) (oG rfl (zQ rfl rfl (decide_eq_false hg4)) (oR 7 rfl (oG rfl (zd rfl zaA rfl) (oG rfl (ze rfl (i:=0) rfl Tryz.isAgg9 rfl) (oG rfl (zQ rfl rfl (decide_eq_false hg8)) (oR 11 rfl (zq rfl ?_))))))))))))))))
         exact PD.sub ((55,dB ((decide (kx≠(2:Int))||(decide (text=(⟨#[113,117,97,110,116,105,108,101]⟩:ByteArray))&&decide ((100:Int)<((n:Nat):Int))))||(decide (text=(⟨#[116,111,112,107]⟩:ByteArray))&&(decide (((n:Nat):Int)<(1:Int))||decide ((2000:Int)<((n:Nat):Int))))))::[(1,dP g1 0),(2,dI 0)]) ⟨sc J (Cv.eq (congrArg (fun b=>D.v (.bool b)) (by first | (simp[hg3,hg4,hg8];done) | (simp_all;done) | (simp_all;exact Iff.rfl)))),sk rfl,sk rfl,trivial⟩ hQ2
 · skip
   refine zj ?_
   refine jC J (fun hc10=>?_) (fun hc10=>?_)
   · simp only[bA,bB,bC,bD,bE,bF,bG,bH,bI,bJ] at hc10
     refine jT J (oR 1 J (oZ J (zn J (zk (zo (zk ?_))))))
     exact zh Tryz.results16 (.cons (zx (zl rfl) (Cv.eq (congrArg (fun n=>D.v (.int .i64 n)) (by unfold of7A;have h:=hc10;first | (rw[if_pos (by first | exact h | omega | (rcases h with (h | h) | h;exact .inl h;exact .inr (.inl ⟨h.1,by have:=h.2;omega⟩);exact .inr (.inr ⟨h.1,by have:=h.2;omega⟩)))]) | (rw[if_neg (by first | exact h | omega | (rintro (k | k | k);exact k h.1.1;(rcases h.1.2 with q | q;exact q k.1;exact q (by have:=k.2;omega));(rcases h.2 with q | q;exact q k.1;(have:=k.2;omega))))]))))) .nil) rfl HSub.none ⟨rfl,rfl⟩
   · simp only[bA,bB,bC,bD,bE,bF,bG,bH,bI,bJ] at hc10
     refine zt J (zj (jT J (oR 1 J (oZ J (zn J (zo (zk ?_)))))))
     exact zh Tryz.results16 (.cons (zx (zl rfl) (Cv.eq (congrArg (fun n=>D.v (.int .i64 n)) (by unfold of7A;have h:=hc10;first | (rw[if_pos (by first | exact h | omega | (rcases h with (h | h) | h;exact .inl h;exact .inr (.inl ⟨h.1,by have:=h.2;omega⟩);exact .inr (.inr ⟨h.1,by have:=h.2;omega⟩)))]) | (rw[if_neg (by first | exact h | omega | (rintro (k | k | k);exact k h.1.1;(rcases h.1.2 with q | q;exact q k.1;exact q (by have:=k.2;omega));(rcases h.2 with q | q;exact q k.1;(have:=k.2;omega))))]))))) .nil) rfl HSub.none ⟨rfl,rfl⟩
theorem of7_fn (text:ByteArray) (n:Nat) (mode:Int) (names:List ByteArray) (ms:List MatD) (xa xb:ByteArray) (xc xd:Int) (xe:List ByteArray) (xf:List MatD) (xg:List Nd) (kx:Int)  (hkx:CD Tryz.prog 16 [] [.agg [.s xa,.s xb,dI xc,dI xd,.sh 1 (xe.map D.s),.sh 3 (xf.map MatD.d),.sh 7 (Nd.ds xg)]] (isR (dI kx))):
 CD Tryz.prog 16 [] [.agg [.s (⟨#[102,110]⟩:ByteArray),.s text,dN n,dI mode,.sh 1 (names.map D.s),.sh 3 (ms.map MatD.d),.sh 7 [.agg [.s xa,.s xb,dI xc,dI xd,.sh 1 (xe.map D.s),.sh 3 (xf.map MatD.d),.sh 7 (Nd.ds xg)]]]] (isR (dI (of7F kx))):=by
 refine zp Tryz.func16 J (N:=106) J J (fun C=>?_)
 refine jk [0] J ?_
 refine JD.bd 0 J (fun bd0=>?_)
 refine jT J (oE J (zaY J (CellD.agg)) ?_)
 rintro _ _ ⟨g1,rfl,rfl⟩
 refine oR 1 J (oZ J (jS J (jT J (oP J (zd J zaB J) (oP J (ze J (i:=0) J Tryz.isAgg9 J) (oZ J (jB J (jT J (oP J (zQ J J (decide_eq_false (by decide))) (oR 1 rfl (oZ rfl (jCf rfl (jT rfl (oP rfl (zQ rfl rfl (decide_eq_false (by decide))) (oR 1 rfl (oZ rfl (jCf rfl (jT rfl (oP rfl (zQ rfl rfl (decide_eq_true (by decide))) (oR 1 rfl (oZ rfl (jCt rfl (jS rfl (jT rfl (oP rfl (zd rfl zap rfl) (oP rfl (ze rfl (i:=0) rfl Tryz.isAgg25 rfl) (oP rfl (zI (k:=0) rfl rfl Tryz.runUnderlying25 Tryz.sizeOf27 (by first | rfl | omega) rfl) (oP rfl (zan (d:=.agg [.s xa,.s xb,dI xc,dI xd,.sh 1 (xe.map D.s),.sh 3 (xf.map MatD.d),.sh 7 (Nd.ds xg)]) rfl Tryz.isAgg27 Tryz.sizeOf27 rfl rfl) (oW rfl rfl acs Tryz.call16 (hkx) (oP rfl (zD rfl rfl rfl) (oZ rfl (jk [1,2,22] rfl ?_))))))))))))))))))))))))))))))))
 refine jD J (fun hc2=>?_) (fun hc2=>?_)
 · skip
   refine jT J (oR 1 J (oZ J (zn J (zk (zo (zk ?_))))))
   exact zh Tryz.results16 (.cons (zx (zl rfl) (Cv.eq (congrArg (fun n=>D.v (.int .i64 n)) (by unfold of7F;have h:=hc2;first | (rw[if_pos (by first | exact h | omega | (rcases h with (h | h) | h;exact .inl h;exact .inr (.inl ⟨h.1,by have:=h.2;omega⟩);exact .inr (.inr ⟨h.1,by have:=h.2;omega⟩)))]) | (rw[if_neg (by first | exact h | omega | (rintro (k | k | k);exact k h.1.1;(rcases h.1.2 with q | q;exact q k.1;exact q (by have:=k.2;omega));(rcases h.2 with q | q;exact q k.1;(have:=k.2;omega))))]))))) .nil) rfl HSub.none ⟨rfl,rfl⟩
 · skip
   refine zt J (zj (jT J (oR 1 J (oZ J (zn J (zo (zk ?_)))))))
   exact zh Tryz.results16 (.cons (zx (zl rfl) (Cv.eq (congrArg (fun n=>D.v (.int .i64 n)) (by unfold of7F;have h:=hc2;first | (rw[if_pos (by first | exact h | omega | (rcases h with (h | h) | h;exact .inl h;exact .inr (.inl ⟨h.1,by have:=h.2;omega⟩);exact .inr (.inr ⟨h.1,by have:=h.2;omega⟩)))]) | (rw[if_neg (by first | exact h | omega | (rintro (k | k | k);exact k h.1.1;(rcases h.1.2 with q | q;exact q k.1;exact q (by have:=k.2;omega));(rcases h.2 with q | q;exact q k.1;(have:=k.2;omega))))]))))) .nil) rfl HSub.none ⟨rfl,rfl⟩
theorem of7_sel (text:ByteArray) (n:Nat) (mode:Int) (names:List ByteArray) (ms:List MatD) :
 CD Tryz.prog 16 [] [.agg [.s (⟨#[115,101,108]⟩:ByteArray),.s text,dN n,dI mode,.sh 1 (names.map D.s),.sh 3 (ms.map MatD.d),.sh 7 []]] (isR (dI (of7S n))):=by
 refine zp Tryz.func16 J (N:=106) J J (fun C=>?_)
 refine jk [0] J ?_
 refine JD.bd 0 J (fun bd0=>?_)
 refine jT J (oE J (zaY J (CellD.agg)) ?_)
 rintro _ _ ⟨g1,rfl,rfl⟩
 refine oR 1 J (oZ J (jS J (jT J (oP J (zd J zaB J) (oP J (ze J (i:=0) J Tryz.isAgg9 J) (oZ J (jB J (jT J (oP J (zQ J J (decide_eq_false (by decide))) (oR 1 rfl (oZ rfl (jCf rfl (jT rfl (oP rfl (zQ rfl rfl (decide_eq_true (by decide))) (oR 1 rfl (oZ rfl (jCt rfl (jS rfl (jT rfl (oP rfl (zd rfl zaD rfl) (oP rfl (ze rfl (i:=0) rfl Tryz.isAgg3 rfl) (oP rfl (zaF rfl rfl rfl) (oZ rfl (jk [1,2,14] rfl ?_))))))))))))))))))))))))
 refine jD J (fun hc2=>?_) (fun hc2=>?_)
 · skip
   refine jT J (oR 1 J (oZ J (zn J (zk (zo (zk ?_))))))
   exact zh Tryz.results16 (.cons (zx (zl rfl) (Cv.eq (congrArg (fun n=>D.v (.int .i64 n)) (by unfold of7S;have h:=hc2;first | (rw[if_pos (by first | exact h | omega | (rcases h with (h | h) | h;exact .inl h;exact .inr (.inl ⟨h.1,by have:=h.2;omega⟩);exact .inr (.inr ⟨h.1,by have:=h.2;omega⟩)))]) | (rw[if_neg (by first | exact h | omega | (rintro (k | k | k);exact k h.1.1;(rcases h.1.2 with q | q;exact q k.1;exact q (by have:=k.2;omega));(rcases h.2 with q | q;exact q k.1;(have:=k.2;omega))))]))))) .nil) rfl HSub.none ⟨rfl,rfl⟩
 · skip
   refine zt J (zj (jT J (oR 1 J (oZ J (zn J (zo (zk ?_)))))))
   exact zh Tryz.results16 (.cons (zx (zl rfl) (Cv.eq (congrArg (fun n=>D.v (.int .i64 n)) (by unfold of7S;have h:=hc2;first | (rw[if_pos (by first | exact h | omega | (rcases h with (h | h) | h;exact .inl h;exact .inr (.inl ⟨h.1,by have:=h.2;omega⟩);exact .inr (.inr ⟨h.1,by have:=h.2;omega⟩)))]) | (rw[if_neg (by first | exact h | omega | (rintro (k | k | k);exact k h.1.1;(rcases h.1.2 with q | q;exact q k.1;exact q (by have:=k.2;omega));(rcases h.2 with q | q;exact q k.1;(have:=k.2;omega))))]))))) .nil) rfl HSub.none ⟨rfl,rfl⟩
theorem kd_num {t:ByteArray} {n m:Int} {ns:List ByteArray} {ms:List MatD}:(Nd.mk tNum t n m ns ms []).kind=1:=by
 simp only[Nd.kind,Nd.kinds];unfold zcb;rw[if_pos rfl]
theorem kd_sel {t:ByteArray} {n:Nat} {m:Int} {ns:List ByteArray} {ms:List MatD}:(Nd.mk nSel t (n:Int) m ns ms []).kind=of7S n:=by
 simp only[Nd.kind,Nd.kinds];unfold zcb of7S;rw[if_neg (by decide)]
 by_cases h:0<n
 · rw[if_pos ⟨rfl,by omega⟩,if_pos h]
 · rw[if_neg (by rintro ⟨_,k⟩;omega),if_pos rfl,if_neg h]
theorem kd_one {op t:ByteArray} {n m:Int} {ns:List ByteArray} {ms:List MatD} {x:Nd}:(Nd.mk op t n m ns ms [x]).kind=if x.kind=0 then 0 else zcb op t n m [x.kind]:=by
 simp only[Nd.kind,Nd.kinds];split<;>rename_i h
 · split at h
   · rw[if_pos (by assumption)]
   · cases h
 · split at h
   · cases h
   · rw[if_neg (by assumption)];injection h with h;rw[←h]
theorem ko_fn {t:ByteArray} {n m k:Int}:zcb tFn t n m [k]=if k=3 then 2 else 0:=by
 unfold zcb
 rw[if_neg (show ¬tFn=tNum by decide),if_neg (show ¬(tFn=nSel∧0<n) from fun e=>absurd e.1 (by decide)),if_neg (show ¬tFn=nSel by decide),if_pos ⟨rfl,rfl⟩];rfl
theorem ko_neg {t:ByteArray} {n m k:Int}:zcb tNeg t n m [k]=if k=3 then 0 else k:=by
 unfold zcb
 rw[if_neg (show ¬tNeg=tNum by decide),if_neg (show ¬(tNeg=nSel∧0<n) from fun e=>absurd e.1 (by decide)),if_neg (show ¬tNeg=nSel by decide),if_neg (show ¬(tNeg=tFn∧[k].length=1) from fun e=>absurd e.1 (by decide)),if_neg (show ¬(tNeg=tAgg∧[k].length=1∧zbC t n=true) from fun e=>absurd e.1 (by decide)),if_pos ⟨rfl,rfl⟩];rfl
theorem ko_agg {t:ByteArray} {n m k:Int}:zcb tAgg t n m [k]=if zbC t n=true then(if k=2 then 2 else 0) else 0:=by
 unfold zcb
 rw[if_neg (show ¬tAgg=tNum by decide),if_neg (show ¬(tAgg=nSel∧0<n) from fun e=>absurd e.1 (by decide)),if_neg (show ¬tAgg=nSel by decide),if_neg (show ¬(tAgg=tFn∧[k].length=1) from fun e=>absurd e.1 (by decide))]
 by_cases hq:zbC t n=true
 · rw[if_pos ⟨rfl,rfl,hq⟩,if_pos hq];rfl
 · rw[if_neg (fun e=>hq e.2.2),if_neg hq,if_neg (show ¬(tAgg=tNeg∧[k].length=1) from fun e=>absurd e.1 (by decide)),if_neg (show ¬(tAgg=tBin∧[k].length=2) from fun e=>absurd e.1 (by decide))]
theorem kd_fn {t:ByteArray} {n m:Int} {ns:List ByteArray} {ms:List MatD} {x:Nd}:(Nd.mk tFn t n m ns ms [x]).kind=of7F x.kind:=by
 rw[kd_one,ko_fn];unfold of7F
 by_cases h:x.kind=0
 · rw[if_pos h,if_neg (by omega)]
 · rw[if_neg h]
theorem kd_neg {t:ByteArray} {n m:Int} {ns:List ByteArray} {ms:List MatD} {x:Nd}:(Nd.mk tNeg t n m ns ms [x]).kind=of7N x.kind:=by
 rw[kd_one,ko_neg];unfold of7N
 by_cases h:x.kind=0
 · rw[if_pos h,if_neg (by omega),h]
 · rw[if_neg h]
theorem kd_agg {t:ByteArray} {n:Nat} {m:Int} {ns:List ByteArray} {ms:List MatD} {x:Nd}:(Nd.mk tAgg t (n:Int) m ns ms [x]).kind=of7A t n x.kind:=by
 have hr:zbC t (n:Int)=true↔¬((t=nQ∧100<n)∨(t=nTop∧(n<1∨2000<n))):=by
  unfold zbC
  by_cases h1:t=nQ
  · rw[if_pos h1,decide_eq_true_eq]
    have h2:¬t=nTop:=by rw[h1];decide
    constructor
    · rintro h (⟨_,k⟩ | ⟨k,_⟩)
      · omega
      · exact h2 k
    · intro h;have:¬100<n:=fun k=>h (.inl ⟨h1,k⟩);omega
  · rw[if_neg h1]
    by_cases h2:t=nTop
    · rw[if_pos h2,decide_eq_true_eq]
      constructor
      · rintro h (⟨k,_⟩ | ⟨_,k⟩)
        · exact h1 k
        · omega
      · intro h;have:¬(n<1∨2000<n):=fun k=>h (.inr ⟨h2,k⟩);omega
    · rw[if_neg h2]
      exact⟨fun _=>(by rintro (⟨k,_⟩ | ⟨k,_⟩);exact h1 k;exact h2 k),fun _=>rfl⟩
 rw[kd_one,ko_agg];unfold of7A
 by_cases hq:zbC t (n:Int)=true
 · have hn:=hr.1 hq
   rw[if_pos hq]
   by_cases hk:x.kind=2
   · rw[if_neg (by omega),if_pos hk,if_neg (by rintro (k | k);exact k hk;exact hn k)]
   · rw[if_neg hk,ite_self,if_pos (.inl hk)]
 · have hn:(t=nQ∧100<n)∨(t=nTop∧(n<1∨2000<n)):=Decidable.byContradiction fun k=>hq (hr.2 k)
   rw[if_neg hq,ite_self,if_pos (.inr hn)]
theorem ko_bin {t:ByteArray} {n m a b:Int}:zcb tBin t n m [a,b]=zdU m a b:=by
 unfold zcb
 rw[if_neg (show ¬tBin=tNum by decide),if_neg (show ¬(tBin=nSel∧0<n) from fun e=>absurd e.1 (by decide)),if_neg (show ¬tBin=nSel by decide),if_neg (show ¬(tBin=tFn∧[a,b].length=1) from fun e=>absurd e.1 (by decide)),if_neg (show ¬(tBin=tAgg∧[a,b].length=1∧zbC t n=true) from fun e=>absurd e.1 (by decide)),if_neg (show ¬(tBin=tNeg∧[a,b].length=1) from fun e=>absurd e.1 (by decide)),if_pos ⟨rfl,rfl⟩];rfl
theorem kd_bin {t:ByteArray} {n m:Int} {ns:List ByteArray} {ms:List MatD} {x y:Nd} (hm:m=0∨m=1∨m=2):(Nd.mk tBin t n m ns ms [x,y]).kind=of7B m x.kind y.kind:=by
 unfold of7B
 by_cases hx:x.kind=0
 · rw[if_pos (.inl hx)];simp only[Nd.kind,Nd.kinds,if_pos hx]
 · by_cases hy:y.kind=0
   · rw[if_pos (.inr (.inl hy))];simp only[Nd.kind,Nd.kinds,if_neg hx,if_pos hy,Option.map_none]
   · simp only[Nd.kind,Nd.kinds,if_neg hx,if_neg hy,Option.map_some]
     rw[ko_bin];unfold zdU
     by_cases h3:x.kind=3∨y.kind=3
     · rw[if_pos h3,if_pos (by rcases h3 with k | k;exact .inr (.inr (.inl k));exact .inr (.inr (.inr (.inl k))))]
     · rw[if_neg h3]
       by_cases h2:x.kind=2∧y.kind=2
       · rw[if_pos h2,if_neg (by omega)];omega
       · rw[if_neg h2]
         by_cases h0:m≠0
         · rw[if_pos h0,if_pos (by omega)]
         · rw[if_neg h0,if_neg (by omega)]
theorem of7_c {q:Nd} (h:Wf q):CD Tryz.prog 16 [] [Nd.d q] (isR (dI q.kind)):=by
 induction h with
 | @num n h=>rw[kd_num];exact of7_num ByteArray.empty n 0 [] []
 | @neg x _ ih=>rw[kd_neg];obtain ⟨xa,xb,xc,xd,xe,xf,xg⟩:=x;exact of7_neg ByteArray.empty 0 0 [] [] xa xb xc xd xe xf xg _ ih
 | @bin text mode names x y h _ _ ih1 ih2=>rw[kd_bin (by rcases h with ⟨h,_⟩ | h | h;exact .inl h;exact .inr (.inl h);exact .inr (.inr h))];obtain ⟨xa,xb,xc,xd,xe,xf,xg⟩:=x;obtain ⟨ya,yb,yc,yd,ye,yf,yg⟩:=y;exact of7_bin text 0 mode names [] xa xb xc xd xe xf xg ya yb yc yd ye yf yg _ _ ih1 ih2
 | @agg text n mode names x h hn hm _ ih=>rw[kd_agg];obtain ⟨xa,xb,xc,xd,xe,xf,xg⟩:=x;exact of7_agg text n mode names [] xa xb xc xd xe xf xg _ ih
 | @fn text x _ ih=>rw[kd_fn];obtain ⟨xa,xb,xc,xd,xe,xf,xg⟩:=x;exact of7_fn text 0 0 [] [] xa xb xc xd xe xf xg _ ih
 | @sel text n ms h hm=>rw[kd_sel];exact of7_sel text n 0 [] ms
theorem deep7_s (op text:ByteArray) (n mode:Int) (names:List ByteArray) (ms:List MatD) (kids:List Nd) (ih:∀ x∈kids,CD Tryz.prog 20 [] [Nd.d x] (isR (dN x.deep))) (hc:Nd.cntL kids≤1000000):
 CD Tryz.prog 20 [] [.agg [.s op,.s text,dI n,dI mode,.sh 1 (names.map D.s),.sh 3 (ms.map MatD.d),.sh 7 (kids.map Nd.d)]] (isR (dN (Nd.mk op text n mode names ms kids).deep)):=by
 refine zp Tryz.func20 J (N:=22) J J (fun C=>?_)
 refine jk [0] J ?_
 refine JD.bd 0 J (fun bd0=>?_)
 have hkl:=zc7 kids
 refine jT J (oE J (zaY J (CellD.agg)) ?_)
 rintro _ _ ⟨g1,rfl,rfl⟩
 refine oR 1 J (oZ J (jT J (oR 1 J (oZ J (jS J (jT J (oR 1 J (oZ J (jB J (jl1 (fun (a_:Nat)=>[(1,dP g1 0),(2,dI 0),(4,dN a_),(3,dN (Nd.deepL (kids.take a_)))]) (fun a_=>[.bx g1 27 (.agg [.s op,.s text,dI n,dI mode,.sh 1 (names.map D.s),.sh 3 (ms.map MatD.d),.sh 7 (kids.map Nd.d)])]) (fun a_=>True) (fun a_=>kids.length-a_) 0 J ⟨sk J,sk J,sk J,sc J (Cv.rfl'),trivial⟩ HSub.rfl' trivial ?_))))))))))
 rintro k _
 refine ja J (jn J ?_)
 have hdl:=deepL_take kids k
 refine jS J (jT J (oR 1 J (oP J (zd J zap J) (oP J (ze J (i:=0) J Tryz.isAgg25 J) (oP J (zbf (n:=kids.length) J Tryz.runUnderlying25 (by simp only[lm,lc,ln])) (oP rfl (zN rfl rfl rfl) (oZ rfl ?_)))))))
 refine jD J (fun hc2=>?_) (fun hc2=>?_)
 · skip
   refine zt J (zj (jS J (jB J (zf J (oR 1 J (oP J (zd J zap J) (oP J (ze J (i:=0) J Tryz.isAgg25 J) (oR 1 J ?_))))))))
   obtain ⟨x1,hx1⟩:=zW kids k (by omega)
   obtain ⟨yax1,ybx1,ycx1,ydx1,yex1,yfx1,ygx1⟩:=x1
   have hmcx1:=zcf (List.mem_of_getElem? hx1)
   refine oP J (zI (k:=k) J J Tryz.runUnderlying25 Tryz.sizeOf27 (by first | rfl | omega) (zK hx1)) (oP rfl (zan (d:=.agg [.s yax1,.s ybx1,dI ycx1,dI ydx1,.sh 1 (yex1.map D.s),.sh 3 (yfx1.map MatD.d),.sh 7 (Nd.ds ygx1)]) rfl Tryz.isAgg27 Tryz.sizeOf27 rfl rfl) (oE rfl (zm [] [.bx g1 27 (.agg [.s op,.s text,dI n,dI mode,.sh 1 (names.map D.s),.sh 3 (ms.map MatD.d),.sh 7 (kids.map Nd.d)])] [] rfl rfl (.cons ArgC.id .nil) zg Tryz.call20 (ih (Nd.mk yax1 ybx1 ycx1 ydx1 yex1 yfx1 ygx1) (List.mem_of_getElem? hx1)) (.inl rfl)) ?_))
   rintro _ _ ⟨_,⟨rfl,rfl⟩,rfl⟩
   refine on J (oP J (p_max J J J) (oR 1 J (zq J (zB (zj (zf J (oR 1 J (oP J (zaz (c:=((k+1:Nat):Int)) J J (zab (by omega) (by omega))) (oR 1 rfl (zq rfl ?_))))))))))
   exact pl1 (k+1) ⟨sk J,sk J,sk J,sc J (Cv.eq (congrArg dI (by rw[deepL_snoc hx1];first | done | omega))),trivial⟩ HSub.rfl' trivial (by omega)
 · skip
   refine zF J (zw (zu (zr (zj (jT J (oR 1 J (oP J (zaz (c:=(((Nd.deepL (kids.take k))+1:Nat):Int)) J J (zab (by omega) (by omega))) (oR 1 rfl (oZ rfl (jk [2] rfl (zn rfl ?_)))))))))))
   exact zh Tryz.results20 (.cons (zx (zl J) (Cv.eq (congrArg dI (show _=(((Nd.mk op text n mode names ms kids).deep:Nat):Int) from by simp only[Nd.deep];rw[List.take_of_length_le (by omega)];first | done | omega)))) .nil) rfl HSub.none ⟨rfl,rfl⟩
theorem deep7_c:∀ q:Nd,q.cnt≤1000000→CD Tryz.prog 20 [] [Nd.d q] (isR (dN q.deep)):=Nd.ind (fun op text n mode names ms kids ih hc=>by
 simp only[Nd.cnt] at hc
 rw[Nd.d_mk]
 exact deep7_s op text n mode names ms kids (fun x hx=>ih x hx (by have:=zcf hx;omega)) (by omega))
theorem hasN_more {l:List ByteArray} {y:ByteArray} {i:Nat} (h:hasN (l.take i) y=true):hasN (l.take (i+1)) y=true:=by
 unfold hasN at h ⊢
 obtain ⟨x,hx,e⟩:=List.any_eq_true.1 h
 exact List.any_eq_true.2 ⟨x,(List.take_subset_take_left l (Nat.le_succ i)) hx,e⟩
theorem mets7_s (op text:ByteArray) (n mode:Int) (names:List ByteArray) (ms:List MatD) (kids:List Nd) (ih:∀ x∈kids,CD Tryz.prog 22 [] [Nd.d x] (zdV 1 9 (x.mets.map D.s))) (hc:Nd.cntL kids≤100000):
 CD Tryz.prog 22 [] [.agg [.s op,.s text,dI n,dI mode,.sh 1 (names.map D.s),.sh 3 (ms.map MatD.d),.sh 7 (kids.map Nd.d)]] (zdV 1 9 ((Nd.mk op text n mode names ms kids).mets.map D.s)):=by
 refine zp Tryz.func22 J (N:=69) J J (fun C=>?_)
 refine jk [0] J ?_
 refine JD.bd 0 J (fun bd0=>?_)
 have hkl:=zc7 kids
 refine jT J (oE J (zaY J (CellD.agg)) ?_)
 rintro _ _ ⟨g1,rfl,rfl⟩
 refine oR 1 J (oZ J (jT J (oR 1 J (oZ J (jS J (jS J (jk [1,2,3] J ?_)))))))
 refine zR 16 ((decide (op=(⟨#[115,101,108]⟩:ByteArray))&&decide (text≠ByteArray.empty))) [.bx g1 27 (.agg [.s op,.s text,dI n,dI mode,.sh 1 (names.map D.s),.sh 3 (ms.map MatD.d),.sh 7 (kids.map Nd.d)])] (fun _ hQ2=>?_) ?_
 · skip
   by_cases hg3:op=(⟨#[115,101,108]⟩:ByteArray)
   · skip
     refine zf J (oP J (zd J zaB J) (oP J (ze J (i:=0) J Tryz.isAgg9 J) (oP J (zQ J J (decide_eq_true hg3)) (oR 1 J (oG J (zd J zaA J) (oG J (ze J (i:=0) J Tryz.isAgg9 J) (oG J (zeQ J J J) (oR 1 J (zq J ?_)))))))))
     exact PD.sub ((16,dB (decide (op=(⟨#[115,101,108]⟩:ByteArray))&&decide (text≠ByteArray.empty)))::[(1,dP g1 0),(2,dZ),(3,dZ)]) ⟨sc J (Cv.eq (congrArg (fun b=>D.v (.bool b)) (by first | (simp[hg3];done) | (simp_all;done) | (simp_all;exact Iff.rfl)))),sk rfl,sk rfl,sk rfl,trivial⟩ hQ2
   · skip
     refine zf J (oP J (zd J zaB J) (oP J (ze J (i:=0) J Tryz.isAgg9 J) (oP J (zQ J J (decide_eq_false hg3)) (oR 5 J (zq J ?_)))))
     exact PD.sub ((16,dB (decide (op=(⟨#[115,101,108]⟩:ByteArray))&&decide (text≠ByteArray.empty)))::[(1,dP g1 0),(2,dZ),(3,dZ)]) ⟨sc J (Cv.eq (congrArg (fun b=>D.v (.bool b)) (by first | (simp[hg3];done) | (simp_all;done) | (simp_all;exact Iff.rfl)))),sk rfl,sk rfl,sk rfl,trivial⟩ hQ2
 · skip
   refine zj ?_
   refine zct (fun (jg:Value×List ByteArray)=>[(1,dP g1 0),(2,dZ),(3,.ov jg.1)]) (fun (jg:Value×List ByteArray)=>[.sl jg.1 1 9 (jg.2.map D.s),.bx g1 27 (.agg [.s op,.s text,dI n,dI mode,.sh 1 (names.map D.s),.sh 3 (ms.map MatD.d),.sh 7 (kids.map Nd.d)])]) (fun (jg:Value×List ByteArray)=>(jg.2=(if op=nSel∧text≠ByteArray.empty then [text] else []))) (fun _ hQ4=>?_) ?_
   · skip
     refine jC J (fun hc5=>?_) (fun hc5=>?_)
     · simp only[bA,bB,bC,bD,bE,bF,bG,bH,bI,bJ] at hc5
       have hsel:op=nSel∧text≠ByteArray.empty:=hc5
       refine zf J (oR 1 J (oP J (zd J zaA J) (oP J (ze J (i:=0) J Tryz.isAgg9 J) (oE J (Qu.ef (d:=.sh 1 ([text].map D.s)) (zy [.tmp 19] J J (.cons CellD.s .nil) J Tryz.runUnderlying23 Tryz.sizeOf9 Tryz.zeroValue9 J J J J)) ?_))))
       rintro _ _ ⟨rfl,rfl⟩
       refine oE J (ef_append_n (f:=D.s) (l':=[text]) J J (SrcD.sh) zcE zcI J J (by unfold maxLen;(try simp only[la,lc,ln,lm,lt',ld,ls,lr]);omega) (by (try simp only[la,lc,ln,lm,lt',ld,ls,lr]);omega)) ?_
       rintro _ _ ⟨v6,rfl,rfl⟩
       refine oR 1 J (zq J (pn J ?_))
       exact PD.sub [(1,dP g1 0),(2,dZ),(3,.ov v6)] (sa J) (hQ4 (v6,[text]) ((if_pos hsel).symm))
     · simp only[bA,bB,bC,bD,bE,bF,bG,bH,bI,bJ] at hc5
       have hsel:¬(op=nSel∧text≠ByteArray.empty):=by rintro ⟨a,b⟩;have h:=hc5;rcases h with h | h;exact h a;exact b h
       refine zt J (PD.subH (HSub.nil 1 9) (pn J (pn J ?_)))
       exact PD.sub [(1,dP g1 0),(2,dZ),(3,.ov (.slice none 0 0))] ⟨sk J,sk J,sc J (Cv.ov J),trivial⟩ (hQ4 ((.slice none 0 0),[]) ((if_neg hsel).symm))
   · skip
     rintro ⟨ov,o⟩ ho0
     replace ho0:o=(if op=nSel∧text≠ByteArray.empty then [text] else []):=ho0
     refine pk [1,2,3] J (pn J (zj (jS J (jT J (oR 1 J (oZ J (jB J (jl3 (fun (a_:Nat) (b_:Value) (c_:List ByteArray)=>[(1,dP g1 0),(2,dZ),(4,dN a_),(3,.ov b_)]) (fun a_ b_ c_=>[.sl b_ 1 9 (c_.map D.s),.bx g1 27 (.agg [.s op,.s text,dI n,dI mode,.sh 1 (names.map D.s),.sh 3 (ms.map MatD.d),.sh 7 (kids.map Nd.d)])]) (fun a_ b_ c_=>(a_≤kids.length)∧(c_=Nd.metsL (if op=nSel∧text≠ByteArray.empty then [text] else []) (kids.take a_))) (fun a_ b_ c_=>kids.length-a_) 0 ov o J (sa J) HSub.rfl' ⟨Nat.zero_le _,ho0⟩ ?_))))))))
     rintro k ov o ⟨hk,ho⟩
     refine ja J (jn J ?_)
     have h3q:(if op=nSel∧text≠ByteArray.empty then [text] else []).length≤1:=by split<;>simp
     have hol:o.length≤1+Nd.cntL kids:=by have h:=metsL_len (if op=nSel∧text≠ByteArray.empty then [text] else []) (kids.take k);rw[←ho] at h;have h2:=cntL_take kids k;omega
     refine jS J (jT J (oR 1 J (oP J (zd J zap J) (oP J (ze J (i:=1) J Tryz.isAgg25 J) (oP J (zbf (n:=kids.length) J Tryz.runUnderlying25 (by simp only[lm,lc,ln])) (oP rfl (zN rfl rfl rfl) (oZ rfl ?_)))))))
     refine jD J (fun hc7=>?_) (fun hc7=>?_)
     · skip
       refine zt J (zj (jS J (jB J (jT J (oP J (zd J zap J) (oP J (ze J (i:=1) J Tryz.isAgg25 J) (oR 1 J ?_)))))))
       obtain ⟨x1,hx1⟩:=zW kids k (by omega)
       obtain ⟨yax1,ybx1,ycx1,ydx1,yex1,yfx1,ygx1⟩:=x1
       have hmcx1:=zcf (List.mem_of_getElem? hx1)
       refine oP J (zI (k:=k) J J Tryz.runUnderlying25 Tryz.sizeOf27 (by first | rfl | omega) (zK hx1)) (oP rfl (zan (d:=.agg [.s yax1,.s ybx1,dI ycx1,dI ydx1,.sh 1 (yex1.map D.s),.sh 3 (yfx1.map MatD.d),.sh 7 (Nd.ds ygx1)]) rfl Tryz.isAgg27 Tryz.sizeOf27 rfl rfl) (oE rfl (zm [] [.sl ov 1 9 (o.map D.s),.bx g1 27 (.agg [.s op,.s text,dI n,dI mode,.sh 1 (names.map D.s),.sh 3 (ms.map MatD.d),.sh 7 (kids.map Nd.d)])] [] rfl rfl (.cons ArgC.id .nil) zg Tryz.call22 (ih (Nd.mk yax1 ybx1 ycx1 ydx1 yex1 yfx1 ygx1) (List.mem_of_getElem? hx1)) (.inl rfl)) ?_))
       rintro _ _ ⟨_,⟨mw8,rfl,rfl⟩,rfl⟩
       refine on J (oR 1 J (oZ J (jT J (oR 1 J (oZ J (jB J (JD.subH (HSub.perm (zc (i:=2) J)) (jn J (JD.subH (HSub.perm (zc (i:=1) J)) (jn J (JD.subH (HSub.perm (zc (i:=2) J)) (jn J ?_))))))))))))
       have hml:=mets_len (Nd.mk yax1 ybx1 ycx1 ydx1 yex1 yfx1 ygx1)
       refine jl3 (fun (a_:Nat) (b_:Value) (c_:List ByteArray)=>[(1,dP g1 0),(2,dZ),(4,dN k),(5,.ov mw8),(22,dN k),(23,dP g1 6),(24,.sh 7 (kids.map Nd.d)),(25,dN kids.length),(26,dB (decide (((k:Nat):Int)<((kids.length:Nat):Int)))),(29,dP g1 6),(30,.sh 7 (kids.map Nd.d)),(31,dN k),(32,.el (.agg [.s yax1,.s ybx1,dI ycx1,dI ydx1,.sh 1 (yex1.map D.s),.sh 3 (yfx1.map MatD.d),.sh 7 (Nd.ds ygx1)]) 0),(33,.agg [.s yax1,.s ybx1,dI ycx1,dI ydx1,.sh 1 (yex1.map D.s),.sh 3 (yfx1.map MatD.d),.sh 7 (Nd.ds ygx1)]),(34,.ov mw8),(6,dN a_),(3,.ov b_)]) (fun a_ b_ c_=>[.sl b_ 1 9 (c_.map D.s),.sl mw8 1 9 (((Nd.mk yax1 ybx1 ycx1 ydx1 yex1 yfx1 ygx1).mets).map D.s),.bx g1 27 (.agg [.s op,.s text,dI n,dI mode,.sh 1 (names.map D.s),.sh 3 (ms.map MatD.d),.sh 7 (kids.map Nd.d)])]) (fun a_ b_ c_=>(a_≤((Nd.mk yax1 ybx1 ycx1 ydx1 yex1 yfx1 ygx1).mets).length)∧(c_=addN o ((Nd.mk yax1 ybx1 ycx1 ydx1 yex1 yfx1 ygx1).mets.take a_))∧(c_.length≤o.length+a_)) (fun a_ b_ c_=>((Nd.mk yax1 ybx1 ycx1 ydx1 yex1 yfx1 ygx1).mets).length-a_) 0 ov o J (sa J) HSub.rfl' ⟨Nat.zero_le _,J,Nat.le_refl _⟩ ?_
       rintro j w o2 ⟨hj,hin0,hol2⟩
       refine ja J (jn J (jS J (jT J (oR 2 J (oP J (zay (n:=((Nd.mk yax1 ybx1 ycx1 ydx1 yex1 yfx1 ygx1).mets).length) (j:=1) J J Tryz.runUnderlying23 (List.length_map _)) (oP J (zN J J J) (oZ J ?_)))))))
       refine jD J (fun hc9=>?_) (fun hc9=>?_)
       · skip
         refine zt J (zj (jS J (jB J (jS J ?_))))
         obtain ⟨x2,hx2⟩:=zW ((Nd.mk yax1 ybx1 ycx1 ydx1 yex1 yfx1 ygx1).mets) j (by omega)
         refine zf J (oR 1 J (oZ J (jS J (jT J (oR 1 J (oZ J (jB J ?_)))))))
         refine jl1 (fun (a_:Nat)=>[(1,dP g1 0),(2,dZ),(3,.ov w),(4,dN k),(5,.ov mw8),(6,dN j),(22,dN k),(23,dP g1 6),(24,.sh 7 (kids.map Nd.d)),(25,dN kids.length),(26,dB (decide (((k:Nat):Int)<((kids.length:Nat):Int)))),(29,dP g1 6),(30,.sh 7 (kids.map Nd.d)),(31,dN k),(32,.el (.agg [.s yax1,.s ybx1,dI ycx1,dI ydx1,.sh 1 (yex1.map D.s),.sh 3 (yfx1.map MatD.d),.sh 7 (Nd.ds ygx1)]) 0),(33,.agg [.s yax1,.s ybx1,dI ycx1,dI ydx1,.sh 1 (yex1.map D.s),.sh 3 (yfx1.map MatD.d),.sh 7 (Nd.ds ygx1)]),(34,.ov mw8),(35,dN j),(36,.ov mw8),(37,dN (((Nd.mk yax1 ybx1 ycx1 ydx1 yex1 yfx1 ygx1).mets).length)),(38,dB (decide (((j:Nat):Int)<((((Nd.mk yax1 ybx1 ycx1 ydx1 yex1 yfx1 ygx1).mets).length:Nat):Int)))),(8,dN a_),(7,dB (hasN (o2.take a_) x2))]) (fun a_=>[.sl w 1 9 (o2.map D.s),.sl mw8 1 9 (((Nd.mk yax1 ybx1 ycx1 ydx1 yex1 yfx1 ygx1).mets).map D.s),.bx g1 27 (.agg [.s op,.s text,dI n,dI mode,.sh 1 (names.map D.s),.sh 3 (ms.map MatD.d),.sh 7 (kids.map Nd.d)])]) (fun a_=>True) (fun a_=>o2.length-a_) 0 J ⟨sk J,sk J,sk J,sk J,sk J,sk J,sk J,sk J,sk J,sk J,sk J,sk J,sk J,sk J,sk J,sk J,sk J,sk J,sk J,sk J,sk J,sk J,sc J (Cv.rfl'),trivial⟩ HSub.rfl' trivial ?_
         rintro i _
         refine ja J (jn J (jS J (jT J (oR 2 J (oP J (zay (n:=o2.length) (j:=0) J J Tryz.runUnderlying23 (List.length_map _)) (oP J (zN J J J) (oZ J ?_)))))))
         refine jD J (fun hc10=>?_) (fun hc10=>?_)
         · skip
           refine zt J (zj (jS J (jB J ?_)))
           rcases Bool.eq_false_or_eq_true ((hasN (o2.take i) x2)) with hg11 | hg11
           · skip
             refine JD.sub [(1,dP g1 0),(2,dZ),(3,.ov w),(4,dN k),(5,.ov mw8),(6,dN j),(7,dB true),(8,dN i),(22,dN k),(23,dP g1 6),(24,.sh 7 (kids.map Nd.d)),(25,dN kids.length),(26,dB (decide (((k:Nat):Int)<((kids.length:Nat):Int)))),(29,dP g1 6),(30,.sh 7 (kids.map Nd.d)),(31,dN k),(32,.el (.agg [.s yax1,.s ybx1,dI ycx1,dI ydx1,.sh 1 (yex1.map D.s),.sh 3 (yfx1.map MatD.d),.sh 7 (Nd.ds ygx1)]) 0),(33,.agg [.s yax1,.s ybx1,dI ycx1,dI ydx1,.sh 1 (yex1.map D.s),.sh 3 (yfx1.map MatD.d),.sh 7 (Nd.ds ygx1)]),(34,.ov mw8),(35,dN j),(36,.ov mw8),(37,dN (((Nd.mk yax1 ybx1 ycx1 ydx1 yex1 yfx1 ygx1).mets).length)),(38,dB (decide (((j:Nat):Int)<((((Nd.mk yax1 ybx1 ycx1 ydx1 yex1 yfx1 ygx1).mets).length:Nat):Int)))),(41,dN i),(42,.ov w),(43,dN o2.length),(44,dB (decide (((i:Nat):Int)<((o2.length:Nat):Int))))] ⟨sk J,sk J,sk J,sk J,sk J,sk J,se J (congrArg (fun b=>D.v (.bool b)) (by simp[hg11])),sk rfl,sk rfl,sk rfl,sk rfl,sk rfl,sk rfl,sk rfl,sk rfl,sk rfl,sk rfl,sk rfl,sk rfl,sk rfl,sk rfl,sk rfl,sk rfl,sk rfl,sk rfl,sk rfl,sk rfl,trivial⟩ ?_
             refine jk [1,2,3,4,5,6,7,8,22,23,24,25,26,29,30,31,32,33,34,35,36,37,38,41,42,43,44] J (jn J (zaX 10 [(47,dB true,none),(48,dB true,none),(49,.v undef,none),(50,.v undef,none),(51,.v undef,none),(52,.v undef,none),(53,.v undef,none),(54,.v undef,none),(55,.v undef,none),(56,.v undef,none)] [.sl w 1 9 (o2.map D.s),.sl mw8 1 9 (((Nd.mk yax1 ybx1 ycx1 ydx1 yex1 yfx1 ygx1).mets).map D.s),.bx g1 27 (.agg [.s op,.s text,dI n,dI mode,.sh 1 (names.map D.s),.sh 3 (ms.map MatD.d),.sh 7 (kids.map Nd.d)])] (Hn:=[.sl w 1 9 (o2.map D.s),.sl mw8 1 9 (((Nd.mk yax1 ybx1 ycx1 ydx1 yex1 yfx1 ygx1).mets).map D.s),.bx g1 27 (.agg [.s op,.s text,dI n,dI mode,.sh 1 (names.map D.s),.sh 3 (ms.map MatD.d),.sh 7 (kids.map Nd.d)])]) mixed J J J J HSub.rfl' J ⟨sa_p J J J (zG J),sa_p J J J (zG J),sa_s J J J J J J (by decide),sa_s rfl rfl rfl rfl rfl rfl (by decide),sa_s rfl rfl rfl rfl rfl rfl (by decide),sa_s rfl rfl rfl rfl rfl rfl (by decide),sa_s rfl rfl rfl rfl rfl rfl (by decide),sa_s rfl rfl rfl rfl rfl rfl (by decide),sa_s rfl rfl rfl rfl rfl rfl (by decide),sa_s rfl rfl rfl rfl rfl rfl (by decide),trivial⟩ ?_))
             refine ok [1,2,3,4,5,6,7,8,22,23,24,25,26,29,30,31,32,33,34,35,36,37,38,41,42,43,44,47,48,49,50,51,52,53,54,55,56] J (oR 3 J (zq J (zB (zj (zf J (oR 1 J (oP J (zaz (c:=((i+1:Nat):Int)) J J (zab (by omega) (by omega))) (oR 1 rfl (zq rfl ?_)))))))))
             exact pl1 (i+1) ⟨sk J,sk J,sk J,sk J,sk J,sk J,sk J,sk J,sk J,sk J,sk J,sk J,sk J,sk J,sk J,sk J,sk J,sk J,sk J,sk J,sk J,sk J,sc J (Cv.eq (congrArg dB (show _=hasN (o2.take (i+1)) x2 from by rw[hasN_more (by simpa using hg11)];try rfl))),trivial⟩ HSub.rfl' trivial (by omega)
           · skip
             refine JD.sub [(1,dP g1 0),(2,dZ),(3,.ov w),(4,dN k),(5,.ov mw8),(6,dN j),(7,dB false),(8,dN i),(22,dN k),(23,dP g1 6),(24,.sh 7 (kids.map Nd.d)),(25,dN kids.length),(26,dB (decide (((k:Nat):Int)<((kids.length:Nat):Int)))),(29,dP g1 6),(30,.sh 7 (kids.map Nd.d)),(31,dN k),(32,.el (.agg [.s yax1,.s ybx1,dI ycx1,dI ydx1,.sh 1 (yex1.map D.s),.sh 3 (yfx1.map MatD.d),.sh 7 (Nd.ds ygx1)]) 0),(33,.agg [.s yax1,.s ybx1,dI ycx1,dI ydx1,.sh 1 (yex1.map D.s),.sh 3 (yfx1.map MatD.d),.sh 7 (Nd.ds ygx1)]),(34,.ov mw8),(35,dN j),(36,.ov mw8),(37,dN (((Nd.mk yax1 ybx1 ycx1 ydx1 yex1 yfx1 ygx1).mets).length)),(38,dB (decide (((j:Nat):Int)<((((Nd.mk yax1 ybx1 ycx1 ydx1 yex1 yfx1 ygx1).mets).length:Nat):Int)))),(41,dN i),(42,.ov w),(43,dN o2.length),(44,dB (decide (((i:Nat):Int)<((o2.length:Nat):Int))))] ⟨sk J,sk J,sk J,sk J,sk J,sk J,se J (congrArg (fun b=>D.v (.bool b)) (by simp[hg11])),sk rfl,sk rfl,sk rfl,sk rfl,sk rfl,sk rfl,sk rfl,sk rfl,sk rfl,sk rfl,sk rfl,sk rfl,sk rfl,sk rfl,sk rfl,sk rfl,sk rfl,sk rfl,sk rfl,sk rfl,trivial⟩ ?_
             refine jk [1,2,3,4,5,6,7,8,22,23,24,25,26,29,30,31,32,33,34,35,36,37,38,41,42,43,44] J (jn J ?_)
             obtain ⟨x3,hx3⟩:=zW o2 i (by omega)
             refine zaX 10 [(47,dB false,none),(48,dB false,none),(49,.ov w,none),(50,dN i,none),(51,.v (.pointer (some ⟨bl w,i*1+0,none⟩)),none),(52,.s x3,none),(53,.ov mw8,none),(54,dN j,none),(55,.v (.pointer (some ⟨bl mw8,j*1+0,none⟩)),none),(56,.s x2,none)] [.sl w 1 9 (o2.map D.s),.sl mw8 1 9 (((Nd.mk yax1 ybx1 ycx1 ydx1 yex1 yfx1 ygx1).mets).map D.s),.bx g1 27 (.agg [.s op,.s text,dI n,dI mode,.sh 1 (names.map D.s),.sh 3 (ms.map MatD.d),.sh 7 (kids.map Nd.d)])] (Hn:=[.sl w 1 9 (o2.map D.s),.sl mw8 1 9 (((Nd.mk yax1 ybx1 ycx1 ydx1 yex1 yfx1 ygx1).mets).map D.s),.bx g1 27 (.agg [.s op,.s text,dI n,dI mode,.sh 1 (names.map D.s),.sh 3 (ms.map MatD.d),.sh 7 (kids.map Nd.d)])]) mixed J J J J HSub.rfl' J ⟨sa_p J J J (zG J),sa_p J J J (zG J),z6 J J J J J J (zG J).qu,z6 J J J J J J (zG J).qu,z6 J J J J J J (zT (k:=i) (j:=0) J J J Tryz.runUnderlying23 Tryz.sizeOf9 (by first | rfl | omega) (zK hx3)).qu,z6 rfl rfl rfl rfl rfl rfl (zaC rfl (i:=0) rfl (zK hx3) Tryz.isAgg9 rfl).qu,z6 rfl rfl rfl rfl rfl rfl (zG rfl).qu,z6 rfl rfl rfl rfl rfl rfl (zG rfl).qu,z6 rfl rfl rfl rfl rfl rfl (zT (k:=j) (j:=1) rfl rfl rfl Tryz.runUnderlying23 Tryz.sizeOf9 (by first | rfl | omega) (zK hx2)).qu,z6 rfl rfl rfl rfl rfl rfl (zaC rfl (i:=1) rfl (zK hx2) Tryz.isAgg9 rfl).qu,trivial⟩ ?_
             refine ok [1,2,3,4,5,6,7,8,22,23,24,25,26,29,30,31,32,33,34,35,36,37,38,41,42,43,44,47,48,49,50,51,52,53,54,55,56] J (oG J (zQ J J J) (oR 2 J (zq J (zB (zj (zf J (oR 1 J (oP J (zaz (c:=((i+1:Nat):Int)) J J (zab (by omega) (by omega))) (oR 1 rfl (zq rfl ?_))))))))))
             exact pl1 (i+1) ⟨sk J,sk J,sk J,sk J,sk J,sk J,sk J,sk J,sk J,sk J,sk J,sk J,sk J,sk J,sk J,sk J,sk J,sk J,sk J,sk J,sk J,sk J,sc J (Cv.eq (congrArg dB (show _=hasN (o2.take (i+1)) x2 from by rw[hasN_snoc hx3,show hasN (o2.take i) x2=false from by simpa using hg11];simp))),trivial⟩ HSub.rfl' trivial (by omega)
         · skip
           have hinn:hasN (o2.take i) x2=hasN o2 x2:=by rw[List.take_of_length_le (by omega)]
           refine zF J (zw (zu (zr (zj (jT J (oR 1 J (oP J (zaZ J) (oZ J ?_))))))))
           refine jC J (fun hc12=>?_) (fun hc12=>?_)
           · simp only[bA,bB,bC,bD,bE,bF,bG,bH,bI,bJ] at hc12
             refine zf J (oR 3 J (oP J (zT (k:=j) (j:=1) J J J Tryz.runUnderlying23 Tryz.sizeOf9 (by first | rfl | omega) (zK hx2)) (oP rfl (zaC rfl (i:=1) rfl (zK hx2) Tryz.isAgg9 rfl) (oE rfl (Qu.ef (d:=.sh 1 ([x2].map D.s)) (zy [.tmp 65] rfl rfl (.cons CellD.s .nil) rfl Tryz.runUnderlying23 Tryz.sizeOf9 Tryz.zeroValue9 rfl rfl rfl rfl)) ?_))))
             rintro _ _ ⟨rfl,rfl⟩
             refine oE J (zP (f:=D.s) (l:=o2) (l':=[x2]) (i:=0) J J J (SrcD.sh) zcE zcI J J (by unfold maxLen;(try simp only[la,lc,ln,lm,lt',ld,ls,lr]);omega) (by (try simp only[la,lc,ln,lm,lt',ld,ls,lr]);omega)) ?_
             rintro _ _ ⟨v13,rfl,rfl⟩
             refine on J (oR 1 J (zq J (zB (zj (zf J (oR 1 J (oP J (zaz (c:=((j+1:Nat):Int)) J J (zab (by omega) (by omega))) (oR 1 rfl (zq rfl (pn rfl ?_))))))))))
             exact pl3 (j+1) v13 (o2++[x2]) (sa J) HSub.rfl' ⟨by show j+1≤((Nd.mk yax1 ybx1 ycx1 ydx1 yex1 yfx1 ygx1).mets).length;omega,by rw[addN_snoc hx2,←hin0];exact(if_neg (by rw[←hinn];simpa using hc12)).symm,(by (try simp only[la,List.length_singleton]);omega)⟩ (by omega)
           · simp only[bA,bB,bC,bD,bE,bF,bG,bH,bI,bJ] at hc12
             refine zt J (zB (zj (zf J (oR 1 J (oP J (zaz (c:=((j+1:Nat):Int)) J J (zab (by omega) (by omega))) (oR 1 rfl (zq rfl (pn rfl ?_))))))))
             exact pl3 (j+1) w o2 (sa J) HSub.rfl' ⟨by show j+1≤((Nd.mk yax1 ybx1 ycx1 ydx1 yex1 yfx1 ygx1).mets).length;omega,by rw[addN_snoc hx2,←hin0];exact(if_pos (by rw[←hinn];simpa using hc12)).symm,(by (try simp only[la,List.length_singleton]);omega)⟩ (by omega)
       · skip
         have hin:o2=addN o ((Nd.mk yax1 ybx1 ycx1 ydx1 yex1 yfx1 ygx1).mets.take j):=hin0
         refine zF J (zw (zu (zr (zB (zj (zf J (oR 1 J (oP J (zaz (c:=((k+1:Nat):Int)) J J (zab (by omega) (by omega))) (oR 1 rfl (zq rfl (PD.subH (HSub.perm (zc (i:=2) rfl)) (pn rfl (PD.subH (HSub.perm (zc (i:=1) rfl)) (pn rfl (PD.subH (HSub.fst 2 rfl) (pn rfl ?_))))))))))))))))
         exact pl3 (k+1) w o2 (sa J) HSub.rfl' ⟨by show k+1≤kids.length;omega,by rw[metsL_snoc hx1,←ho];rw[hin];rw[List.take_of_length_le (by omega)]⟩ (by omega)
     · skip
       refine zF J (zw (zu (zr (zj (jT J (oR 2 J (oZ J (jk [2] J (zn J (PD.subH (HSub.less (zd5 (i:=0) J)) (PD.subH (HSub.turn (h':=.sl ov 1 9 (((Nd.mk op text n mode names ms kids).mets).map D.s)) J (Hp.eq_sl (show List.map D.s o=List.map D.s ((Nd.mk op text n mode names ms kids).mets) from congrArg _ (by rw[ho];simp only[Nd.mets];rw[List.take_of_length_le (by omega)])))) ?_)))))))))))
       exact zew Tryz.results22 (.cons (zl J) .nil) J ⟨_,J,J⟩
theorem mets7_c:∀ q:Nd,q.cnt≤100000→CD Tryz.prog 22 [] [Nd.d q] (zdV 1 9 (q.mets.map D.s)):=Nd.ind (fun op text n mode names ms kids ih hc=>by
 simp only[Nd.cnt] at hc
 rw[Nd.d_mk]
 exact mets7_s op text n mode names ms kids (fun x hx=>ih x hx (by have:=zcf hx;omega)) (by omega))
end Lp
