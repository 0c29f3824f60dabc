import Derived.Test.YtheccaeefigajaaGreatDoorV50
set_option linter.unusedSimpArgs false
set_option linter.unusedVariables false
set_option maxHeartbeats 4000000
set_option maxRecDepth 100000
namespace Lp
open Go Go.RowKit Go.Proofs
theorem rnum_c (s:ByteArray) (hs:s.size≤1000000):
 CD Tryz.prog 163 [] [.s s] (isR (.tup [TokD.d ((numT (bl8 s)).1),dN ((numT (bl8 s)).2)])):=by
 refine tZ Tryz.func163 O O (fun C=>?_)
 refine T.bd 0 O (fun bd0=>?_)
 have sz0:s.size≤9223372036854775807:=bd0
 refine g' 2 O ?_
 refine tA O (fun g1=>?_)
 refine g' 11 O (tl2 (fun (a_:Nat) (b_:Nat)=>[(0,.s s),(2,dP g1 0),(3,dI 0),(4,dN a_),(5,dN b_)]) (fun a_ b_=>[.bx g1 135 (.agg [dI 0,dI 0,.v (.string ByteArray.empty)])]) (fun a_ b_=>(VInv s a_ b_)) (fun a_ b_=>s.size-a_) 0 0 O (sa O) HSub.rfl' VInv.zero ?_)
 rintro n v hV
 have hv13:=hV.lt
 have hns:=hV.1
 refine g' 2 O ?_
 by_cases hc2:((n:Nat):Int)<((s.size:Nat):Int)
 · skip
   obtain ⟨w3,hw3⟩:=zai s n (by omega)
   have hlw3:=w3.toNat_lt
   refine g' 3 O (tP O (zu O Tryz.runUnderlying9) (tP O (za5 O O (decide_eq_true hc2)) (g' 3 O (tG O (zl (k:=n) O O Tryz.runUnderlying9 (by first | rfl | omega) hw3) (g' 3 O ?_)))))
   refine tAnd 10 4 (c:=decide (((w3.toNat:Nat):Int)≤(57:Int))) O O O O O O (fun hb4 nx5=>?_) ?_
   · skip
     have hf6:=of_decide_eq_true hb4
     refine g' 2 O (tG O (zl (k:=n) O O Tryz.runUnderlying9 (by first | rfl | omega) hw3) (g' 1 O ?_))
     exact nx5 _ O O (kx 4 O O)
   refine g' 2 O ?_
   refine tC O (fun hc7=>?_) (fun hc7=>?_)
   · simp only[bX,bJ] at hc7
     refine g' 10 O ?_
     refine tD O (fun hc8=>?_) (fun hc8=>?_)
     · skip
       refine g' 2 O (tP O (zeq (c:=((v*10:Nat):Int)) O O (zn (by omega) (by omega))) (g' 2 O (tP O (zl (k:=n) O O Tryz.runUnderlying9 (by first | rfl | omega) hw3) (tP O (zcI (c:=((w3.toNat-48:Nat):Int)) O O (by rw[show ((w3.toNat:Nat):Int)-(48:Int)=((w3.toNat-48:Nat):Int) by omega];exact zc8 (n:=w3.toNat-48) (by omega))) (tP O (zav O (c:=((w3.toNat-48:Nat):Int)) (cv_5_3 (by omega))) (tP O (zy (c:=(((v*10)+(w3.toNat-48):Nat):Int)) O O (zn (by omega) (by omega))) (g' 5 O (tP O (zy (c:=((n+1:Nat):Int)) O O (zn (by omega) (by omega))) (g' 3 O ?_)))))))))
       exact tp2 (n+1) ((v*10)+(w3.toNat-48)) (sa O) HSub.rfl' (hV.next hw3 (by omega) (by omega)) (by omega)
     · skip
       refine g' 4 O (tP O (zy (c:=((n+1:Nat):Int)) O O (zn (by omega) (by omega))) (g' 3 O ?_))
       exact tp2 (n+1) v (sa O) HSub.rfl' (hV.more hw3 (by omega) (by omega)) (by omega)
   · simp only[bX,bJ] at hc7
     have hnd:nD s=n:=hV.stop hw3 (by omega)
     have hna:=hV.all hnd
     have hnm:=zaX (inK [1,2]) (s.extract n s.size)
     rw[ByteArray.size_extract] at hnm
     refine g' 11 O ?_
     refine tOr 2 2 (c:=decide ((1000000000000:Int)<((v:Nat):Int))) O O O O O O (fun hb9 nx10=>?_) ?_
     · skip
       have hf11:=of_decide_eq_false hb9
       refine g' 2 O ?_
       exact nx10 _ O O (kx 2 O O)
     refine g' 2 O ?_
     refine tC O (fun hc12=>?_) (fun hc12=>?_)
     · simp only[bX,bJ] at hc12
       have hbad:13<nD s∨1000000000000<vD s:=by rw[hnd];by_cases h13:13<n;exact .inl h13;exact .inr (by rw[←hV.val hnd (by omega)];omega)
       refine g' 2 O (tP O (zf [] [] (zv:=(.agg #[(.int .i64 0),(.int .i64 0),(.string ByteArray.empty)])) O O (.nil) (Tryz.runUnderlying135) Tryz.zeroValue135 zU ⟨O,O,O,trivial⟩ O) (gQ 6 [0] O O ?_))
       exact tRs O Tryz.results163 (.cons (zd (zh (X:=.agg [dI 0,dI 0,.v (.string ByteArray.empty)]) (d:=.agg [dI 0,dI 0,.v (.string ByteArray.empty)]) (i:=0) O O Tryz.isAgg135 Tryz.sizeOf135 O O) ((Cv.agg (gc (gc (.cons (cS) .nil)))).trans (Cv.eq (congrArg TokD.d (show (TokD.mk 0 0 ByteArray.empty)=(numT (bl8 s)).1 from(by rw[zd5 hbad];try rfl)))))) (.cons (zd (zc O) (Cv.eq (congrArg dN (by rw[zd5 hbad];try rfl)))) .nil)) O HSub.none ⟨O,O⟩
     · simp only[bX,bJ] at hc12
       have hvv:=hV.val hnd (by omega)
       have hgood:¬(13<nD s∨1000000000000<vD s):=by rw[hnd,←hvv];omega
       refine g' 6 O (tP O (zw (a:=n) (c:=s.size) O O O (by first | rfl | (show _=_;omega)) (by first | rfl | (show _=_;omega)) Tryz.runUnderlying9 (by omega) (by omega)) (tW O acs (rword_c (s.extract n s.size)) (g' 14 O ?_)))
       refine tD O (fun hc13=>?_) (fun hc13=>?_)
       · skip
         have hsame:nA s=nD s:=by rw[hna,hnd];show n+runL (inK [1,2]) (bl8 (s.extract n s.size))=n;omega
         refine g' 3 O (tW O acs (zcE v (by omega)) (tP O (zf [0,2] [.const (.int .i64 2),.tmp 54] (zv:=(.agg #[(.int .i64 0),(.int .i64 0),(.string ByteArray.empty)])) O O (.cons (CellD.v O) (.cons CellD.s .nil)) (Tryz.runUnderlying135) Tryz.zeroValue135 zU ⟨O,O,O,trivial⟩ O) (gQ 7 [0] O O ?_)))
         exact tRs O Tryz.results163 (.cons (zd (zh (X:=.agg [dI 2,dI 0,.s (digB v)]) (d:=.agg [dI 2,dI 0,.s (digB v)]) (i:=0) O O Tryz.isAgg135 Tryz.sizeOf135 O O) (Cv.eq (congrArg TokD.d (show (TokD.mk 2 0 (digB v))=(numT (bl8 s)).1 from(by have T:=zeN hgood hsame;rw[hnd,←hvv] at T;rw[T];try rfl))))) (.cons (zd (zc O) (Cv.eq (congrArg dN (by have T:=zeN hgood hsame;rw[hnd,←hvv] at T;rw[T];try rfl)))) .nil)) O HSub.none ⟨O,O⟩
       · skip
         have hdiff:¬nA s=nD s:=by rw[hna,hnd];show ¬n+runL (inK [1,2]) (bl8 (s.extract n s.size))=n;omega
         refine g' 14 O (tP O (zy (c:=((n+(runL (inK [1,2]) (bl8 (s.extract n s.size))):Nat):Int)) O O (zn (by omega) (by omega))) (tP O (zw (a:=n) (c:=n+(runL (inK [1,2]) (bl8 (s.extract n s.size)))) O O O (by first | rfl | (show _=_;omega)) (by first | rfl | (show _=_;omega)) Tryz.runUnderlying9 (by omega) (by omega)) (g' 9 O ?_)))
         refine tD O (fun hc14=>?_) (fun hc14=>?_)
         · skip
           have hsec:secB (s.extract (nD s) (nA s))=1:=by rw[hna,hnd];show secB (s.extract n (n+runL (inK [1,2]) (bl8 (s.extract n s.size))))=1;rw[hc14];decide
           have hone:runL (inK [1,2]) (bl8 (s.extract n s.size))=1:=by have e1:=congrArg ByteArray.size hc14;rw[ByteArray.size_extract] at e1;have e2:(⟨#[115]⟩:ByteArray).size=1:=rfl;omega
           refine g' 9 O (tP O (zag O O (decide_eq_false (by decide))) (g' 3 O (tG O (zdS (c:=(1000000000:Int)) O O (by decide) (by decide)) (g' 4 O ?_))))
           refine tD O (fun hc15=>?_) (fun hc15=>?_)
           · skip
             have hs3:secB (s.extract (nD s) (nA s))=0∨1000000000 / secB (s.extract (nD s) (nA s))<vD s:=by rw[hsec,←hvv];first | exact .inl rfl | exact .inr (by omega)
             refine g' 2 O (tP O (zf [] [] (zv:=(.agg #[(.int .i64 0),(.int .i64 0),(.string ByteArray.empty)])) O O (.nil) (Tryz.runUnderlying135) Tryz.zeroValue135 zU ⟨O,O,O,trivial⟩ O) (gQ 6 [0] O O ?_))
             exact tRs O Tryz.results163 (.cons (zd (zh (X:=.agg [dI 0,dI 0,.v (.string ByteArray.empty)]) (d:=.agg [dI 0,dI 0,.v (.string ByteArray.empty)]) (i:=0) O O Tryz.isAgg135 Tryz.sizeOf135 O O) ((Cv.agg (gc (gc (.cons (cS) .nil)))).trans (Cv.eq (congrArg TokD.d (show (TokD.mk 0 0 ByteArray.empty)=(numT (bl8 s)).1 from(by rw[zbt hgood hdiff hs3];try rfl)))))) (.cons (zd (zc O) (Cv.eq (congrArg dN (by rw[zbt hgood hdiff hs3];try rfl)))) .nil)) O HSub.none ⟨O,O⟩
           · skip
             have hs4:¬(secB (s.extract (nD s) (nA s))=0∨1000000000 / secB (s.extract (nD s) (nA s))<vD s):=by rw[hsec,←hvv];omega
             refine g' 6 O (tP O (zeq (c:=((v*1:Nat):Int)) O O (zn (by omega) (by omega))) (tW O acs (zcE (v*1) (by omega)) (tP O (zf [0,2] [.const (.int .i64 4),.tmp 81] (zv:=(.agg #[(.int .i64 0),(.int .i64 0),(.string ByteArray.empty)])) O O (.cons (CellD.v O) (.cons CellD.s .nil)) (Tryz.runUnderlying135) Tryz.zeroValue135 zU ⟨O,O,O,trivial⟩ O) (g' 1 O (tP O (zy (c:=((n+1:Nat):Int)) O O (zn (by omega) (by omega))) (gQ 5 [0] O O ?_))))))
             exact tRs O Tryz.results163 (.cons (zd (zh (X:=.agg [dI 4,dI 0,.s (digB (v*1))]) (d:=.agg [dI 4,dI 0,.s (digB (v*1))]) (i:=0) O O Tryz.isAgg135 Tryz.sizeOf135 O O) (Cv.eq (congrArg TokD.d (show (TokD.mk 4 0 (digB (v*1)))=(numT (bl8 s)).1 from(by have T:=zcd hgood hdiff hs4;rw[hsec,←hvv] at T;rw[T];try (first | rfl | (show _=nA s;rw[hna];show n+1=n+runL (inK [1,2]) (bl8 (s.extract n s.size));omega))))))) (.cons (zd (zc O) (Cv.eq (congrArg dN (by have T:=zcd hgood hdiff hs4;rw[hsec,←hvv] at T;rw[T];try (first | rfl | (show _=nA s;rw[hna];show n+1=n+runL (inK [1,2]) (bl8 (s.extract n s.size));omega)))))) .nil)) O HSub.none ⟨O,O⟩
         · skip
           refine g' 6 O ?_
           refine tD O (fun hc16=>?_) (fun hc16=>?_)
           · skip
             have hsec:secB (s.extract (nD s) (nA s))=60:=by rw[hna,hnd];show secB (s.extract n (n+runL (inK [1,2]) (bl8 (s.extract n s.size))))=60;rw[hc16];decide
             have hone:runL (inK [1,2]) (bl8 (s.extract n s.size))=1:=by have e1:=congrArg ByteArray.size hc16;rw[ByteArray.size_extract] at e1;have e2:(⟨#[109]⟩:ByteArray).size=1:=rfl;omega
             refine g' 9 O (tP O (zag O O (decide_eq_false (by decide))) (g' 3 O (tG O (zdS (c:=(16666666:Int)) O O (by decide) (by decide)) (g' 4 O ?_))))
             refine tD O (fun hc17=>?_) (fun hc17=>?_)
             · skip
               have hs3:secB (s.extract (nD s) (nA s))=0∨1000000000 / secB (s.extract (nD s) (nA s))<vD s:=by rw[hsec,←hvv];first | exact .inl rfl | exact .inr (by omega)
               refine g' 2 O (tP O (zf [] [] (zv:=(.agg #[(.int .i64 0),(.int .i64 0),(.string ByteArray.empty)])) O O (.nil) (Tryz.runUnderlying135) Tryz.zeroValue135 zU ⟨O,O,O,trivial⟩ O) (gQ 6 [0] O O ?_))
               exact tRs O Tryz.results163 (.cons (zd (zh (X:=.agg [dI 0,dI 0,.v (.string ByteArray.empty)]) (d:=.agg [dI 0,dI 0,.v (.string ByteArray.empty)]) (i:=0) O O Tryz.isAgg135 Tryz.sizeOf135 O O) ((Cv.agg (gc (gc (.cons (cS) .nil)))).trans (Cv.eq (congrArg TokD.d (show (TokD.mk 0 0 ByteArray.empty)=(numT (bl8 s)).1 from(by rw[zbt hgood hdiff hs3];try rfl)))))) (.cons (zd (zc O) (Cv.eq (congrArg dN (by rw[zbt hgood hdiff hs3];try rfl)))) .nil)) O HSub.none ⟨O,O⟩
             · skip
               have hs4:¬(secB (s.extract (nD s) (nA s))=0∨1000000000 / secB (s.extract (nD s) (nA s))<vD s):=by rw[hsec,←hvv];omega
               refine g' 6 O (tP O (zeq (c:=((v*60:Nat):Int)) O O (zn (by omega) (by omega))) (tW O acs (zcE (v*60) (by omega)) (tP O (zf [0,2] [.const (.int .i64 4),.tmp 81] (zv:=(.agg #[(.int .i64 0),(.int .i64 0),(.string ByteArray.empty)])) O O (.cons (CellD.v O) (.cons CellD.s .nil)) (Tryz.runUnderlying135) Tryz.zeroValue135 zU ⟨O,O,O,trivial⟩ O) (g' 1 O (tP O (zy (c:=((n+1:Nat):Int)) O O (zn (by omega) (by omega))) (gQ 5 [0] O O ?_))))))
               exact tRs O Tryz.results163 (.cons (zd (zh (X:=.agg [dI 4,dI 0,.s (digB (v*60))]) (d:=.agg [dI 4,dI 0,.s (digB (v*60))]) (i:=0) O O Tryz.isAgg135 Tryz.sizeOf135 O O) (Cv.eq (congrArg TokD.d (show (TokD.mk 4 0 (digB (v*60)))=(numT (bl8 s)).1 from(by have T:=zcd hgood hdiff hs4;rw[hsec,←hvv] at T;rw[T];try (first | rfl | (show _=nA s;rw[hna];show n+1=n+runL (inK [1,2]) (bl8 (s.extract n s.size));omega))))))) (.cons (zd (zc O) (Cv.eq (congrArg dN (by have T:=zcd hgood hdiff hs4;rw[hsec,←hvv] at T;rw[T];try (first | rfl | (show _=nA s;rw[hna];show n+1=n+runL (inK [1,2]) (bl8 (s.extract n s.size));omega)))))) .nil)) O HSub.none ⟨O,O⟩
           · skip
             refine g' 6 O ?_
             refine tD O (fun hc18=>?_) (fun hc18=>?_)
             · skip
               have hsec:secB (s.extract (nD s) (nA s))=3600:=by rw[hna,hnd];show secB (s.extract n (n+runL (inK [1,2]) (bl8 (s.extract n s.size))))=3600;rw[hc18];decide
               have hone:runL (inK [1,2]) (bl8 (s.extract n s.size))=1:=by have e1:=congrArg ByteArray.size hc18;rw[ByteArray.size_extract] at e1;have e2:(⟨#[104]⟩:ByteArray).size=1:=rfl;omega
               refine g' 9 O (tP O (zag O O (decide_eq_false (by decide))) (g' 3 O (tG O (zdS (c:=(277777:Int)) O O (by decide) (by decide)) (g' 4 O ?_))))
               refine tD O (fun hc19=>?_) (fun hc19=>?_)
               · skip
                 have hs3:secB (s.extract (nD s) (nA s))=0∨1000000000 / secB (s.extract (nD s) (nA s))<vD s:=by rw[hsec,←hvv];first | exact .inl rfl | exact .inr (by omega)
                 refine g' 2 O (tP O (zf [] [] (zv:=(.agg #[(.int .i64 0),(.int .i64 0),(.string ByteArray.empty)])) O O (.nil) (Tryz.runUnderlying135) Tryz.zeroValue135 zU ⟨O,O,O,trivial⟩ O) (gQ 6 [0] O O ?_))
                 exact tRs O Tryz.results163 (.cons (zd (zh (X:=.agg [dI 0,dI 0,.v (.string ByteArray.empty)]) (d:=.agg [dI 0,dI 0,.v (.string ByteArray.empty)]) (i:=0) O O Tryz.isAgg135 Tryz.sizeOf135 O O) ((Cv.agg (gc (gc (.cons (cS) .nil)))).trans (Cv.eq (congrArg TokD.d (show (TokD.mk 0 0 ByteArray.empty)=(numT (bl8 s)).1 from(by rw[zbt hgood hdiff hs3];try rfl)))))) (.cons (zd (zc O) (Cv.eq (congrArg dN (by rw[zbt hgood hdiff hs3];try rfl)))) .nil)) O HSub.none ⟨O,O⟩
               · skip
                 have hs4:¬(secB (s.extract (nD s) (nA s))=0∨1000000000 / secB (s.extract (nD s) (nA s))<vD s):=by rw[hsec,←hvv];omega
                 refine g' 6 O (tP O (zeq (c:=((v*3600:Nat):Int)) O O (zn (by omega) (by omega))) (tW O acs (zcE (v*3600) (by omega)) (tP O (zf [0,2] [.const (.int .i64 4),.tmp 81] (zv:=(.agg #[(.int .i64 0),(.int .i64 0),(.string ByteArray.empty)])) O O (.cons (CellD.v O) (.cons CellD.s .nil)) (Tryz.runUnderlying135) Tryz.zeroValue135 zU ⟨O,O,O,trivial⟩ O) (g' 1 O (tP O (zy (c:=((n+1:Nat):Int)) O O (zn (by omega) (by omega))) (gQ 5 [0] O O ?_))))))
                 exact tRs O Tryz.results163 (.cons (zd (zh (X:=.agg [dI 4,dI 0,.s (digB (v*3600))]) (d:=.agg [dI 4,dI 0,.s (digB (v*3600))]) (i:=0) O O Tryz.isAgg135 Tryz.sizeOf135 O O) (Cv.eq (congrArg TokD.d (show (TokD.mk 4 0 (digB (v*3600)))=(numT (bl8 s)).1 from(by have T:=zcd hgood hdiff hs4;rw[hsec,←hvv] at T;rw[T];try (first | rfl | (show _=nA s;rw[hna];show n+1=n+runL (inK [1,2]) (bl8 (s.extract n s.size));omega))))))) (.cons (zd (zc O) (Cv.eq (congrArg dN (by have T:=zcd hgood hdiff hs4;rw[hsec,←hvv] at T;rw[T];try (first | rfl | (show _=nA s;rw[hna];show n+1=n+runL (inK [1,2]) (bl8 (s.extract n s.size));omega)))))) .nil)) O HSub.none ⟨O,O⟩
             · skip
               have hsec:secB (s.extract (nD s) (nA s))=0:=by rw[hna,hnd];show secB (s.extract n (n+runL (inK [1,2]) (bl8 (s.extract n s.size))))=0;unfold secB;rw[if_neg hc14,if_neg hc16,if_neg hc18]
               refine g' 7 O (tP O (zag O O (decide_eq_true O)) (g' 8 O ?_))
               have hs3:secB (s.extract (nD s) (nA s))=0∨1000000000 / secB (s.extract (nD s) (nA s))<vD s:=by rw[hsec,←hvv];first | exact .inl rfl | exact .inr (by omega)
               refine g' 3 O (tP O (zf [] [] (zv:=(.agg #[(.int .i64 0),(.int .i64 0),(.string ByteArray.empty)])) O O (.nil) (Tryz.runUnderlying135) Tryz.zeroValue135 zU ⟨O,O,O,trivial⟩ O) (gQ 6 [0] O O ?_))
               exact tRs O Tryz.results163 (.cons (zd (zh (X:=.agg [dI 0,dI 0,.v (.string ByteArray.empty)]) (d:=.agg [dI 0,dI 0,.v (.string ByteArray.empty)]) (i:=0) O O Tryz.isAgg135 Tryz.sizeOf135 O O) ((Cv.agg (gc (gc (.cons (cS) .nil)))).trans (Cv.eq (congrArg TokD.d (show (TokD.mk 0 0 ByteArray.empty)=(numT (bl8 s)).1 from(by rw[zbt hgood hdiff hs3];try rfl)))))) (.cons (zd (zc O) (Cv.eq (congrArg dN (by rw[zbt hgood hdiff hs3];try rfl)))) .nil)) O HSub.none ⟨O,O⟩
 · skip
   refine g' 3 O (tP O (zu O Tryz.runUnderlying9) (tP O (za5 O O (decide_eq_false hc2)) (g' 14 O ?_)))
   have hnd:nD s=n:=hV.fin (by omega)
   have hna:=hV.all hnd
   have hnm:=zaX (inK [1,2]) (s.extract n s.size)
   rw[ByteArray.size_extract] at hnm
   refine g' 12 O ?_
   refine tOr 2 2 (c:=decide ((1000000000000:Int)<((v:Nat):Int))) O O O O O O (fun hb20 nx21=>?_) ?_
   · skip
     have hf22:=of_decide_eq_false hb20
     refine g' 2 O ?_
     exact nx21 _ O O (kx 2 O O)
   refine g' 2 O ?_
   refine tC O (fun hc23=>?_) (fun hc23=>?_)
   · simp only[bX,bJ] at hc23
     have hbad:13<nD s∨1000000000000<vD s:=by rw[hnd];by_cases h13:13<n;exact .inl h13;exact .inr (by rw[←hV.val hnd (by omega)];omega)
     refine g' 2 O (tP O (zf [] [] (zv:=(.agg #[(.int .i64 0),(.int .i64 0),(.string ByteArray.empty)])) O O (.nil) (Tryz.runUnderlying135) Tryz.zeroValue135 zU ⟨O,O,O,trivial⟩ O) (gQ 6 [0] O O ?_))
     exact tRs O Tryz.results163 (.cons (zd (zh (X:=.agg [dI 0,dI 0,.v (.string ByteArray.empty)]) (d:=.agg [dI 0,dI 0,.v (.string ByteArray.empty)]) (i:=0) O O Tryz.isAgg135 Tryz.sizeOf135 O O) ((Cv.agg (gc (gc (.cons (cS) .nil)))).trans (Cv.eq (congrArg TokD.d (show (TokD.mk 0 0 ByteArray.empty)=(numT (bl8 s)).1 from(by rw[zd5 hbad];try rfl)))))) (.cons (zd (zc O) (Cv.eq (congrArg dN (by rw[zd5 hbad];try rfl)))) .nil)) O HSub.none ⟨O,O⟩
   · simp only[bX,bJ] at hc23
     have hvv:=hV.val hnd (by omega)
     have hgood:¬(13<nD s∨1000000000000<vD s):=by rw[hnd,←hvv];omega
     refine g' 6 O (tP O (zw (a:=n) (c:=s.size) O O O (by first | rfl | (show _=_;omega)) (by first | rfl | (show _=_;omega)) Tryz.runUnderlying9 (by omega) (by omega)) (tW O acs (rword_c (s.extract n s.size)) (g' 14 O ?_)))
     refine tD O (fun hc24=>?_) (fun hc24=>?_)
     · skip
       have hsame:nA s=nD s:=by rw[hna,hnd];show n+runL (inK [1,2]) (bl8 (s.extract n s.size))=n;omega
       refine g' 3 O (tW O acs (zcE v (by omega)) (tP O (zf [0,2] [.const (.int .i64 2),.tmp 54] (zv:=(.agg #[(.int .i64 0),(.int .i64 0),(.string ByteArray.empty)])) O O (.cons (CellD.v O) (.cons CellD.s .nil)) (Tryz.runUnderlying135) Tryz.zeroValue135 zU ⟨O,O,O,trivial⟩ O) (gQ 7 [0] O O ?_)))
       exact tRs O Tryz.results163 (.cons (zd (zh (X:=.agg [dI 2,dI 0,.s (digB v)]) (d:=.agg [dI 2,dI 0,.s (digB v)]) (i:=0) O O Tryz.isAgg135 Tryz.sizeOf135 O O) (Cv.eq (congrArg TokD.d (show (TokD.mk 2 0 (digB v))=(numT (bl8 s)).1 from(by have T:=zeN hgood hsame;rw[hnd,←hvv] at T;rw[T];try rfl))))) (.cons (zd (zc O) (Cv.eq (congrArg dN (by have T:=zeN hgood hsame;rw[hnd,←hvv] at T;rw[T];try rfl)))) .nil)) O HSub.none ⟨O,O⟩
     · skip
       have hdiff:¬nA s=nD s:=by rw[hna,hnd];show ¬n+runL (inK [1,2]) (bl8 (s.extract n s.size))=n;omega
       refine g' 14 O (tP O (zy (c:=((n+(runL (inK [1,2]) (bl8 (s.extract n s.size))):Nat):Int)) O O (zn (by omega) (by omega))) (tP O (zw (a:=n) (c:=n+(runL (inK [1,2]) (bl8 (s.extract n s.size)))) O O O (by first | rfl | (show _=_;omega)) (by first | rfl | (show _=_;omega)) Tryz.runUnderlying9 (by omega) (by omega)) (g' 9 O ?_)))
       refine tD O (fun hc25=>?_) (fun hc25=>?_)
       · skip
         have hsec:secB (s.extract (nD s) (nA s))=1:=by rw[hna,hnd];show secB (s.extract n (n+runL (inK [1,2]) (bl8 (s.extract n s.size))))=1;rw[hc25];decide
         have hone:runL (inK [1,2]) (bl8 (s.extract n s.size))=1:=by have e1:=congrArg ByteArray.size hc25;rw[ByteArray.size_extract] at e1;have e2:(⟨#[115]⟩:ByteArray).size=1:=rfl;omega
         refine g' 9 O (tP O (zag O O (decide_eq_false (by decide))) (g' 3 O (tG O (zdS (c:=(1000000000:Int)) O O (by decide) (by decide)) (g' 4 O ?_))))
         refine tD O (fun hc26=>?_) (fun hc26=>?_)
         · skip
           have hs3:secB (s.extract (nD s) (nA s))=0∨1000000000 / secB (s.extract (nD s) (nA s))<vD s:=by rw[hsec,←hvv];first | exact .inl rfl | exact .inr (by omega)
           refine g' 2 O (tP O (zf [] [] (zv:=(.agg #[(.int .i64 0),(.int .i64 0),(.string ByteArray.empty)])) O O (.nil) (Tryz.runUnderlying135) Tryz.zeroValue135 zU ⟨O,O,O,trivial⟩ O) (gQ 6 [0] O O ?_))
           exact tRs O Tryz.results163 (.cons (zd (zh (X:=.agg [dI 0,dI 0,.v (.string ByteArray.empty)]) (d:=.agg [dI 0,dI 0,.v (.string ByteArray.empty)]) (i:=0) O O Tryz.isAgg135 Tryz.sizeOf135 O O) ((Cv.agg (gc (gc (.cons (cS) .nil)))).trans (Cv.eq (congrArg TokD.d (show (TokD.mk 0 0 ByteArray.empty)=(numT (bl8 s)).1 from(by rw[zbt hgood hdiff hs3];try rfl)))))) (.cons (zd (zc O) (Cv.eq (congrArg dN (by rw[zbt hgood hdiff hs3];try rfl)))) .nil)) O HSub.none ⟨O,O⟩
         · skip
           have hs4:¬(secB (s.extract (nD s) (nA s))=0∨1000000000 / secB (s.extract (nD s) (nA s))<vD s):=by rw[hsec,←hvv];omega
           refine g' 6 O (tP O (zeq (c:=((v*1:Nat):Int)) O O (zn (by omega) (by omega))) (tW O acs (zcE (v*1) (by omega)) (tP O (zf [0,2] [.const (.int .i64 4),.tmp 81] (zv:=(.agg #[(.int .i64 0),(.int .i64 0),(.string ByteArray.empty)])) O O (.cons (CellD.v O) (.cons CellD.s .nil)) (Tryz.runUnderlying135) Tryz.zeroValue135 zU ⟨O,O,O,trivial⟩ O) (g' 1 O (tP O (zy (c:=((n+1:Nat):Int)) O O (zn (by omega) (by omega))) (gQ 5 [0] O O ?_))))))
           exact tRs O Tryz.results163 (.cons (zd (zh (X:=.agg [dI 4,dI 0,.s (digB (v*1))]) (d:=.agg [dI 4,dI 0,.s (digB (v*1))]) (i:=0) O O Tryz.isAgg135 Tryz.sizeOf135 O O) (Cv.eq (congrArg TokD.d (show (TokD.mk 4 0 (digB (v*1)))=(numT (bl8 s)).1 from(by have T:=zcd hgood hdiff hs4;rw[hsec,←hvv] at T;rw[T];try (first | rfl | (show _=nA s;rw[hna];show n+1=n+runL (inK [1,2]) (bl8 (s.extract n s.size));omega))))))) (.cons (zd (zc O) (Cv.eq (congrArg dN (by have T:=zcd hgood hdiff hs4;rw[hsec,←hvv] at T;rw[T];try (first | rfl | (show _=nA s;rw[hna];show n+1=n+runL (inK [1,2]) (bl8 (s.extract n s.size));omega)))))) .nil)) O HSub.none ⟨O,O⟩
       · skip
         refine g' 6 O ?_
         refine tD O (fun hc27=>?_) (fun hc27=>?_)
         · skip
           have hsec:secB (s.extract (nD s) (nA s))=60:=by rw[hna,hnd];show secB (s.extract n (n+runL (inK [1,2]) (bl8 (s.extract n s.size))))=60;rw[hc27];decide
           have hone:runL (inK [1,2]) (bl8 (s.extract n s.size))=1:=by have e1:=congrArg ByteArray.size hc27;rw[ByteArray.size_extract] at e1;have e2:(⟨#[109]⟩:ByteArray).size=1:=rfl;omega
           refine g' 9 O (tP O (zag O O (decide_eq_false (by decide))) (g' 3 O (tG O (zdS (c:=(16666666:Int)) O O (by decide) (by decide)) (g' 4 O ?_))))
           refine tD O (fun hc28=>?_) (fun hc28=>?_)
           · skip
             have hs3:secB (s.extract (nD s) (nA s))=0∨1000000000 / secB (s.extract (nD s) (nA s))<vD s:=by rw[hsec,←hvv];first | exact .inl rfl | exact .inr (by omega)
             refine g' 2 O (tP O (zf [] [] (zv:=(.agg #[(.int .i64 0),(.int .i64 0),(.string ByteArray.empty)])) O O (.nil) (Tryz.runUnderlying135) Tryz.zeroValue135 zU ⟨O,O,O,trivial⟩ O) (gQ 6 [0] O O ?_))
             exact tRs O Tryz.results163 (.cons (zd (zh (X:=.agg [dI 0,dI 0,.v (.string ByteArray.empty)]) (d:=.agg [dI 0,dI 0,.v (.string ByteArray.empty)]) (i:=0) O O Tryz.isAgg135 Tryz.sizeOf135 O O) ((Cv.agg (gc (gc (.cons (cS) .nil)))).trans (Cv.eq (congrArg TokD.d (show (TokD.mk 0 0 ByteArray.empty)=(numT (bl8 s)).1 from(by rw[zbt hgood hdiff hs3];try rfl)))))) (.cons (zd (zc O) (Cv.eq (congrArg dN (by rw[zbt hgood hdiff hs3];try rfl)))) .nil)) O HSub.none ⟨O,O⟩
           · skip
             have hs4:¬(secB (s.extract (nD s) (nA s))=0∨1000000000 / secB (s.extract (nD s) (nA s))<vD s):=by rw[hsec,←hvv];omega
             refine g' 6 O (tP O (zeq (c:=((v*60:Nat):Int)) O O (zn (by omega) (by omega))) (tW O acs (zcE (v*60) (by omega)) (tP O (zf [0,2] [.const (.int .i64 4),.tmp 81] (zv:=(.agg #[(.int .i64 0),(.int .i64 0),(.string ByteArray.empty)])) O O (.cons (CellD.v O) (.cons CellD.s .nil)) (Tryz.runUnderlying135) Tryz.zeroValue135 zU ⟨O,O,O,trivial⟩ O) (g' 1 O (tP O (zy (c:=((n+1:Nat):Int)) O O (zn (by omega) (by omega))) (gQ 5 [0] O O ?_))))))
             exact tRs O Tryz.results163 (.cons (zd (zh (X:=.agg [dI 4,dI 0,.s (digB (v*60))]) (d:=.agg [dI 4,dI 0,.s (digB (v*60))]) (i:=0) O O Tryz.isAgg135 Tryz.sizeOf135 O O) (Cv.eq (congrArg TokD.d (show (TokD.mk 4 0 (digB (v*60)))=(numT (bl8 s)).1 from(by have T:=zcd hgood hdiff hs4;rw[hsec,←hvv] at T;rw[T];try (first | rfl | (show _=nA s;rw[hna];show n+1=n+runL (inK [1,2]) (bl8 (s.extract n s.size));omega))))))) (.cons (zd (zc O) (Cv.eq (congrArg dN (by have T:=zcd hgood hdiff hs4;rw[hsec,←hvv] at T;rw[T];try (first | rfl | (show _=nA s;rw[hna];show n+1=n+runL (inK [1,2]) (bl8 (s.extract n s.size));omega)))))) .nil)) O HSub.none ⟨O,O⟩
         · skip
           refine g' 6 O ?_
           refine tD O (fun hc29=>?_) (fun hc29=>?_)
           · skip
             have hsec:secB (s.extract (nD s) (nA s))=3600:=by rw[hna,hnd];show secB (s.extract n (n+runL (inK [1,2]) (bl8 (s.extract n s.size))))=3600;rw[hc29];decide
             have hone:runL (inK [1,2]) (bl8 (s.extract n s.size))=1:=by have e1:=congrArg ByteArray.size hc29;rw[ByteArray.size_extract] at e1;have e2:(⟨#[104]⟩:ByteArray).size=1:=rfl;omega
             refine g' 9 O (tP O (zag O O (decide_eq_false (by decide))) (g' 3 O (tG O (zdS (c:=(277777:Int)) O O (by decide) (by decide)) (g' 4 O ?_))))
             refine tD O (fun hc30=>?_) (fun hc30=>?_)
             · skip
               have hs3:secB (s.extract (nD s) (nA s))=0∨1000000000 / secB (s.extract (nD s) (nA s))<vD s:=by rw[hsec,←hvv];first | exact .inl rfl | exact .inr (by omega)
               refine g' 2 O (tP O (zf [] [] (zv:=(.agg #[(.int .i64 0),(.int .i64 0),(.string ByteArray.empty)])) O O (.nil) (Tryz.runUnderlying135) Tryz.zeroValue135 zU ⟨O,O,O,trivial⟩ O) (gQ 6 [0] O O ?_))
               exact tRs O Tryz.results163 (.cons (zd (zh (X:=.agg [dI 0,dI 0,.v (.string ByteArray.empty)]) (d:=.agg [dI 0,dI 0,.v (.string ByteArray.empty)]) (i:=0) O O Tryz.isAgg135 Tryz.sizeOf135 O O) ((Cv.agg (gc (gc (.cons (cS) .nil)))).trans (Cv.eq (congrArg TokD.d (show (TokD.mk 0 0 ByteArray.empty)=(numT (bl8 s)).1 from(by rw[zbt hgood hdiff hs3];try rfl)))))) (.cons (zd (zc O) (Cv.eq (congrArg dN (by rw[zbt hgood hdiff hs3];try rfl)))) .nil)) O HSub.none ⟨O,O⟩
             · skip
               have hs4:¬(secB (s.extract (nD s) (nA s))=0∨1000000000 / secB (s.extract (nD s) (nA s))<vD s):=by rw[hsec,←hvv];omega
               refine g' 6 O (tP O (zeq (c:=((v*3600:Nat):Int)) O O (zn (by omega) (by omega))) (tW O acs (zcE (v*3600) (by omega)) (tP O (zf [0,2] [.const (.int .i64 4),.tmp 81] (zv:=(.agg #[(.int .i64 0),(.int .i64 0),(.string ByteArray.empty)])) O O (.cons (CellD.v O) (.cons CellD.s .nil)) (Tryz.runUnderlying135) Tryz.zeroValue135 zU ⟨O,O,O,trivial⟩ O) (g' 1 O (tP O (zy (c:=((n+1:Nat):Int)) O O (zn (by omega) (by omega))) (gQ 5 [0] O O ?_))))))
               exact tRs O Tryz.results163 (.cons (zd (zh (X:=.agg [dI 4,dI 0,.s (digB (v*3600))]) (d:=.agg [dI 4,dI 0,.s (digB (v*3600))]) (i:=0) O O Tryz.isAgg135 Tryz.sizeOf135 O O) (Cv.eq (congrArg TokD.d (show (TokD.mk 4 0 (digB (v*3600)))=(numT (bl8 s)).1 from(by have T:=zcd hgood hdiff hs4;rw[hsec,←hvv] at T;rw[T];try (first | rfl | (show _=nA s;rw[hna];show n+1=n+runL (inK [1,2]) (bl8 (s.extract n s.size));omega))))))) (.cons (zd (zc O) (Cv.eq (congrArg dN (by have T:=zcd hgood hdiff hs4;rw[hsec,←hvv] at T;rw[T];try (first | rfl | (show _=nA s;rw[hna];show n+1=n+runL (inK [1,2]) (bl8 (s.extract n s.size));omega)))))) .nil)) O HSub.none ⟨O,O⟩
           · skip
             have hsec:secB (s.extract (nD s) (nA s))=0:=by rw[hna,hnd];show secB (s.extract n (n+runL (inK [1,2]) (bl8 (s.extract n s.size))))=0;unfold secB;rw[if_neg hc25,if_neg hc27,if_neg hc29]
             refine g' 7 O (tP O (zag O O (decide_eq_true O)) (g' 8 O ?_))
             have hs3:secB (s.extract (nD s) (nA s))=0∨1000000000 / secB (s.extract (nD s) (nA s))<vD s:=by rw[hsec,←hvv];first | exact .inl rfl | exact .inr (by omega)
             refine g' 3 O (tP O (zf [] [] (zv:=(.agg #[(.int .i64 0),(.int .i64 0),(.string ByteArray.empty)])) O O (.nil) (Tryz.runUnderlying135) Tryz.zeroValue135 zU ⟨O,O,O,trivial⟩ O) (gQ 6 [0] O O ?_))
             exact tRs O Tryz.results163 (.cons (zd (zh (X:=.agg [dI 0,dI 0,.v (.string ByteArray.empty)]) (d:=.agg [dI 0,dI 0,.v (.string ByteArray.empty)]) (i:=0) O O Tryz.isAgg135 Tryz.sizeOf135 O O) ((Cv.agg (gc (gc (.cons (cS) .nil)))).trans (Cv.eq (congrArg TokD.d (show (TokD.mk 0 0 ByteArray.empty)=(numT (bl8 s)).1 from(by rw[zbt hgood hdiff hs3];try rfl)))))) (.cons (zd (zc O) (Cv.eq (congrArg dN (by rw[zbt hgood hdiff hs3];try rfl)))) .nil)) O HSub.none ⟨O,O⟩
end Lp
set_option linter.unusedSimpArgs false
set_option linter.unusedVariables false
set_option maxHeartbeats 4000000
set_option maxRecDepth 100000
namespace Lp
open Go Go.RowKit Go.Proofs
theorem rtok_c (s:ByteArray) (hs:s.size≤1000000) (hz:0<s.size):
 CD Tryz.prog 138 [] [.s s] (isR (.tup [TokD.d ((zg (bl8 s)).1),dN ((zg (bl8 s)).2)])):=by
 refine tZ Tryz.func138 O O (fun C=>?_)
 refine T.bd 0 O (fun bd0=>?_)
 have sz0:s.size≤9223372036854775807:=bd0
 have hnr:=zaX (inK [1,2]) s
 have hdl:=za9 s 0
 have hwl:=wc_le _ (bl8 s) O
 rw[zF] at hwl
 refine g' 2 O ?_
 refine tA O (fun g1=>?_)
 refine g' 6 O (tW O acs (rfirst_c s (by first | omega | (simp only[ByteArray.size_extract];omega))) (g' 7 O (tW O acs (zcO ((decR s 0:Nat):Int)) (g' 9 O ?_))))
 refine tD O (fun hc2=>?_) (fun hc2=>?_)
 · skip
   have q1:zt ((decR s 0:Nat):Int)=1:=hc2
   refine g' 3 O (tW O acs (rword_c s) (g' 14 O ?_))
   refine tD O (fun hc3=>?_) (fun hc3=>?_)
   · skip
     have hwc:¬wcL (bl8 s)≤30:=by have:=hc3;omega
     refine g' 2 O (tP O (zf [] [] (zv:=(.agg #[(.int .i64 0),(.int .i64 0),(.string ByteArray.empty)])) O O (.nil) (Tryz.runUnderlying135) Tryz.zeroValue135 zU ⟨O,O,O,trivial⟩ O) (gQ 8 [0] O O ?_))
     exact tRs O Tryz.results138 (.cons (zd (zh (X:=.agg [dI 0,dI 0,.v (.string ByteArray.empty)]) (d:=.agg [dI 0,dI 0,.v (.string ByteArray.empty)]) (i:=0) O O Tryz.isAgg135 Tryz.sizeOf135 O O) ((Cv.agg (gc (gc (.cons (cS) .nil)))).trans (Cv.eq (congrArg TokD.d (show (TokD.mk 0 0 ByteArray.empty)=(zg (bl8 s)).1 from(by rw[zdB q1,wordT_count (by rw[dec0];exact q1),if_neg hwc];try rfl)))))) (.cons (zd (zc O) (Cv.eq (congrArg dN (by rw[zdB q1,wordT_count (by rw[dec0];exact q1),if_neg hwc];try rfl)))) .nil)) O HSub.none ⟨O,O⟩
   · skip
     have hwc:wcL (bl8 s)≤30:=by have:=hc3;omega
     refine g' 6 O (tP O (zw (a:=0) (c:=runL (inK [1,2]) (bl8 s)) O O O (by first | rfl | (show _=_;omega)) (by first | rfl | (show _=_;omega)) Tryz.runUnderlying9 (by omega) (by omega)) (tP O (zf [0,2] [.const (.int .i64 1),.tmp 27] (zv:=(.agg #[(.int .i64 0),(.int .i64 0),(.string ByteArray.empty)])) O O (.cons (CellD.v O) (.cons CellD.s .nil)) (Tryz.runUnderlying135) Tryz.zeroValue135 zU ⟨O,O,O,trivial⟩ O) (gQ 8 [0] O O ?_)))
     exact tRs O Tryz.results138 (.cons (zd (zh (X:=.agg [dI 1,dI 0,.s (s.extract 0 (runL (inK [1,2]) (bl8 s)))]) (d:=.agg [dI 1,dI 0,.s (s.extract 0 (runL (inK [1,2]) (bl8 s)))]) (i:=0) O O Tryz.isAgg135 Tryz.sizeOf135 O O) (Cv.eq (congrArg TokD.d (show (TokD.mk 1 0 (s.extract 0 (runL (inK [1,2]) (bl8 s))))=(zg (bl8 s)).1 from(by rw[zdB q1,wordT_count (by rw[dec0];exact q1),if_pos hwc,←zbI (zaX _ s)];try rfl))))) (.cons (zd (zc O) (Cv.eq (congrArg dN (by rw[zdB q1,wordT_count (by rw[dec0];exact q1),if_pos hwc,←zbI (zaX _ s)];try rfl)))) .nil)) O HSub.none ⟨O,O⟩
 · skip
   have q1:¬zt ((decR s 0:Nat):Int)=1:=hc2
   refine g' 6 O ?_
   refine tD O (fun hc4=>?_) (fun hc4=>?_)
   · skip
     have q2:zt ((decR s 0:Nat):Int)=2:=hc4
     refine g' 3 O (tW O acs (rnum_c s (by omega)) (gQ 9 [0] O O ?_))
     exact tRs O Tryz.results138 (.cons (zd (zh (X:=TokD.d ((numT (bl8 s)).1)) (d:=TokD.d ((numT (bl8 s)).1)) (i:=0) O O Tryz.isAgg135 Tryz.sizeOf135 O O) (Cv.eq (congrArg TokD.d (show (numT (bl8 s)).1=(zg (bl8 s)).1 from(by rw[firstT_2 q1 q2];try rfl))))) (.cons (zd (zc O) (Cv.eq (congrArg dN (by rw[firstT_2 q1 q2];try rfl)))) .nil)) O HSub.none ⟨O,O⟩
   · skip
     have q2:¬zt ((decR s 0:Nat):Int)=2:=hc4
     refine g' 10 O ?_
     refine tD O (fun hc5=>?_) (fun hc5=>?_)
     · skip
       have q3:decR s 0=34:=by have:=hc5;omega
       refine g' 7 O (tl1 (fun (a_:Nat)=>[(0,.s s),(2,dP g1 0),(7,dN a_)]) (fun a_=>[.bx g1 135 (.agg [dI 0,dI 0,.v (.string ByteArray.empty)])]) (fun a_=>(RqI s a_)) (fun a_=>s.size+1-a_) 1 O ⟨sk O,sk O,sc O (Cv.eq O),trivial⟩ HSub.rfl' (RqI.zero hz) ?_)
       rintro i hq
       have hq1:=hq.1
       have hq2:=hq.2.1
       refine g' 5 O (tP O (zu O Tryz.runUnderlying9) (g' 3 O ?_))
       refine tD O (fun hc6=>?_) (fun hc6=>?_)
       · skip
         refine g' 9 O ?_
         obtain ⟨u1,hu1⟩:=zai s i (by omega)
         have hlu1:=u1.toNat_lt
         refine tP O (zl (k:=i) O O Tryz.runUnderlying9 (by first | rfl | omega) hu1) (g' 3 O ?_)
         refine tD O (fun hc7=>?_) (fun hc7=>?_)
         · skip
           refine g' 3 O (tP O (zy (c:=((i+1:Nat):Int)) O O (zn (by omega) (by omega))) (g' 9 O (tP O (zy (c:=(((i+1)+1:Nat):Int)) O O (zn (by omega) (by omega))) (g' 2 O ?_))))
           exact tp1 ((i+1)+1) (sa O) HSub.rfl' (hq.esc hu1 (by omega)) (by omega)
         · skip
           refine g' 6 O (tP O (zl (k:=i) O O Tryz.runUnderlying9 (by first | rfl | omega) hu1) (g' 3 O ?_))
           refine tD O (fun hc8=>?_) (fun hc8=>?_)
           · skip
             have hfd:=hq.found hz q3 hu1 (by omega)
             refine g' 4 O (tP O (zy (c:=((i+1:Nat):Int)) O O (zn (by omega) (by omega))) (tP O (zw (a:=0) (c:=i+1) O O O (by first | rfl | (show _=_;omega)) (by first | rfl | (show _=_;omega)) Tryz.runUnderlying9 (by omega) (by omega)) (tW O acs (rUnq_c (s.extract 0 (i+1)) (by first | omega | (simp only[ByteArray.size_extract];omega))) (g' 14 O ?_))))
             refine tC O (fun hc9=>?_) (fun hc9=>?_)
             · simp only[bX,bJ] at hc9
               refine g' 2 O (tP O (zf [] [] (zv:=(.agg #[(.int .i64 0),(.int .i64 0),(.string ByteArray.empty)])) O O (.nil) (Tryz.runUnderlying135) Tryz.zeroValue135 zU ⟨O,O,O,trivial⟩ O) (gQ 12 [0] O O ?_))
               exact tRs O Tryz.results138 (.cons (zd (zh (X:=.agg [dI 0,dI 0,.v (.string ByteArray.empty)]) (d:=.agg [dI 0,dI 0,.v (.string ByteArray.empty)]) (i:=0) O O Tryz.isAgg135 Tryz.sizeOf135 O O) ((Cv.agg (gc (gc (.cons (cS) .nil)))).trans (Cv.eq (congrArg TokD.d (show (TokD.mk 0 0 ByteArray.empty)=(zg (bl8 s)).1 from(by rw[zcy q1 q2 q3,strT_f hfd (by omega) (by simpa using hc9)];try rfl)))))) (.cons (zd (zc O) (Cv.eq (congrArg dN (by rw[zcy q1 q2 q3,strT_f hfd (by omega) (by simpa using hc9)];try rfl)))) .nil)) O HSub.none ⟨O,O⟩
             · simp only[bX,bJ] at hc9
               refine g' 5 O (tP O (zf [0,2] [.const (.int .i64 3),.tmp 65] (zv:=(.agg #[(.int .i64 0),(.int .i64 0),(.string ByteArray.empty)])) O O (.cons (CellD.v O) (.cons CellD.s .nil)) (Tryz.runUnderlying135) Tryz.zeroValue135 zU ⟨O,O,O,trivial⟩ O) (g' 1 O (tP O (zy (c:=((i+1:Nat):Int)) O O (zn (by omega) (by omega))) (gQ 11 [0] O O ?_))))
               exact tRs O Tryz.results138 (.cons (zd (zh (X:=.agg [dI 3,dI 0,.s (unqT (s.extract 0 (i+1)))]) (d:=.agg [dI 3,dI 0,.s (unqT (s.extract 0 (i+1)))]) (i:=0) O O Tryz.isAgg135 Tryz.sizeOf135 O O) (Cv.eq (congrArg TokD.d (show (TokD.mk 3 0 (unqT (s.extract 0 (i+1))))=(zg (bl8 s)).1 from(by rw[zcy q1 q2 q3,strT_t hfd (by omega) (by simpa using hc9)];try rfl))))) (.cons (zd (zc O) (Cv.eq (congrArg dN (by rw[zcy q1 q2 q3,strT_t hfd (by omega) (by simpa using hc9)];try rfl)))) .nil)) O HSub.none ⟨O,O⟩
           · skip
             refine g' 5 O (tP O (zy (c:=((i+1:Nat):Int)) O O (zn (by omega) (by omega))) (g' 2 O ?_))
             exact tp1 (i+1) (sa O) HSub.rfl' (hq.raw hu1 (by omega) (by omega)) (by omega)
       · skip
         refine g' 7 O (tP O (zf [] [] (zv:=(.agg #[(.int .i64 0),(.int .i64 0),(.string ByteArray.empty)])) O O (.nil) (Tryz.runUnderlying135) Tryz.zeroValue135 zU ⟨O,O,O,trivial⟩ O) (gQ 6 [0] O O ?_))
         exact tRs O Tryz.results138 (.cons (zd (zh (X:=.agg [dI 0,dI 0,.v (.string ByteArray.empty)]) (d:=.agg [dI 0,dI 0,.v (.string ByteArray.empty)]) (i:=0) O O Tryz.isAgg135 Tryz.sizeOf135 O O) ((Cv.agg (gc (gc (.cons (cS) .nil)))).trans (Cv.eq (congrArg TokD.d (show (TokD.mk 0 0 ByteArray.empty)=(zg (bl8 s)).1 from(by rw[zcy q1 q2 q3,hq.none hz q3 (by omega)];try rfl)))))) (.cons (zd (zc O) (Cv.eq (congrArg dN (by rw[zcy q1 q2 q3,hq.none hz q3 (by omega)];try rfl)))) .nil)) O HSub.none ⟨O,O⟩
     · skip
       have q3:¬decR s 0=34:=by have:=hc5;omega
       have hsg:=SgI.zero (s:=s) hz
       refine g' 6 O (tP O (zu O Tryz.runUnderlying9) (tP O ((p_min O O O).cv (Cv.eq (congrArg dI (show min (2:Int) ((s.size:Nat):Int)=((min 2 s.size:Nat):Int) by omega)))) (g' 4 O (tl1 (fun (a_:Nat)=>[(0,.s s),(2,dP g1 0),(10,dN a_)]) (fun a_=>[.bx g1 135 (.agg [dI 0,dI 0,.v (.string ByteArray.empty)])]) (fun a_=>(SgI s a_)) (fun a_=>a_) (min 2 s.size) O (sa O) HSub.rfl' hsg ?_))))
       rintro n hg
       have hg1:=hg.1
       have hg2:=hg.2.1
       refine g' 7 O ?_
       refine tD O (fun hc10=>?_) (fun hc10=>?_)
       · skip
         refine g' 8 O (tP O (zw (a:=0) (c:=n) O O O (by first | rfl | (show _=_;omega)) (by first | rfl | (show _=_;omega)) Tryz.runUnderlying9 (by omega) (by omega)) (tW O acs (rSign_c (s.extract 0 n)) (g' 2 O ?_)))
         refine tC O (fun hc11=>?_) (fun hc11=>?_)
         · skip
           refine g' 4 O (tP O (zw (a:=0) (c:=n) O O O (by first | rfl | (show _=_;omega)) (by first | rfl | (show _=_;omega)) Tryz.runUnderlying9 (by omega) (by omega)) (tP O (zf [0,2] [.const (.int .i64 5),.tmp 83] (zv:=(.agg #[(.int .i64 0),(.int .i64 0),(.string ByteArray.empty)])) O O (.cons (CellD.v O) (.cons CellD.s .nil)) (Tryz.runUnderlying135) Tryz.zeroValue135 zU ⟨O,O,O,trivial⟩ O) (gQ 11 [0] O O ?_)))
           exact tRs O Tryz.results138 (.cons (zd (zh (X:=.agg [dI 5,dI 0,.s (s.extract 0 n)]) (d:=.agg [dI 5,dI 0,.s (s.extract 0 n)]) (i:=0) O O Tryz.isAgg135 Tryz.sizeOf135 O O) (Cv.eq (congrArg TokD.d (show (TokD.mk 5 0 (s.extract 0 n))=(zg (bl8 s)).1 from(by rw[zdA q1 q2 q3,hg.yes (by omega) (by simpa using hc11)];try rfl))))) (.cons (zd (zc O) (Cv.eq (congrArg dN (by rw[zdA q1 q2 q3,hg.yes (by omega) (by simpa using hc11)];try rfl)))) .nil)) O HSub.none ⟨O,O⟩
         · skip
           refine g' 5 O (tP O (zcI (c:=((n-1:Nat):Int)) O O (zn (by omega) (by omega))) (g' 2 O ?_))
           exact tp1 (n-1) (sa O) HSub.rfl' (hg.next (by omega) (by simpa using hc11)) (by omega)
       · skip
         refine g' 7 O (tP O (zf [] [] (zv:=(.agg #[(.int .i64 0),(.int .i64 0),(.string ByteArray.empty)])) O O (.nil) (Tryz.runUnderlying135) Tryz.zeroValue135 zU ⟨O,O,O,trivial⟩ O) (gQ 5 [0] O O ?_))
         exact tRs O Tryz.results138 (.cons (zd (zh (X:=.agg [dI 0,dI 0,.v (.string ByteArray.empty)]) (d:=.agg [dI 0,dI 0,.v (.string ByteArray.empty)]) (i:=0) O O Tryz.isAgg135 Tryz.sizeOf135 O O) ((Cv.agg (gc (gc (.cons (cS) .nil)))).trans (Cv.eq (congrArg TokD.d (show (TokD.mk 0 0 ByteArray.empty)=(zg (bl8 s)).1 from(by rw[zdA q1 q2 q3,hg.no (by omega)];try rfl)))))) (.cons (zd (zc O) (Cv.eq (congrArg dN (by rw[zdA q1 q2 q3,hg.no (by omega)];try rfl)))) .nil)) O HSub.none ⟨O,O⟩
theorem rWords_c (s:ByteArray) :
 CD Tryz.prog 88 [] [.s s] (fun r H'=>∃ v0_,r=.tup [.ov v0_,dI (lexE s)]∧H'=[.sl v0_ 3 135 ((lexL s).map TokD.d)]):=by
 refine tZ Tryz.func88 O O (fun C=>?_)
 refine T.bd 0 O (fun bd0=>?_)
 have sz0:s.size≤9223372036854775807:=bd0
 refine g' 10 O (tP O (zu O Tryz.runUnderlying9) (g' 3 O ?_))
 refine tD O (fun hc1=>?_) (fun hc1=>?_)
 · skip
   have hlong:600<s.size:=by have:=hc1;omega
   refine g' 8 O (T.subH (HSub.nil 3 135) (T.subH (HSub.turn (h':=.sl (.slice none 0 0) 3 135 ((lexL s).map TokD.d)) O (Hp.eq_sl (congrArg (List.map TokD.d) (show []=lexL s by first | exact(zdy hlong).1 | exact(zdy hlong).2)))) ?_))
   exact tRs O Tryz.results88 (.cons (zd (zc O) (Cv.ov O)) (.cons (zd (zc O) (Cv.eq (congrArg (fun n=>D.v (.int .i64 n)) (by first | exact(zdy hlong).1 | exact(zdy hlong).2)))) .nil)) O (HSub.fst 1 O) ⟨(.slice none 0 0),O,O⟩
 · skip
   have hshort:¬600<s.size:=by have:=hc1;omega
   refine g' 14 O (tl3 (fun (a_:Nat) (b_:Value) (c_:List TokD)=>[(0,.s s),(5,dN a_),(4,.ov b_)]) (fun a_ b_ c_=>[.sl b_ 3 135 (c_.map TokD.d)]) (fun a_ b_ c_=>(WI s a_ c_)∧(a_≤s.size)∧(c_.length≤a_)) (fun a_ b_ c_=>s.size-a_) 0 (.slice none 0 0) [] O ⟨sk O,sk O,sc O (Cv.ov O),trivial⟩ (HSub.nil 3 135) ⟨WI.zero,Nat.zero_le _,Nat.zero_le _⟩ ?_)
   rintro i ov out ⟨hw,hp,ho⟩
   refine g' 5 O (tP O (zu O Tryz.runUnderlying9) (g' 3 O ?_))
   refine tD O (fun hc2=>?_) (fun hc2=>?_)
   · skip
     have hlt:i<s.size:=by have:=hc2;omega
     have hfr:=first_run_le (s:=s) (p:=i) hp
     refine g' 8 O (tP O (zw (a:=i) (c:=s.size) O O O (by first | rfl | (show _=_;omega)) (by first | rfl | (show _=_;omega)) Tryz.runUnderlying9 (by omega) (by omega)) (tW O acs (rfirst_c (s.extract i s.size) (by first | omega | (simp only[ByteArray.size_extract];omega))) (tW O acs (zcO ((decR (s.extract i s.size) 0:Nat):Int)) (g' 3 O ?_))))
     refine tD O (fun hc3=>?_) (fun hc3=>?_)
     · skip
       have hb:zt ((decR (s.extract i s.size) 0:Nat):Int)=3:=hc3
       refine g' 3 O (tP O (zy (c:=((i+1:Nat):Int)) O O (zn (by omega) (by omega))) (g' 6 O ?_))
       exact tp3 (i+1) ov out (sa O) HSub.rfl' ⟨hw.blank hlt hb,by omega,by show out.length≤i+1;omega⟩ (by omega)
     · skip
       have hb:¬zt ((decR (s.extract i s.size) 0:Nat):Int)=3:=hc3
       refine g' 6 O (tP O (zw (a:=i) (c:=s.size) O O O (by first | rfl | (show _=_;omega)) (by first | rfl | (show _=_;omega)) Tryz.runUnderlying9 (by omega) (by omega)) (tW O acs (rtok_c (s.extract i s.size) (by first | omega | (simp only[ByteArray.size_extract];omega)) (by first | omega | (simp only[ByteArray.size_extract];omega))) (g' 3 O ?_)))
       refine tA O (fun g4=>?_)
       refine gQ 11 [0] O O ?_
       refine tD O (fun hc5=>?_) (fun hc5=>?_)
       · skip
         have hbad:(zg (bl8 (s.extract i s.size))).2=0:=by have:=hc5;omega
         refine g' 12 O (T.subH (HSub.nil 3 135) (T.subH (HSub.turn (h':=.sl (.slice none 0 0) 3 135 ((lexL s).map TokD.d)) O (Hp.eq_sl (congrArg (List.map TokD.d) (show []=lexL s by first | exact(zej hshort (hw.bad hlt hb hbad)).1 | exact(zej hshort (hw.bad hlt hb hbad)).2)))) ?_))
         exact tRs O Tryz.results88 (.cons (zd (zc O) (Cv.ov O)) (.cons (zd (zc O) (Cv.eq (congrArg (fun n=>D.v (.int .i64 n)) (by first | exact(zej hshort (hw.bad hlt hb hbad)).1 | exact(zej hshort (hw.bad hlt hb hbad)).2)))) .nil)) O (HSub.fst 1 O) ⟨(.slice none 0 0),O,O⟩
       · skip
         have hn0:¬(zg (bl8 (s.extract i s.size))).2=0:=by have:=hc5;omega
         refine gQ 13 [0,0] O O (tE O (Qu.ef (d:=.sh 3 ([(TokD.mk (((zg (bl8 (s.extract i s.size))).1).k) ((i:Nat):Int) (((zg (bl8 (s.extract i s.size))).1).t))].map TokD.d)) (ze [.tmp 35] O O (.cons CellD.agg .nil) O Tryz.runUnderlying67 Tryz.sizeOf135 Tryz.zeroValue135 O O O O)) ?_)
         rintro _ _ ⟨rfl,rfl⟩
         refine tE O (zz (f:=TokD.d) (l:=out) (l':=[(TokD.mk (((zg (bl8 (s.extract i s.size))).1).k) ((i:Nat):Int) (((zg (bl8 (s.extract i s.size))).1).t))]) (i:=1) O O O (SrcD.sh) und_67 infz_135 O O (by unfold maxLen;(try simp only[la,lc,ln,lm,lt',ld,ls,lr]);omega) (by (try simp only[la,lc,ln,lm,lt',ld,ls,lr]);omega)) ?_
         rintro _ _ ⟨v6,rfl,rfl⟩
         refine g' 6 O (tP O (zy (c:=((i+((zg (bl8 (s.extract i s.size))).2):Nat):Int)) O O (zn (by omega) (by omega))) (g' 3 O (T.front 1 O (T.subH (HSub.fst 1 O) ?_))))
         exact tp3 (i+((zg (bl8 (s.extract i s.size))).2)) v6 (out++[(TokD.mk (((zg (bl8 (s.extract i s.size))).1).k) ((i:Nat):Int) (((zg (bl8 (s.extract i s.size))).1).t))]) (sa O) HSub.rfl' ⟨hw.next hlt hb hn0,by omega,by (try simp only[la,List.length_singleton]);omega⟩ (by omega)
   · skip
     have hge:s.size≤i:=by have:=hc2;omega
     refine g' 13 O (T.subH (HSub.turn (h':=.sl ov 3 135 ((lexL s).map TokD.d)) O (Hp.eq_sl (congrArg (List.map TokD.d) (show out=lexL s by first | exact(zeQ hshort (hw.done hge)).1 | exact(zeQ hshort (hw.done hge)).2)))) ?_)
     exact tRs O Tryz.results88 (.cons (zc O) (.cons (zd (zc O) (Cv.eq (congrArg (fun n=>D.v (.int .i64 n)) (by first | exact(zeQ hshort (hw.done hge)).1 | exact(zeQ hshort (hw.done hge)).2)))) .nil)) O (HSub.fst 1 O) ⟨ov,O,O⟩
end Lp
