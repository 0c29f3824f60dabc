import Derived.Test.YtheccaeefigajaaGreatDoorV38
set_option linter.unusedSimpArgs false
set_option linter.unusedVariables false
set_option maxHeartbeats 4000000
set_option maxRecDepth 100000
namespace Lp
open Go Go.RowKit Go.Proofs
theorem aNp (s:ByteArray) (hs:s.size<=1000000):
 CD Tryz.prog 155 [] [.s s] (isR (.tup [TokD.d ((strT (bl8 s)).1),dN ((strT (bl8 s)).2)])):=by
 refine tZ Tryz.func155 O O (λC=>?_);refine T.bd 0 O (λbd0=>?_);have sz0:s.size<=9223372036854775807:=bd0;refine g' 2 O ?_;refine tA O (λg1=>?_);refine g' 12 O (tE O (zcw O Tryz.runUnderlying9) ?_);rintro _ _ ⟨g2,rfl,rfl⟩;refine g' 3 O (tl2 (λ(a_:Nat) (b_:Bool)=>[(0,.s s),(2,dP g1 0),(10,dP g2 0),(4,dB b_)]) (λa_ b_=>[.it g2 s a_,.bx g1 135 (.agg [dI 0,dI 0,.v (.string ByteArray.empty)])]) (λa_ b_=>(a_<=s.size)/\(qInv s a_ (decide (a_=0)||b_))) (λa_ b_=>s.size-a_) 0 false O ⟨sk O,sk O,sk O,sc O (w7),trivial⟩ w9 ⟨cX _,aJn⟩ ?_);rintro p b ⟨hp,hq⟩;rcases c8 p s.size with hlt | hge
 · have hrune:=zaw hlt;have hrl:=zbQ s p;have hdw:=zae s p hlt;have hdp:=zF s p;refine g' 2 O (tE O (zbA (i:=0) O O hlt) ?_);rintro _ _ ⟨rfl,rfl⟩;refine g' 22 O ?_;refine tOr 2 1 (c:=b) O O O O O O (λhb3 nx4=>?_) ?_
   · have hf5:=aC hb3;refine g' 1 O ?_;exact nx4 _ O O (kx 1 O O)
   refine g' 3 O ?_;refine tC O (λhc6=>?_) (λhc6=>?_)
   · simp only[bX,bJ] at hc6;refine g' 5 O ?_;exact tp2 (p+decW s p) false (sa rfl) w9 ⟨by have:=zae s p hlt;omega,by rw[show (decide (p+decW s p=0)||false)=false by rw[aD (by omega)];rfl];exact aF0 (by have h0:(decide (p=0)||b)=true:=(by have h:=hc6;simp only[d7,aI];rcases h with h | h;exact .inl (by omega);exact .inr h);rw[<-h0];exact hq) hlt⟩ (by have:=zF s p;omega)
   simp only[bX,bJ] at hc6;refine g' 7 O ?_;refine tD O (λhc7=>?_) (λhc7=>?_)
   · refine g' 5 O ?_;exact tp2 (p+decW s p) true (sa O) w9 ⟨by have:=zae s p hlt;omega,by rw[show (decide (p+decW s p=0)||true)=true by rw[aD (by omega)];rfl];exact aOi (by have h0:(decide (p=0)||b)=false:=(by have h:=hc6;simp only[dK,aJ];exact⟨by have:=h.1;omega,h.2⟩);rw[<-h0];exact hq) hlt (by omega)⟩ (by have:=zF s p;omega)
   refine g' 7 O ?_;refine tD O (λhc8=>?_) (λhc8=>?_)
   · have hpp:1<=p:=(by have:=hc6.1;omega);have hfd:=aFp (by have h0:(decide (p=0)||b)=false:=(by have h:=hc6;simp only[dK,aJ];exact⟨by have:=h.1;omega,h.2⟩);rw[<-h0];exact hq) hlt (by omega);refine g' 4 O (tP O (zE (c:=((p+1:Nat):Int)) O O (zp (by omega) (by omega))) (tP O (zK (a:=0) (c:=p+1) O O O (by first | rfl | (show _=_;omega)) (by first | rfl | (show _=_;omega)) Tryz.runUnderlying9 (by omega) (by omega)) (tW O acs (aLq (s.extract 0 (p+1)) (by simp only[cR];omega) (by simp only[cR];omega)) (g' 14 O ?_))));refine tC O (λhc9=>?_) (λhc9=>?_)
     · simp only[bX,bJ] at hc9;refine g' 2 O (tP O (zj [] [] (zv:=(.agg #[(.int .i64 0),(.int .i64 0),(.string ByteArray.empty)])) O O (.nil) (Tryz.runUnderlying135) Tryz.zeroValue135 zat ⟨O,O,O,trivial⟩ O) (gQ 11 [1] O O ?_));exact tRs O Tryz.results155 (.cons (zd (zn (X:=.agg [dI 0,dI 0,.v (.string ByteArray.empty)]) (d:=.agg [dI 0,dI 0,.v (.string ByteArray.empty)]) (i:=1) O O Tryz.isAgg135 Tryz.sizeOf135 O O) ((Cv.agg (gc (gc (.cons (cS) .nil)))).trans (Cv.eq (aG TokD.d (show (TokD.mk 0 0 ByteArray.empty)=(strT (bl8 s)).1 from(by rw[aCu hfd hlt (by simpa using hc9)];try rfl)))))) (.cons (zd (zc O) (Cv.eq (aG dN (by rw[aCu hfd hlt (by simpa using hc9)];try rfl)))) .nil)) O mO ⟨O,O⟩
     simp only[bX,bJ] at hc9;refine g' 5 O (tP O (zj [0,2] [.const (.int .i64 3),.tmp 38] (zv:=(.agg #[(.int .i64 0),(.int .i64 0),(.string ByteArray.empty)])) O O (.cons (CellD.v O) (.cons CellD.s .nil)) (Tryz.runUnderlying135) Tryz.zeroValue135 zat ⟨O,O,O,trivial⟩ O) (g' 1 O (tP O (zE (c:=((p+1:Nat):Int)) O O (zp (by omega) (by omega))) (gQ 10 [1] O O ?_))));exact tRs O Tryz.results155 (.cons (zd (zn (X:=.agg [dI 3,dI 0,.s (unqT (s.extract 0 (p+1)))]) (d:=.agg [dI 3,dI 0,.s (unqT (s.extract 0 (p+1)))]) (i:=1) O O Tryz.isAgg135 Tryz.sizeOf135 O O) (Cv.eq (aG TokD.d (show (TokD.mk 3 0 (unqT (s.extract 0 (p+1))))=(strT (bl8 s)).1 from(by rw[aCe hfd hlt (by simpa using hc9)];try rfl))))) (.cons (zd (zc O) (Cv.eq (aG dN (by rw[aCe hfd hlt (by simpa using hc9)];try rfl)))) .nil)) O mO ⟨O,O⟩
   refine g' 3 O ?_;exact tp2 (p+decW s p) b (sa O) w9 ⟨by have:=zae s p hlt;omega,by rw[show (decide (p+decW s p=0)||b)=false by rw[aD (by omega)];simpa using hc6.2];exact aHf (by have h0:(decide (p=0)||b)=false:=(by have h:=hc6;simp only[dK,aJ];exact⟨by have:=h.1;omega,h.2⟩);rw[<-h0];exact hq) hlt (by omega) (by omega)⟩ (by have:=zF s p;omega)
 have hrune:=zaG hge;refine g' 2 O (tP O (zco (i:=0) O O hge) (g' 12 O (tP O (zj [] [] (zv:=(.agg #[(.int .i64 0),(.int .i64 0),(.string ByteArray.empty)])) O O (.nil) (Tryz.runUnderlying135) Tryz.zeroValue135 zat ⟨O,O,O,trivial⟩ O) (gQ 5 [1] O O ?_))));exact tRs O Tryz.results155 (.cons (zd (zn (X:=.agg [dI 0,dI 0,.v (.string ByteArray.empty)]) (d:=.agg [dI 0,dI 0,.v (.string ByteArray.empty)]) (i:=1) O O Tryz.isAgg135 Tryz.sizeOf135 O O) ((Cv.agg (gc (gc (.cons (cS) .nil)))).trans (Cv.eq (aG TokD.d (show (TokD.mk 0 0 ByteArray.empty)=(strT (bl8 s)).1 from(by rw[sH hq hge];try rfl)))))) (.cons (zd (zc O) (Cv.eq (aG dN (by rw[sH hq hge];try rfl)))) .nil)) O mO ⟨O,O⟩
theorem aNn (s:ByteArray) (ev:Value) (hev:EvOk ev) (hs:s.size<=1000000) (hz:0<s.size) (hk:zD ((decR s 0:Nat):Int)=2):
 CD Tryz.prog 154 [HPow,HErr ev] [.s s] (λr H'=>r=.tup [TokD.d ((numT (bl8 s)).1),dN ((numT (bl8 s)).2)]/\H'=[HPow,HErr ev]):=by
 refine tZ Tryz.func154 O O (λC=>?_);refine T.bd 0 O (λbd0=>?_);have sz0:s.size<=9223372036854775807:=bd0;have hlt0:=hz;refine g' 2 O ?_;refine tA O (λg1=>?_);refine g' 6 O (tE O (Qu.ef (d:=.sh 1 ([2].map dI)) (zi [.const (.int .i64 2)] O O (.cons (CellD.v O) .nil) O Tryz.runUnderlying55 Tryz.sizeOf3 Tryz.zeroValue3 O O O O)) ?_);rintro _ _ ⟨rfl,rfl⟩;refine tW O acs (zgK s [2]) (g' 6 O (tE O (Qu.ef (d:=.sh 1 ([1,2].map dI)) (zi [.const (.int .i64 1),.const (.int .i64 2)] O O (.cons (CellD.v O) (.cons (CellD.v O) .nil)) O Tryz.runUnderlying55 Tryz.sizeOf3 Tryz.zeroValue3 O O O O)) ?_));rintro _ _ ⟨rfl,rfl⟩;refine tW O acs (zgK s [1,2]) (g' 4 O ?_);have hn1:=zbD (inK [2]) s;have hn2:=zbD (inK [1,2]) s;have hq0:s.extract 0 (runL (inK [2]) (bl8 s))=mkB ((bl8 s).take (runL (inK [2]) (bl8 s))):=zcv hn1;have hpos:1<=runL (inK [2]) (bl8 s):=pE hz hk;have hdg:Digs (bl8 (s.extract 0 (runL (inK [2]) (bl8 s)))):=by rw[hq0,zbt];exact lQ _ _ rfl
 have hsz0:(s.extract 0 (runL (inK [2]) (bl8 s))).size=runL (inK [2]) (bl8 s):=by rw[cR];omega
 have hne13:bl8 (s.extract 0 (runL (inK [2]) (bl8 s)))≠[]:=λe=>by have:=aG List.length e;rw[zV,hsz0] at this;simp only[ln] at this;omega
 refine g' 3 O (tP O (zK (a:=0) (c:=runL (inK [2]) (bl8 s)) O O O (by first | rfl | (show _=_;omega)) (by first | rfl | (show _=_;omega)) Tryz.runUnderlying9 (by omega) (by omega)) (tX [2] O O acs (aYl (s.extract 0 (runL (inK [2]) (bl8 s))) ev hev hdg hne13 (by simp only[cR];omega)) ?_));rintro _ _ ⟨av,ax,rfl,rfl,hv13,hv0,hv1⟩;refine g' 9 O ?_;by_cases h13:(13:Int)<((runL (inK [2]) (bl8 s):Nat):Int)
 · have hbad:13<nD s\/1000000000000<vD s:=.inl (by show 13<runL (inK [2]) (bl8 s);omega);refine g' 2 O (tP O (zcB O O (aE h13)) (g' 13 O (tP O (zj [] [] (zv:=(.agg #[(.int .i64 0),(.int .i64 0),(.string ByteArray.empty)])) O O (.nil) (Tryz.runUnderlying135) Tryz.zeroValue135 zat ⟨O,O,O,trivial⟩ O) (gQ 6 [1] O O (kA 2 O ?_)))));exact tRs O Tryz.results154 (.cons (zd (zn (X:=.agg [dI 0,dI 0,.v (.string ByteArray.empty)]) (d:=.agg [dI 0,dI 0,.v (.string ByteArray.empty)]) (i:=2) O O Tryz.isAgg135 Tryz.sizeOf135 O O) ((Cv.agg (gc (gc (.cons (cS) .nil)))).trans (Cv.eq (aG TokD.d (show (TokD.mk 0 0 ByteArray.empty)=(numT (bl8 s)).1 from(by rw[ze6 hbad];try rfl)))))) (.cons (zd (zc O) (Cv.eq (aG dN (by rw[ze6 hbad];try rfl)))) .nil)) O (mP 2 O) ⟨O,O⟩
 obtain ⟨e1,e2⟩:=hv13 (by rw[hsz0];omega);subst e1;subst e2;have hvd:digV (bl8 (s.extract 0 (runL (inK [2]) (bl8 s))))=vD s:=by rw[hq0,zbt]
 have hvl:vD s<10000000000000:=aY3 (lQ _ _ rfl) (by rw[d6];show min (runL (inK [2]) (bl8 s)) _<=13;omega);refine T.sub [(0,.s s),(2,dP g1 0),(3,dI 0),(4,dN (runL (inK [2]) (bl8 s))),(5,dN (runL (inK [1,2]) (bl8 s))),(6,dN (vD s)),(7,.v .nilIface)] ⟨sk O,sk O,sk O,sk O,sk O,sc O (Cv.eq (aG (λn:Nat=>dI (n:Int)) hvd)),sk O,trivial⟩ (g' 2 O (tP O (zcB O O (aD h13)) (g' 2 O (tG O (zep (r:=.bool false) O O (λ_=>by kernel_rfl)) (g' 7 O ?_)))));refine tD O (λhc2=>?_) (λhc2=>?_)
 · have hbad:13<nD s\/1000000000000<vD s:=.inr (by have:=hc2;omega);refine g' 2 O (tP O (zj [] [] (zv:=(.agg #[(.int .i64 0),(.int .i64 0),(.string ByteArray.empty)])) O O (.nil) (Tryz.runUnderlying135) Tryz.zeroValue135 zat ⟨O,O,O,trivial⟩ O) (gQ 6 [1] O O (kA 2 O ?_)));exact tRs O Tryz.results154 (.cons (zd (zn (X:=.agg [dI 0,dI 0,.v (.string ByteArray.empty)]) (d:=.agg [dI 0,dI 0,.v (.string ByteArray.empty)]) (i:=2) O O Tryz.isAgg135 Tryz.sizeOf135 O O) ((Cv.agg (gc (gc (.cons (cS) .nil)))).trans (Cv.eq (aG TokD.d (show (TokD.mk 0 0 ByteArray.empty)=(numT (bl8 s)).1 from(by rw[ze6 hbad];try rfl)))))) (.cons (zd (zc O) (Cv.eq (aG dN (by rw[ze6 hbad];try rfl)))) .nil)) O (mP 2 O) ⟨O,O⟩
 have hgood:¬(13<nD s\/1000000000000<vD s):=λe=>by rcases e with e | e;(exact h13 (by have e:13<runL (inK [2]) (bl8 s):=e;omega));(have:=hc2;omega)
 refine g' 10 O ?_;refine tD O (λhc3=>?_) (λhc3=>?_)
 · have hsame:nA s=nD s:=(by show runL (inK [1,2]) (bl8 s)=runL (inK [2]) (bl8 s);omega);refine g' 3 O (tX [2] O O acs (ze9 (vD s) (by omega)) ?_);rintro _ _ ⟨rfl,rfl⟩;refine tP O (zj [0,2] [.const (.int .i64 2),.tmp 37] (zv:=(.agg #[(.int .i64 0),(.int .i64 0),(.string ByteArray.empty)])) O O (.cons (CellD.v O) (.cons CellD.s .nil)) (Tryz.runUnderlying135) Tryz.zeroValue135 zat ⟨O,O,O,trivial⟩ O) (gQ 7 [2] O O ?_);exact tRs O Tryz.results154 (.cons (zd (zn (X:=.agg [dI 2,dI 0,.s (digB (vD s))]) (d:=.agg [dI 2,dI 0,.s (digB (vD s))]) (i:=2) O O Tryz.isAgg135 Tryz.sizeOf135 O O) (Cv.eq (aG TokD.d (show (TokD.mk 2 0 (digB (vD s)))=(numT (bl8 s)).1 from(by rw[zf3 hgood hsame];try rfl))))) (.cons (zd (zc O) (Cv.eq (aG dN (by rw[zf3 hgood hsame];try rfl)))) .nil)) O (mP 2 O) ⟨O,O⟩
 have hdiff:¬nA s=nD s:=by show ¬runL (inK [1,2]) (bl8 s)=runL (inK [2]) (bl8 s);omega
 have hsc:=aFm (s.extract (runL (inK [2]) (bl8 s)) (runL (inK [1,2]) (bl8 s)));have hle:=a3r s;refine g' 7 O (tP O (zK (a:=runL (inK [2]) (bl8 s)) (c:=runL (inK [1,2]) (bl8 s)) O O O (by first | rfl | (show _=_;omega)) (by first | rfl | (show _=_;omega)) Tryz.runUnderlying9 (by omega) (by omega)) (tW O acs (aLp (s.extract (runL (inK [2]) (bl8 s)) (runL (inK [1,2]) (bl8 s)))) (g' 5 O ?_)));obtain ⟨q,hq,hq1⟩:∃ q:Nat,1000000000 / secB (s.extract (runL (inK [2]) (bl8 s)) (runL (inK [1,2]) (bl8 s)))=q/\q<=1000000000:=⟨_,rfl,Nat.div_le_self _ _⟩;refine g' 4 O ?_;refine tOr 2 4 (c:=decide (((q:Nat):Int)<(((vD s):Nat):Int))) O O O O O O (λhb4 nx5=>?_) ?_
 · have hf6:=aC hb4;refine g' 2 O (tG O (zen (c:=((q:Nat):Int)) O O (by omega) (zp (by rw[j9 (by omega),<-hq];first | exact vZ _ _ | exact(vZ _ _).symm) (by omega))) (g' 1 O ?_));exact nx5 _ O O (kx 4 O O)
 refine g' 2 O ?_;refine tC O (λhc7=>?_) (λhc7=>?_)
 · simp only[bX,bJ] at hc7;have hs3:secB (s.extract (nD s) (nA s))=0\/1000000000 / secB (s.extract (nD s) (nA s))<vD s:=(by have h:=hc7;rcases h with h | h;(exact .inl (by show secB (s.extract (runL (inK [2]) (bl8 s)) (runL (inK [1,2]) (bl8 s)))=0;omega));(exact .inr (by show 1000000000 / secB (s.extract (runL (inK [2]) (bl8 s)) (runL (inK [1,2]) (bl8 s)))<_;rw[hq];omega)));refine g' 2 O (tP O (zj [] [] (zv:=(.agg #[(.int .i64 0),(.int .i64 0),(.string ByteArray.empty)])) O O (.nil) (Tryz.runUnderlying135) Tryz.zeroValue135 zat ⟨O,O,O,trivial⟩ O) (gQ 6 [1] O O (kA 2 O ?_)));exact tRs O Tryz.results154 (.cons (zd (zn (X:=.agg [dI 0,dI 0,.v (.string ByteArray.empty)]) (d:=.agg [dI 0,dI 0,.v (.string ByteArray.empty)]) (i:=2) O O Tryz.isAgg135 Tryz.sizeOf135 O O) ((Cv.agg (gc (gc (.cons (cS) .nil)))).trans (Cv.eq (aG TokD.d (show (TokD.mk 0 0 ByteArray.empty)=(numT (bl8 s)).1 from(by rw[zcd hgood hdiff hs3];try rfl)))))) (.cons (zd (zc O) (Cv.eq (aG dN (by rw[zcd hgood hdiff hs3];try rfl)))) .nil)) O (mP 2 O) ⟨O,O⟩
 simp only[bX,bJ] at hc7;have hs4:¬(secB (s.extract (nD s) (nA s))=0\/1000000000 / secB (s.extract (nD s) (nA s))<vD s):=λe=>by have h:=hc7;rcases e with e | e;(have e:secB (s.extract (runL (inK [2]) (bl8 s)) (runL (inK [1,2]) (bl8 s)))=0:=e;omega);(have e:1000000000 / secB (s.extract (runL (inK [2]) (bl8 s)) (runL (inK [1,2]) (bl8 s)))<vD s:=e;rw[hq] at e;omega)
 have hmu:vD s*secB (s.extract (runL (inK [2]) (bl8 s)) (runL (inK [1,2]) (bl8 s)))<=1000000000:=by have h:=hc7;exact(vX (by omega)).1 (by rw[hq];omega)
 refine g' 6 O ?_;obtain ⟨m,hm,hm1⟩:∃ m:Nat,(vD s)*(secB (s.extract (runL (inK [2]) (bl8 s)) (runL (inK [1,2]) (bl8 s))))=m/\m<=1000000000:=⟨_,rfl,hmu⟩;refine tP O (zeR (c:=((m:Nat):Int)) O O (zp (by rw[<-hm];first | exact wS _ _ | exact(wS _ _).symm) (by omega))) (tX [2] O O acs (ze9 m (by omega)) ?_);rintro _ _ ⟨rfl,rfl⟩;refine tP O (zj [0,2] [.const (.int .i64 4),.tmp 57] (zv:=(.agg #[(.int .i64 0),(.int .i64 0),(.string ByteArray.empty)])) O O (.cons (CellD.v O) (.cons CellD.s .nil)) (Tryz.runUnderlying135) Tryz.zeroValue135 zat ⟨O,O,O,trivial⟩ O) (gQ 6 [2] O O ?_);exact tRs O Tryz.results154 (.cons (zd (zn (X:=.agg [dI 4,dI 0,.s (digB m)]) (d:=.agg [dI 4,dI 0,.s (digB m)]) (i:=2) O O Tryz.isAgg135 Tryz.sizeOf135 O O) (Cv.eq (aG TokD.d (show (TokD.mk 4 0 (digB m))=(numT (bl8 s)).1 from(by have e:=zc2 hgood hdiff hs4;rw[show vD s*secB (s.extract (nD s) (nA s))=m from hm] at e;rw[e];try rfl))))) (.cons (zd (zc O) (Cv.eq (aG dN (by have e:=zc2 hgood hdiff hs4;rw[show vD s*secB (s.extract (nD s) (nA s))=m from hm] at e;rw[e];try rfl)))) .nil)) O (mP 2 O) ⟨O,O⟩
theorem aB1:IzP Tryz.prog 135 (.agg #[(.int .i64 0),(.int .i64 0),(.string ByteArray.empty)]) 3 32:=zdl (by kernel_rfl)
theorem aRt:Tryz.prog.underlying 67=some (.slice 135):=by kernel_rfl
theorem aGq (s:ByteArray) (hs:s.size<=1000000000):
 CD Tryz.prog 152 [] [.s s] (aWl 1 21 ((zB s).map dR)):=by
 refine tZ Tryz.func152 O O (λC=>?_);refine T.bd 0 O (λbd0=>?_);have sz0:s.size<=9223372036854775807:=bd0;refine g' 14 O (tE O (zcw O Tryz.runUnderlying9) ?_);rintro _ _ ⟨g1,rfl,rfl⟩;refine g' 3 O (tl3 (λ(a_:Nat) (b_:Value) (c_:List Int)=>[(2,dZ),(7,dP g1 0),(3,.ov b_)]) (λa_ b_ c_=>[.it g1 s a_,.sl b_ 1 21 (c_.map dR)]) (λa_ b_ c_=>(a_<=s.size)/\(c_.length<=a_)/\(zB s=c_++zaW s a_)) (λa_ b_ c_=>s.size-a_) 0 (.slice none 0 0) [] O ⟨sk O,sk O,sc O (Cv.ov O),trivial⟩ (HSub.trans (HSub.nil 1 21) (mB (List.Perm.swap _ _ _))) ⟨cX _,cU _,O⟩ ?_);rintro p ov l ⟨hp,hn,hf⟩;rcases c8 p s.size with hlt | hge
 · have hrune:=zaw hlt;have hrl:=zbQ s p;have hdw:=zae s p hlt;have hdp:=zF s p;refine g' 2 O (tE O (zbA (i:=0) O O hlt) ?_);rintro _ _ ⟨rfl,rfl⟩;refine g' 17 O (tE O (zL [.tmp 12] O O (.cons (CellD.v O) .nil) O Tryz.runUnderlying130 Tryz.sizeOf21 Tryz.zeroValue21 O O O O) ?_);rintro _ _ ⟨g2,rfl,rfl⟩;refine tE O (zP (f:=dR) (l:=l) (l':=[((decR s p:Nat):Int)]) (i:=2) O O O (mG (j:=0) O O) oL qC O O (by unfold maxLen;(try simp only[la,lc,ln,lm,lt',ld,ls,lr]);omega) (by (try simp only[la,lc,ln,lm,lt',ld,ls,lr]);omega)) ?_;rintro _ _ ⟨v3,rfl,rfl⟩;refine g' 3 O ?_;exact tp3 (p+decW s p) v3 (l++[((decR s p:Nat):Int)]) (sa O) (mQ 1 O) ⟨by have:=zae s p hlt;omega,by rw[c7,cT];omega,by rw[hf,hrune,dM];rfl⟩ (by have:=zF s p;omega)
 have hrune:=zaG hge;refine g' 2 O (tP O (zco (i:=0) O O hge) (g' 17 O (m8 (mA (aAa (i:=1) O)) (m8 (mC (h':=.sl ov 1 21 ((zB s).map dR)) O (mE (show List.map dR l=List.map dR (zB s) from aG _ (by rw[hf,hrune,jN])))) ?_))));exact tR O w9 ⟨_,O,O⟩
theorem aV9 (s:ByteArray) (ev:Value) (hev:EvOk ev) (hs:s.size<=1000000) (hz:0<s.size):
 CD Tryz.prog 109 [HPow,HErr ev] [.s s] (λr H'=>r=.tup [TokD.d ((zg (bl8 s)).1),dN ((zg (bl8 s)).2)]/\H'=[HPow,HErr ev]):=by
 refine tZ Tryz.func109 O O (λC=>?_);refine T.bd 0 O (λbd0=>?_);have sz0:s.size<=9223372036854775807:=bd0;obtain ⟨y,hy,ey⟩:∃ y,(zB s)[0]?=some y/\y=((decR s 0:Nat):Int):=⟨_,by rw[show zB s=zaW s 0 from rfl,zaw hz];rfl,rfl⟩;have hyl:=zbQ s 0;refine g' 2 O ?_;refine tA O (λg1=>?_);refine g' 7 O (tX [] O O acs (aGq s (by omega)) ?_);rintro _ _ ⟨v2,rfl,rfl⟩;refine tP O (zaQ (k:=0) (j:=0) O O O Tryz.runUnderlying130 Tryz.sizeOf21 (by first | rfl | omega) (zI hy)) (tP O (zcp O (i:=0) O (zI hy) Tryz.isAgg21 O) (g' 7 O (tW O acs (aD7 y) (g' 4 O ?_))));refine tD O (λhc3=>?_) (λhc3=>?_)
 · have q1:zD ((decR s 0:Nat):Int)=1:=(by rw[<-ey];exact hc3);refine g' 3 O (tW O acs (aZr s (by omega)) (gQ 9 [1] O O (kA 3 O (kA 3 O ?_))));exact tRs O Tryz.results109 (.cons (zd (zn (X:=TokD.d ((zcg (bl8 s)).1)) (d:=TokD.d ((zcg (bl8 s)).1)) (i:=3) O O Tryz.isAgg135 Tryz.sizeOf135 O O) (Cv.eq (aG TokD.d (show (zcg (bl8 s)).1=(zg (bl8 s)).1 from(by rw[zex q1]))))) (.cons (zd (zc O) (Cv.eq (aG dN (by rw[zex q1])))) .nil)) O (mP 2 O) ⟨O,O⟩
 have q1:¬zD ((decR s 0:Nat):Int)=1:=by rw[<-ey];exact hc3
 refine g' 3 O (tW O acs (aD7 y) (g' 4 O ?_));refine tD O (λhc4=>?_) (λhc4=>?_)
 · have hk2:zD ((decR s 0:Nat):Int)=2:=(by rw[<-ey];exact hc4);refine g' 3 O (tX [2,2] O O acs (aNn s ev hev (by omega) (by omega) hk2) ?_);rintro _ _ ⟨rfl,rfl⟩;refine gQ 9 [3] O O ?_;exact tRs O Tryz.results109 (.cons (zd (zn (X:=TokD.d ((numT (bl8 s)).1)) (d:=TokD.d ((numT (bl8 s)).1)) (i:=3) O O Tryz.isAgg135 Tryz.sizeOf135 O O) (Cv.eq (aG TokD.d (show (numT (bl8 s)).1=(zg (bl8 s)).1 from(by rw[gS q1 hk2]))))) (.cons (zd (zc O) (Cv.eq (aG dN (by rw[gS q1 hk2])))) .nil)) O (mP 2 O) ⟨O,O⟩
 have q2:¬zD ((decR s 0:Nat):Int)=2:=by rw[<-ey];exact hc4
 refine g' 7 O ?_;refine tD O (λhc5=>?_) (λhc5=>?_)
 · have q3:decR s 0=34:=(by have:=hc5;omega);refine g' 3 O (tW O acs (aNp s (by omega)) (gQ 9 [1] O O (kA 3 O (kA 3 O ?_))));exact tRs O Tryz.results109 (.cons (zd (zn (X:=TokD.d ((strT (bl8 s)).1)) (d:=TokD.d ((strT (bl8 s)).1)) (i:=3) O O Tryz.isAgg135 Tryz.sizeOf135 O O) (Cv.eq (aG TokD.d (show (strT (bl8 s)).1=(zg (bl8 s)).1 from(by rw[zds q1 q2 q3]))))) (.cons (zd (zc O) (Cv.eq (aG dN (by rw[zds q1 q2 q3])))) .nil)) O (mP 2 O) ⟨O,O⟩
 have q3:¬decR s 0=34:=by have:=hc5;omega
 refine g' 6 O (tW O acs (aZ0 s (by omega)) (gQ 7 [1] O O (kA 3 O (kA 3 O ?_))));exact tRs O Tryz.results109 (.cons (zd (zn (X:=TokD.d ((zbS (bl8 s)).1)) (d:=TokD.d ((zbS (bl8 s)).1)) (i:=3) O O Tryz.isAgg135 Tryz.sizeOf135 O O) (Cv.eq (aG TokD.d (show (zbS (bl8 s)).1=(zg (bl8 s)).1 from(by rw[zew q1 q2 q3]))))) (.cons (zd (zc O) (Cv.eq (aG dN (by rw[zew q1 q2 q3])))) .nil)) O (mP 2 O) ⟨O,O⟩
theorem aT6 (s:ByteArray) (ev:Value) (hev:EvOk ev):
 CD Tryz.prog 38 [HPow,HErr ev] [.s s] (λr H'=>∃ v,r=.tup [.ov v,dI (lexE s)]/\H'=[.sl v 3 135 ((lexL s).map TokD.d),HPow,HErr ev]):=by
 refine tZ Tryz.func38 O O (λC=>?_);refine T.bd 0 O (λbd0=>?_);have sz0:s.size<=9223372036854775807:=bd0;refine g' 10 O (tP O (zw O Tryz.runUnderlying9) (g' 3 O ?_));refine tD O (λhc1=>?_) (λhc1=>?_)
 · have hlong:600<s.size:=(by have:=hc1;omega);refine g' 8 O (m8 (HSub.nil 3 135) (m9 [.sl (.slice none 0 0) 3 135 ([].map TokD.d),HPow,HErr ev] O (m9 [.sl (.slice none 0 0) 3 135 ((lexL s).map TokD.d),HPow,HErr ev] (by have hw9:([]:List TokD)=lexL s:=(zeu hlong).1;rw[<-hw9]<;>rfl) ?_)));exact tRs O Tryz.results38 (.cons (zd (zc O) (Cv.ov O)) (.cons (zd (zc O) (Cv.eq (aG dI (show (1:Int)=lexE s from(zeu hlong).2)))) .nil)) O (mP 3 O) ⟨(.slice none 0 0),O,O⟩
 have hshort:¬600<s.size:=by have:=hc1;omega
 have hr0:=zbD (inK [3]) s;refine g' 11 O (tE O (Qu.ef (d:=.sh 1 ([3].map dI)) (zi [.const (.int .i64 3)] O O (.cons (CellD.v O) .nil) O Tryz.runUnderlying55 Tryz.sizeOf3 Tryz.zeroValue3 O O O O)) ?_);rintro _ _ ⟨rfl,rfl⟩;refine tW O acs (zgK s [3]) (g' 4 O (tl3 (λ(a_:Nat) (b_:Value) (c_:List TokD)=>[(0,.s s),(5,dN a_),(4,.ov b_)]) (λa_ b_ c_=>[.sl b_ 3 135 (c_.map TokD.d),HPow,HErr ev]) (λa_ b_ c_=>(WInv s a_ c_)/\(a_<=s.size)/\(c_.length<=a_)) (λa_ b_ c_=>s.size-a_) (runL (inK [3]) (bl8 s)) (.slice none 0 0) [] O ⟨sk O,sk O,sc O (Cv.ov O),trivial⟩ (HSub.nil 3 135) ⟨WInv.zero,hr0,cX _⟩ ?_));rintro p ov out ⟨hw,hp,ho⟩;refine g' 5 O (tP O (zw O Tryz.runUnderlying9) (g' 3 O ?_));refine tD O (λhc2=>?_) (λhc2=>?_)
 · have hlt:p<s.size:=(by have:=hc2;omega);have hfr:=gP (s:=s) (p:=p) hp;refine g' 8 O (tP O (zK (a:=p) (c:=s.size) O O O (by first | rfl | (show _=_;omega)) (by first | rfl | (show _=_;omega)) Tryz.runUnderlying9 (by omega) (by omega)) (tX [1,1] O O acs (aV9 (s.extract p s.size) ev hev (by simp only[cR];omega) (by simp only[cR];omega)) ?_));rintro _ _ ⟨rfl,rfl⟩;refine g' 3 O ?_;refine tA O (λg3=>?_);refine gQ 11 [0] O O ?_;refine tD O (λhc4=>?_) (λhc4=>?_)
   · have hbad:(zg (bl8 (s.extract p s.size))).2=0:=(by have:=hc4;omega);refine g' 13 O (m8 (HSub.nil 3 135) (kA 3 O (kA 3 O (kA 2 O (m9 [.sl (.slice none 0 0) 3 135 ([].map TokD.d),HPow,HErr ev,.bx g3 135 (TokD.d ((zg (bl8 (s.extract p s.size))).1)),.sl ov 3 135 (out.map TokD.d)] O (m9 [.sl (.slice none 0 0) 3 135 ((lexL s).map TokD.d),HPow,HErr ev,.bx g3 135 (TokD.d ((zg (bl8 (s.extract p s.size))).1)),.sl ov 3 135 (out.map TokD.d)] (by have hw9:([]:List TokD)=lexL s:=(zfo hshort (hw.bad hlt hbad)).1;rw[<-hw9]<;>rfl) ?_))))));exact tRs O Tryz.results38 (.cons (zd (zc O) (Cv.ov O)) (.cons (zd (zc O) (Cv.eq (aG dI (show (2:Int)=lexE s from(zfo hshort (hw.bad hlt hbad)).2)))) .nil)) O (mP 3 O) ⟨(.slice none 0 0),O,O⟩
   have hn0:¬(zg (bl8 (s.extract p s.size))).2=0:=(by have:=hc4;omega);have hrs:=zbD (inK [3]) (s.extract (p+(zg (bl8 (s.extract p s.size))).2) s.size);rw[cR] at hrs;refine gQ 13 [0,0] O O (tE O (Qu.ef (d:=.sh 3 ([(TokD.mk (((zg (bl8 (s.extract p s.size))).1).k) ((p:Nat):Int) (((zg (bl8 (s.extract p s.size))).1).t))].map TokD.d)) (zi [.tmp 37] O O (.cons CellD.agg .nil) O Tryz.runUnderlying67 Tryz.sizeOf135 Tryz.zeroValue135 O O O O)) ?_);rintro _ _ ⟨rfl,rfl⟩;refine tE O (zP (f:=TokD.d) (l:=out) (l':=[(TokD.mk (((zg (bl8 (s.extract p s.size))).1).k) ((p:Nat):Int) (((zg (bl8 (s.extract p s.size))).1).t))]) (i:=3) O O O (SrcD.sh) aRt aB1 O O (by unfold maxLen;(try simp only[la,lc,ln,lm,lt',ld,ls,lr]);omega) (by (try simp only[la,lc,ln,lm,lt',ld,ls,lr]);omega)) ?_;rintro _ _ ⟨v5,rfl,rfl⟩;refine g' 6 O (tP O (zE (c:=((p+((zg (bl8 (s.extract p s.size))).2):Nat):Int)) O O (zp (by omega) (by omega))) (g' 8 O (tP O (zK (a:=p+((zg (bl8 (s.extract p s.size))).2)) (c:=s.size) O O O (by first | rfl | (show _=_;omega)) (by first | rfl | (show _=_;omega)) Tryz.runUnderlying9 (by omega) (by omega)) (tE O (Qu.ef (d:=.sh 1 ([3].map dI)) (zi [.const (.int .i64 3)] O O (.cons (CellD.v O) .nil) O Tryz.runUnderlying55 Tryz.sizeOf3 Tryz.zeroValue3 O O O O)) ?_))));rintro _ _ ⟨rfl,rfl⟩;refine tW O acs (zgK (s.extract (p+((zg (bl8 (s.extract p s.size))).2)) s.size) [3]) (tP O (zE (c:=(((p+((zg (bl8 (s.extract p s.size))).2))+(runL (inK [3]) (bl8 (s.extract (p+((zg (bl8 (s.extract p s.size))).2)) s.size))):Nat):Int)) O O (zp (by omega) (by omega))) (g' 2 O (kA 2 O (kA 2 O (kA 3 O ?_)))));exact tp3 ((p+((zg (bl8 (s.extract p s.size))).2))+(runL (inK [3]) (bl8 (s.extract (p+((zg (bl8 (s.extract p s.size))).2)) s.size)))) v5 (out++[(TokD.mk (((zg (bl8 (s.extract p s.size))).1).k) ((p:Nat):Int) (((zg (bl8 (s.extract p s.size))).1).t))]) (sa O) (mP 3 O) ⟨hw.next hlt hn0,by omega,by (try simp only[la,cT]);omega⟩ (by omega)
 have hge:s.size<=p:=by have:=hc2;omega
 refine g' 13 O (m9 [.sl ov 3 135 ((lexL s).map TokD.d),HPow,HErr ev] (by have hw9:(out:List TokD)=lexL s:=(zf7 hshort (hw.done hge)).1;rw[<-hw9]<;>rfl) ?_);exact tRs O Tryz.results38 (.cons (zc O) (.cons (zd (zc O) (Cv.eq (aG dI (show (0:Int)=lexE s from(zf7 hshort (hw.done hge)).2)))) .nil)) O (mP 3 O) ⟨ov,O,O⟩
end Lp
namespace Lp
open Go
section
variable {s s' s1 s2 s3 s4 s5 z:Rd} {k:Int} {ts:List ByteArray} {t t' a b:ByteArray} {q:Bool} {x:TokD}
theorem pk_0 (h:s.l.length=0):s.pk=zbm:=by unfold Rd.pk;rw[j6.1 h];rfl
theorem pk_x (h:s.l[0]?=some x):s.pk=x:=by
 unfold Rd.pk;cases e:s.l with
 | nil=>rw[e] at h;cases h
 | cons y l=>rw[e] at h;injection h
theorem aLf (hk:k≠0) (h:s.pk.k=k):0<s.l.length:=dE.2 (zgC hk h)
theorem is_k (h:s.is k ts=true):s.pk.k=k:=by unfold Rd.is at h;simp only[cY,aI] at h;exact h.1
theorem a2z (hk:k≠0) (h:s.is k ts=true):0<s.l.length:=aLf hk (is_k h)
theorem zba (h:s.b=true\/s.is k ts=false):s.take k ts=(ByteArray.empty,false,s):=by unfold Rd.take;rw[aB h]
theorem pV (l:List TokD):(l.take l.length).drop 1=l.tail:=by rw[uJ,List.drop_one]
theorem aW1 (hb:s.b=false) (hi:s.is k ts=true) (hx:s.l[0]?=some x):s.take k ts=(x.t,true,⟨(s.l.take s.l.length).drop 1,s.n,s.b⟩):=by
 unfold Rd.take;rw[aA (by rw[hb,hi];simp),pk_x hx,pV]
theorem zeh (h:s.b=true\/s.pk.k≠k):s.any k=(ByteArray.empty,⟨s.l,s.n,true⟩):=by unfold Rd.any;rw[aB h]
theorem aQ3 (hb:s.b=false) (h:s.pk.k=k):s.any k=(s.pk.t,⟨(s.l.take s.l.length).drop 1,s.n,s.b⟩):=by
 unfold Rd.any;rw[aA (by rw[hb,h];simp),pV]
theorem aUh (e:(t',q,s')=s.take 5 [t]):(⟨s'.l,s'.n,s'.b||!q⟩:Rd)=s.must t:=by unfold Rd.must;rw[<-e]
theorem kW (e:(t,s')=s.any k):(numV t,s')=s.number k:=by unfold Rd.number;rw[<-e]
theorem zf4 (e:s'=s.node):Stp 1 s s':=by rw[e];exact zdq s
theorem nd_e {c:Int} {p:Nd×Rd} {n:Nd} (e:(n,s')=p) (h:Stp c s p.2):Stp c s s':=by rw[<-e] at h;exact h
variable {f:Nat} {o l:List ByteArray}
theorem aGi (hb:z.b=true):zaF (f+1) o z=(o,z):=by unfold zaF;rw[aB hb]
theorem aQi (hb:z.b=false) (e1:(t,s1)=z.any 1) (e2:(t',q,s2)=s1.take 5 [zu]) (hq:q=true):zaF (f+1) o z=zaF f (o++[t]) s2:=by
 conv=>lhs;unfold zaF
 rw[aA (by rw[hb];simp),<-e1];simp only;rw[<-e2,aB hq]
theorem aJc (hb:z.b=false) (e1:(t,s1)=z.any 1) (e2:(t',q,s2)=s1.take 5 [zu]) (hq:¬q=true):zaF (f+1) o z=(o++[t],s2):=by
 conv=>lhs;unfold zaF
 rw[aA (by rw[hb];simp),<-e1];simp only;rw[<-e2,aA hq]
theorem aUg (e1:s1=s.must zl) (hi:s1.is 5 [zx]=true) (e2:s2=s1.must zx):([],s2)=s.names:=by
 unfold Rd.names;rw[<-e1,aB hi,e2]
theorem aLr (e1:s1=s.must zl) (hi:¬s1.is 5 [zx]=true) (hf:zaF (s1.l.length+1) [] s1=(l,s2)) (e2:s3=s2.must zx):(l,s3)=s.names:=by
 unfold Rd.names;rw[<-e1,aA hi,hf,e2]
theorem aZw (e:(t,q,s1)=s.take 1 [a,b]) (hq:q=false):(0,[],s1)=s.mode a b:=by unfold Rd.mode;rw[<-e,aB hq]
theorem aXv (e:(t,q,s1)=s.take 1 [a,b]) (hq:¬q=false) (ht:t=a) (e2:(l,s2)=s1.names):(1,l,s2)=s.mode a b:=by unfold Rd.mode;rw[<-e,aA hq,aB ht,e2]
theorem aY5 (e:(t,q,s1)=s.take 1 [a,b]) (hq:¬q=false) (ht:¬t=a) (e2:(l,s2)=s1.names):(2,l,s2)=s.mode a b:=by unfold Rd.mode;rw[<-e,aA hq,aA ht,e2]
variable {part:Rd->Nd×Rd} {n p:Nd} {m:Int} {sg:List ByteArray}
theorem aFa (e:(t,q,s1)=z.take 5 sg) (hq:q=false):zaz part sg (f+1) n z=(n,s1):=by
 conv=>lhs;unfold zaz
 rw[<-e,aB hq]
theorem aPx (e:(t,q,s1)=z.take 5 sg) (hq:¬q=false) (e2:(m,l,s2)=s1.mode tOn zy) (e3:(p,s3)=part s2) (e4:s4=s3.node):zaz part sg (f+1) n z=zaz part sg f (.mk tBin t 0 m l [] [n,p]) s4:=by
 conv=>lhs;unfold zaz
 rw[<-e,aA hq];simp only;rw[<-e2];simp only;rw[<-e3,e4]
theorem aPr (e:(n,s1)=part s):zaz part sg (s1.l.length+1) n s1=s.level part sg:=by unfold Rd.level;rw[<-e]
variable {om:List MatD} {c v:ByteArray}
theorem aEu (hb:z.b=true):zW (f+1) om z=(om,z):=by unfold zW;rw[aB hb]
theorem aKk (hb:z.b=false) (e1:(t,s1)=z.any 1) (e2:(c,q,s2)=s1.take 5 [tEq,tNe,zab,zz]) (e3:s3=⟨s2.l,s2.n,s2.b||!q⟩) (e4:(v,s4)=s3.any 3) {q':Bool} (e5:(t',q',s5)=s4.take 5 [zu]) (hq:q'=true):
 zW (f+1) om z=zW f (om++[⟨t,opM c,v⟩]) s5:=by
 conv=>lhs;unfold zW
 rw[aA (by rw[hb];simp),<-e1];simp only;rw[<-e2];simp only;rw[<-e3,<-e4];simp only;rw[<-e5,aB hq]
theorem aFb (hb:z.b=false) (e1:(t,s1)=z.any 1) (e2:(c,q,s2)=s1.take 5 [tEq,tNe,zab,zz]) (e3:s3=⟨s2.l,s2.n,s2.b||!q⟩) (e4:(v,s4)=s3.any 3) {q':Bool} (e5:(t',q',s5)=s4.take 5 [zu]) (hq:¬q'=true):
 zW (f+1) om z=(om++[⟨t,opM c,v⟩],s5):=by
 conv=>lhs;unfold zW
 rw[aA (by rw[hb];simp),<-e1];simp only;rw[<-e2];simp only;rw[<-e3,<-e4];simp only;rw[<-e5,aA hq]
variable (rm:List MatD->Bool)
theorem aPh (e1:s1=s.must zH) (hi:s1.is 5 [zA]=true) (e2:s2=s1.must zA):([],s2)=s.braces rm:=by
 unfold Rd.braces;rw[<-e1,aB hi,e2]
theorem aBl (e1:s1=s.must zH) (hi:¬s1.is 5 [zA]=true) (hf:zW (s1.l.length+1) [] s1=(om,s2)) (e2:s3=s2.must zA):(om,(⟨s3.l,s3.n,s3.b||!rm om⟩:Rd))=s.braces rm:=by
 unfold Rd.braces;rw[<-e1,aA hi,hf,e2]
theorem aNs {ms:List MatD} (e:(ms,s')=s.braces rm):Stp 0 s s':=by have h:=zdk rm s;rw[<-e] at h;exact h
theorem aHn (h:s.pk.k=1/\zcP s.pk.t=false) (e:(t,s1)=s.any 1):(t,s1)=s.selName:=by unfold Rd.selName;rw[aB h,e]
theorem aH4 (h:¬(s.pk.k=1/\zcP s.pk.t=false)):(ByteArray.empty,s)=s.selName:=by unfold Rd.selName;rw[aA h]
theorem aU9 (h:s.is 5 [zH]=true) {ms:List MatD} (e:(ms,s1)=s.braces rm):(ms,s1)=s.selMs rm t:=by unfold Rd.selMs;rw[aB h,e]
theorem aIg (h:¬s.is 5 [zH]=true):([],(⟨s.l,s.n,s.b||decide (t=ByteArray.empty)⟩:Rd))=s.selMs rm t:=by unfold Rd.selMs;rw[aA h]
theorem aPl (e:(t,q,s1)=s.take 5 [tSq]) (hq:q=true) {w:Int} (e2:(w,s2)=s1.number 4) (e3:s3=s2.must tSqE):(w,s3)=s.selWin:=by unfold Rd.selWin;rw[<-e,aB hq,<-e2,e3]
theorem aP3 (e:(t,q,s1)=s.take 5 [tSq]) (hq:¬q=true):(0,s1)=s.selWin:=by unfold Rd.selWin;rw[<-e,aA hq]
theorem aA2 {ms:List MatD} {w:Int} (e1:(t,s1)=s.selName) (e2:(ms,s2)=s1.selMs rm t) (e3:(w,s3)=s2.selWin) (e4:s4=s3.node):(Nd.mk nSel t w 0 [] ms [],s4)=s.selector rm:=by
 unfold Rd.selector;simp only;rw[<-e1];simp only;rw[<-e2];simp only;rw[<-e3,e4]
variable {ex:Rd->Nd×Rd}
theorem aY6 {s6 s7:Rd} {w:Int} (e1:(t,s1)=s.any 1) (e2:(m,l,s2)=s1.mode tBy zm) (e3:s3=s2.must zl) (hn:zU t=true) (e4:(w,s4)=s3.number 2) (e5:s5=s4.must zu) (e6:(n,s6)=ex s5) {s8:Rd} (e7:s7=s6.must zx) (e8:s8=s7.node):
 (Nd.mk tAgg t w m l [] [n],s8)=s.aggr ex:=by
 unfold Rd.aggr;simp only;rw[<-e1];simp only;rw[<-e2];simp only;rw[aB hn,aB hn,<-e3,<-e4];simp only;rw[<-e5,<-e6,e8,e7]
theorem a0c {s6 s7:Rd} (e1:(t,s1)=s.any 1) (e2:(m,l,s2)=s1.mode tBy zm) (e3:s3=s2.must zl) (hn:¬zU t=true) (e6:(n,s6)=ex s3) {s8:Rd} (e7:s7=s6.must zx) (e8:s8=s7.node):
 (Nd.mk tAgg t 0 m l [] [n],s8)=s.aggr ex:=by
 unfold Rd.aggr;simp only;rw[<-e1];simp only;rw[<-e2];simp only;rw[aA hn,aA hn,<-e3];simp only;rw[<-e6,e8,e7]
theorem aPa (hb:s.b=true):(noNd,s)=s.prim rm ex:=by unfold Rd.prim;rw[aB hb]
theorem aOt (hb:¬s.b=true) (hk:s.pk.k=2) {w:Int} (e:(w,s1)=s.number 2) (e2:s2=s1.node):(Nd.mk tNum ByteArray.empty w 0 [] [] [],s2)=s.prim rm ex:=by
 unfold Rd.prim;rw[aA hb,aB hk,<-e,e2]
theorem aL5 (hb:¬s.b=true) (hk:¬s.pk.k=2) (hi:s.is 5 [zl]=true) (e1:s1=s.must zl) (e2:(n,s2)=ex s1) (e3:s3=s2.must zx):(n,s3)=s.prim rm ex:=by
 unfold Rd.prim;rw[aA hb,aA hk,aB hi,<-e1,<-e2,e3]
theorem aNv (hb:¬s.b=true) (hk:¬s.pk.k=2) (hi:¬s.is 5 [zl]=true) (ha:s.pk.k=1/\hasN aggN s.pk.t=true) (e:(n,s1)=s.aggr ex):(n,s1)=s.prim rm ex:=by
 unfold Rd.prim;rw[aA hb,aA hk,aA hi,aB ha,e]
theorem aV2 (hb:¬s.b=true) (hk:¬s.pk.k=2) (hi:¬s.is 5 [zl]=true) (ha:¬(s.pk.k=1/\hasN aggN s.pk.t=true)) (hf:s.pk.k=1/\hasN fnN s.pk.t=true) (e1:(t,s1)=s.any 1) (e2:s2=s1.must zl) (e3:(n,s3)=ex s2) (e4:s4=s3.node) (e5:s5=s4.must zx):
 (Nd.mk tFn t 0 0 [] [] [n],s5)=s.prim rm ex:=by
 unfold Rd.prim;rw[aA hb,aA hk,aA hi,aA ha,aB hf];simp only;rw[<-e1];simp only;rw[<-e2,<-e3,e5,e4]
theorem aNe (hb:¬s.b=true) (hk:¬s.pk.k=2) (hi:¬s.is 5 [zl]=true) (ha:¬(s.pk.k=1/\hasN aggN s.pk.t=true)) (hf:¬(s.pk.k=1/\hasN fnN s.pk.t=true)) (e:(n,s1)=s.selector rm):(n,s1)=s.prim rm ex:=by
 unfold Rd.prim;rw[aA hb,aA hk,aA hi,aA ha,aA hf,e]
theorem aTs (e:(t,q,s1)=s.take 5 [z6]) (hq:q=true) (e2:(n,s2)=zaf rm ex f s1) (e3:s3=s2.node):(Nd.mk tNeg ByteArray.empty 0 0 [] [] [n],s3)=zaf rm ex (f+1) s:=by
 unfold zaf;rw[<-e,aB hq];simp only;rw[<-e2,e3]
theorem aSv (e:(t,q,s1)=s.take 5 [z6]) (hq:¬q=true) (e2:(n,s2)=s1.prim rm ex):(n,s2)=zaf rm ex (f+1) s:=by
 unfold zaf;rw[<-e,aA hq,e2]
theorem aXj (e:(t,q,s1)=s.take 1 [a]) (hq:q=false):(-1,s1)=s.bound a:=by unfold Rd.bound;rw[<-e,aB hq]
theorem aTw (e:(t,q,s1)=s.take 1 [a]) (hq:¬q=false) {w:Int} (e2:(w,s2)=s1.number 2):(w,(⟨s2.l,s2.n,s2.b||decide (2000<w)⟩:Rd))=s.bound a:=by unfold Rd.bound;rw[<-e,aA hq,<-e2]
theorem aJh {w:Int} (e:(w,s')=s.bound a):Stp 0 s s':=by
 have h:s'=(s.bound a).2:=aG Prod.snd e;rw[h];unfold Rd.bound;split
 · exact zC s 1 _
 exact(((zC s 1 [a]).trans (zaB _ 2)).le (by omega)).bad _
theorem aV0 (e:(t,q,s1)=s.take 1 [zaJ]) (hq:¬q=true):(0,s1)=s.order:=by
 unfold Rd.order;simp only;rw[<-e,aB (by simpa using hq)]
theorem aTc (e:(t,q,s1)=s.take 1 [zaJ]) (hq:q=true) {q':Bool} (e2:(t',q',s2)=s1.take 1 [zcW]) (hq':q'=true):(2,s2)=s.order:=by
 unfold Rd.order;simp only;rw[<-e,aA (by simp[hq])];simp only;rw[<-e2,aB hq']
theorem aKo (e:(t,q,s1)=s.take 1 [zaJ]) (hq:q=true) {q':Bool} (e2:(t',q',s2)=s1.take 1 [zcW]) (hq':¬q'=true) (e3:(c,s3)=s2.any 1):(1,(⟨s3.l,s3.n,s3.b||decide (c≠tAsc)⟩:Rd))=s.order:=by
 unfold Rd.order;simp only;rw[<-e,aA (by simp[hq])];simp only;rw[<-e2,aA hq',<-e3]
end
end Lp
