import Derived.Test.YtpbcckjedaieoaaGreatDoorV38
set_option linter.unusedSimpArgs false
set_option linter.unusedVariables false
set_option maxHeartbeats 4000000
set_option maxRecDepth 100000
namespace Lp
open Go Go.RowKit Go.Proofs
theorem quoted_c (s:ByteArray) (hs:s.size<=1000000):
 CD Tryz.prog 65 [] [.s s] (isR (.tup [TokD.d ((strT (bl8 s)).1),dN ((strT (bl8 s)).2)])):=by
 refine tZ Tryz.func65 O O (λC=>?_);refine T.bd 0 O (λbd0=>?_);have sz0:s.size<=9223372036854775807:=bd0;refine g' 2 O ?_;refine tA O (λg1=>?_);refine g' 12 O (tE O (zcZ O Tryz.runUnderlying9) ?_);rintro _ _ ⟨g2,rfl,rfl⟩;refine g' 3 O (tl2 (λ(a_:Nat) (b_:Bool)=>[(0,.s s),(2,dP g1 0),(10,dP g2 0),(4,dB b_)]) (λa_ b_=>[.it g2 s a_,.bx g1 95 (.agg [dI 0,dI 0,.v (.string ByteArray.empty)])]) (λa_ b_=>(a_<=s.size)/\(qInv s a_ (decide (a_=0)||b_))) (λa_ b_=>s.size-a_) 0 false O ⟨sk O,sk O,sk O,sc O (mA),trivial⟩ mD ⟨c7 _,qInv_zero⟩ ?_);rintro p b ⟨hp,hq⟩;rcases dH p s.size with hlt | hge
 · have hrune:=zav hlt;have hrl:=zcA s p;have hdw:=zai s p hlt;have hdp:=zL s p;refine g' 2 O (tE O (zce (i:=0) O O hlt) ?_);rintro _ _ ⟨rfl,rfl⟩;refine g' 22 O ?_;refine tOr 2 1 (c:=b) O O O O O O (λhb3 nx4=>?_) ?_
   · have hf5:=of_decide_eq_false hb3;refine g' 1 O ?_;exact nx4 _ O O (kx 1 O O)
   refine g' 3 O ?_;refine tC O (λhc6=>?_) (λhc6=>?_)
   · simp only[bX,bJ] at hc6;refine g' 5 O ?_;exact tp2 (p+decW s p) false (sa rfl) mD ⟨by have:=zai s p hlt;omega,by rw[show (decide (p+decW s p=0)||false)=false by rw[decide_eq_false (by omega)];rfl];exact qInv_skip (by have h0:(decide (p=0)||b)=true:=(by have h:=hc6;simp only[uG,decide_eq_true_eq];rcases h with h | h;exact .inl (by omega);exact .inr h);rw[<-h0];exact hq) hlt⟩ (by have:=zL s p;omega)
   simp only[bX,bJ] at hc6;refine g' 7 O ?_;refine tD O (λhc7=>?_) (λhc7=>?_)
   · refine g' 5 O ?_;exact tp2 (p+decW s p) true (sa O) mD ⟨by have:=zai s p hlt;omega,by rw[show (decide (p+decW s p=0)||true)=true by rw[decide_eq_false (by omega)];rfl];exact qInv_esc (by have h0:(decide (p=0)||b)=false:=(by have h:=hc6;simp only[uT,decide_eq_false_iff_not];exact⟨by have:=h.1;omega,h.2⟩);rw[<-h0];exact hq) hlt (by omega)⟩ (by have:=zL s p;omega)
   refine g' 7 O ?_;refine tD O (λhc8=>?_) (λhc8=>?_)
   · have hpp:1<=p:=(by have:=hc6.1;omega);have hfd:=qInv_found (by have h0:(decide (p=0)||b)=false:=(by have h:=hc6;simp only[uT,decide_eq_false_iff_not];exact⟨by have:=h.1;omega,h.2⟩);rw[<-h0];exact hq) hlt (by omega);refine g' 4 O (tP O (zu (c:=((p+1:Nat):Int)) O O (zk (by omega) (by omega))) (tP O (zaf (a:=0) (c:=p+1) O O O (by first | rfl | (show _=_;omega)) (by first | rfl | (show _=_;omega)) Tryz.runUnderlying9 (by omega) (by omega)) (tW O acs (Unquote_c (s.extract 0 (p+1)) (by simp only[dT];omega) (by simp only[dT];omega)) (g' 14 O ?_))));refine tC O (λhc9=>?_) (λhc9=>?_)
     · simp only[bX,bJ] at hc9;refine g' 2 O (tP O (zr [] [] (zv:=(.agg #[(.int .i64 0),(.int .i64 0),(.string ByteArray.empty)])) O O (.nil) (Tryz.runUnderlying95) Tryz.zeroValue95 zd7 ⟨O,O,O,trivial⟩ O) (gQ 11 [1] O O ?_));exact tRs O Tryz.results65 (.cons (zf (zO (X:=.agg [dI 0,dI 0,.v (.string ByteArray.empty)]) (d:=.agg [dI 0,dI 0,.v (.string ByteArray.empty)]) (i:=1) O O Tryz.isAgg95 Tryz.sizeOf95 O O) ((Cv.agg (gc (gc (.cons (cS) .nil)))).trans (mB (congrArg TokD.d (show (TokD.mk 0 0 ByteArray.empty)=(strT (bl8 s)).1 from(by rw[strT_f hfd hlt (by simpa using hc9)];try rfl)))))) (.cons (zf (zd O) (mB (congrArg dN (by rw[strT_f hfd hlt (by simpa using hc9)];try rfl)))) .nil)) O HSub.none ⟨O,O⟩
     simp only[bX,bJ] at hc9;refine g' 5 O (tP O (zr [0,2] [.const (.int .i64 3),.tmp 38] (zv:=(.agg #[(.int .i64 0),(.int .i64 0),(.string ByteArray.empty)])) O O (.cons (CellD.v O) (.cons CellD.s .nil)) (Tryz.runUnderlying95) Tryz.zeroValue95 zd7 ⟨O,O,O,trivial⟩ O) (g' 1 O (tP O (zu (c:=((p+1:Nat):Int)) O O (zk (by omega) (by omega))) (gQ 10 [1] O O ?_))));exact tRs O Tryz.results65 (.cons (zf (zO (X:=.agg [dI 3,dI 0,.s (unqT (s.extract 0 (p+1)))]) (d:=.agg [dI 3,dI 0,.s (unqT (s.extract 0 (p+1)))]) (i:=1) O O Tryz.isAgg95 Tryz.sizeOf95 O O) (mB (congrArg TokD.d (show (TokD.mk 3 0 (unqT (s.extract 0 (p+1))))=(strT (bl8 s)).1 from(by rw[strT_t hfd hlt (by simpa using hc9)];try rfl))))) (.cons (zf (zd O) (mB (congrArg dN (by rw[strT_t hfd hlt (by simpa using hc9)];try rfl)))) .nil)) O HSub.none ⟨O,O⟩
   refine g' 3 O ?_;exact tp2 (p+decW s p) b (sa O) mD ⟨by have:=zai s p hlt;omega,by rw[show (decide (p+decW s p=0)||b)=false by rw[decide_eq_false (by omega)];simpa using hc6.2];exact qInv_next (by have h0:(decide (p=0)||b)=false:=(by have h:=hc6;simp only[uT,decide_eq_false_iff_not];exact⟨by have:=h.1;omega,h.2⟩);rw[<-h0];exact hq) hlt (by omega) (by omega)⟩ (by have:=zL s p;omega)
 have hrune:=zaH hge;refine g' 2 O (tP O (zcT (i:=0) O O hge) (g' 12 O (tP O (zr [] [] (zv:=(.agg #[(.int .i64 0),(.int .i64 0),(.string ByteArray.empty)])) O O (.nil) (Tryz.runUnderlying95) Tryz.zeroValue95 zd7 ⟨O,O,O,trivial⟩ O) (gQ 5 [1] O O ?_))));exact tRs O Tryz.results65 (.cons (zf (zO (X:=.agg [dI 0,dI 0,.v (.string ByteArray.empty)]) (d:=.agg [dI 0,dI 0,.v (.string ByteArray.empty)]) (i:=1) O O Tryz.isAgg95 Tryz.sizeOf95 O O) ((Cv.agg (gc (gc (.cons (cS) .nil)))).trans (mB (congrArg TokD.d (show (TokD.mk 0 0 ByteArray.empty)=(strT (bl8 s)).1 from(by rw[qInv_none hq hge];try rfl)))))) (.cons (zf (zd O) (mB (congrArg dN (by rw[qInv_none hq hge];try rfl)))) .nil)) O HSub.none ⟨O,O⟩
theorem number_c (s:ByteArray) (ev:Value) (hev:EvOk ev) (hs:s.size<=1000000) (hz:0<s.size) (hk:zJ ((decR s 0:Nat):Int)=2):
 CD Tryz.prog 64 [HPow,HErr ev] [.s s] (λr H'=>r=.tup [TokD.d ((numT (bl8 s)).1),dN ((numT (bl8 s)).2)]/\H'=[HPow,HErr ev]):=by
 refine tZ Tryz.func64 O O (λC=>?_);refine T.bd 0 O (λbd0=>?_);have sz0:s.size<=9223372036854775807:=bd0;have hlt0:=hz;refine g' 2 O ?_;refine tA O (λg1=>?_);refine g' 6 O (tE O (Qu.ef (d:=.sh 1 ([2].map dI)) (zm [.const (.int .i64 2)] O O (.cons (CellD.v O) .nil) O Tryz.runUnderlying121 Tryz.sizeOf3 Tryz.zeroValue3 O O O O)) ?_);rintro _ _ ⟨rfl,rfl⟩;refine tW O acs (zf7 s [2]) (g' 6 O (tE O (Qu.ef (d:=.sh 1 ([1,2].map dI)) (zm [.const (.int .i64 1),.const (.int .i64 2)] O O (.cons (CellD.v O) (.cons (CellD.v O) .nil)) O Tryz.runUnderlying121 Tryz.sizeOf3 Tryz.zeroValue3 O O O O)) ?_));rintro _ _ ⟨rfl,rfl⟩;refine tW O acs (zf7 s [1,2]) (g' 4 O ?_);have hn1:=zco (inK [2]) s;have hn2:=zco (inK [1,2]) s;have hq0:s.extract 0 (runL (inK [2]) (bl8 s))=mkB ((bl8 s).take (runL (inK [2]) (bl8 s))):=zdz hn1;have hpos:1<=runL (inK [2]) (bl8 s):=run_digit_pos hz hk;have hdg:Digs (bl8 (s.extract 0 (runL (inK [2]) (bl8 s)))):=by rw[hq0,zb4];exact run_digits _ _ rfl
 have hsz0:(s.extract 0 (runL (inK [2]) (bl8 s))).size=runL (inK [2]) (bl8 s):=by rw[dT];omega
 have hne13:bl8 (s.extract 0 (runL (inK [2]) (bl8 s)))≠[]:=λe=>by have:=congrArg List.length e;rw[zaj,hsz0] at this;simp only[ln] at this;omega
 refine g' 3 O (tP O (zaf (a:=0) (c:=runL (inK [2]) (bl8 s)) O O O (by first | rfl | (show _=_;omega)) (by first | rfl | (show _=_;omega)) Tryz.runUnderlying9 (by omega) (by omega)) (tX [2] O O acs (atoi_c (s.extract 0 (runL (inK [2]) (bl8 s))) ev hev hdg hne13 (by simp only[dT];omega)) ?_));rintro _ _ ⟨av,ax,rfl,rfl,hv13,hv0,hv1⟩;refine g' 9 O ?_;by_cases h13:(13:Int)<((runL (inK [2]) (bl8 s):Nat):Int)
 · have hbad:13<nD s\/1000000000000<vD s:=.inl (by show 13<runL (inK [2]) (bl8 s);omega);refine g' 2 O (tP O (zaV O O (decide_eq_true h13)) (g' 13 O (tP O (zr [] [] (zv:=(.agg #[(.int .i64 0),(.int .i64 0),(.string ByteArray.empty)])) O O (.nil) (Tryz.runUnderlying95) Tryz.zeroValue95 zd7 ⟨O,O,O,trivial⟩ O) (gQ 6 [1] O O (kE 2 O ?_)))));exact tRs O Tryz.results64 (.cons (zf (zO (X:=.agg [dI 0,dI 0,.v (.string ByteArray.empty)]) (d:=.agg [dI 0,dI 0,.v (.string ByteArray.empty)]) (i:=2) O O Tryz.isAgg95 Tryz.sizeOf95 O O) ((Cv.agg (gc (gc (.cons (cS) .nil)))).trans (mB (congrArg TokD.d (show (TokD.mk 0 0 ByteArray.empty)=(numT (bl8 s)).1 from(by rw[numT_1 hbad];try rfl)))))) (.cons (zf (zd O) (mB (congrArg dN (by rw[numT_1 hbad];try rfl)))) .nil)) O (mT 2 O) ⟨O,O⟩
 obtain ⟨e1,e2⟩:=hv13 (by rw[hsz0];omega);subst e1;subst e2;have hvd:digV (bl8 (s.extract 0 (runL (inK [2]) (bl8 s))))=vD s:=by rw[hq0,zb4]
 have hvl:vD s<10000000000000:=vD_le (run_digits _ _ rfl) (by rw[dG];show min (runL (inK [2]) (bl8 s)) _<=13;omega);refine T.sub [(0,.s s),(2,dP g1 0),(3,dI 0),(4,dN (runL (inK [2]) (bl8 s))),(5,dN (runL (inK [1,2]) (bl8 s))),(6,dN (vD s)),(7,.v .nilIface)] ⟨sk O,sk O,sk O,sk O,sk O,sc O (mB (congrArg (λn:Nat=>dI (n:Int)) hvd)),sk O,trivial⟩ (g' 2 O (tP O (zaV O O (decide_eq_false h13)) (g' 2 O (tG O (zdX (r:=.bool false) O O (λ_=>by kernel_rfl)) (g' 7 O ?_)))));refine tD O (λhc2=>?_) (λhc2=>?_)
 · have hbad:13<nD s\/1000000000000<vD s:=.inr (by have:=hc2;omega);refine g' 2 O (tP O (zr [] [] (zv:=(.agg #[(.int .i64 0),(.int .i64 0),(.string ByteArray.empty)])) O O (.nil) (Tryz.runUnderlying95) Tryz.zeroValue95 zd7 ⟨O,O,O,trivial⟩ O) (gQ 6 [1] O O (kE 2 O ?_)));exact tRs O Tryz.results64 (.cons (zf (zO (X:=.agg [dI 0,dI 0,.v (.string ByteArray.empty)]) (d:=.agg [dI 0,dI 0,.v (.string ByteArray.empty)]) (i:=2) O O Tryz.isAgg95 Tryz.sizeOf95 O O) ((Cv.agg (gc (gc (.cons (cS) .nil)))).trans (mB (congrArg TokD.d (show (TokD.mk 0 0 ByteArray.empty)=(numT (bl8 s)).1 from(by rw[numT_1 hbad];try rfl)))))) (.cons (zf (zd O) (mB (congrArg dN (by rw[numT_1 hbad];try rfl)))) .nil)) O (mT 2 O) ⟨O,O⟩
 have hgood:¬(13<nD s\/1000000000000<vD s):=λe=>by rcases e with e | e;(exact h13 (by have e:13<runL (inK [2]) (bl8 s):=e;omega));(have:=hc2;omega)
 refine g' 10 O ?_;refine tD O (λhc3=>?_) (λhc3=>?_)
 · have hsame:nA s=nD s:=(by show runL (inK [1,2]) (bl8 s)=runL (inK [2]) (bl8 s);omega);refine g' 3 O (tX [2] O O acs (itoa_c (vD s) (by omega)) ?_);rintro _ _ ⟨rfl,rfl⟩;refine tP O (zr [0,2] [.const (.int .i64 2),.tmp 37] (zv:=(.agg #[(.int .i64 0),(.int .i64 0),(.string ByteArray.empty)])) O O (.cons (CellD.v O) (.cons CellD.s .nil)) (Tryz.runUnderlying95) Tryz.zeroValue95 zd7 ⟨O,O,O,trivial⟩ O) (gQ 7 [2] O O ?_);exact tRs O Tryz.results64 (.cons (zf (zO (X:=.agg [dI 2,dI 0,.s (digB (vD s))]) (d:=.agg [dI 2,dI 0,.s (digB (vD s))]) (i:=2) O O Tryz.isAgg95 Tryz.sizeOf95 O O) (mB (congrArg TokD.d (show (TokD.mk 2 0 (digB (vD s)))=(numT (bl8 s)).1 from(by rw[numT_2 hgood hsame];try rfl))))) (.cons (zf (zd O) (mB (congrArg dN (by rw[numT_2 hgood hsame];try rfl)))) .nil)) O (mT 2 O) ⟨O,O⟩
 have hdiff:¬nA s=nD s:=by show ¬runL (inK [1,2]) (bl8 s)=runL (inK [2]) (bl8 s);omega
 have hsc:=secB_cases (s.extract (runL (inK [2]) (bl8 s)) (runL (inK [1,2]) (bl8 s)));have hle:=nD_le s;refine g' 7 O (tP O (zaf (a:=runL (inK [2]) (bl8 s)) (c:=runL (inK [1,2]) (bl8 s)) O O O (by first | rfl | (show _=_;omega)) (by first | rfl | (show _=_;omega)) Tryz.runUnderlying9 (by omega) (by omega)) (tW O acs (seconds_c (s.extract (runL (inK [2]) (bl8 s)) (runL (inK [1,2]) (bl8 s)))) (g' 5 O ?_)));obtain ⟨q,hq,hq1⟩:∃ q:Nat,1000000000 / secB (s.extract (runL (inK [2]) (bl8 s)) (runL (inK [1,2]) (bl8 s)))=q/\q<=1000000000:=⟨_,rfl,Nat.div_le_self _ _⟩;refine g' 4 O ?_;refine tOr 2 4 (c:=decide (((q:Nat):Int)<(((vD s):Nat):Int))) O O O O O O (λhb4 nx5=>?_) ?_
 · have hf6:=of_decide_eq_false hb4;refine g' 2 O (tG O (p_quo (c:=((q:Nat):Int)) O O (by omega) (zk (by rw[Int.tdiv_eq_ediv_of_nonneg (by omega),<-hq];first | exact wM _ _ | exact(wM _ _).symm) (by omega))) (g' 1 O ?_));exact nx5 _ O O (kx 4 O O)
 refine g' 2 O ?_;refine tC O (λhc7=>?_) (λhc7=>?_)
 · simp only[bX,bJ] at hc7;have hs3:secB (s.extract (nD s) (nA s))=0\/1000000000 / secB (s.extract (nD s) (nA s))<vD s:=(by have h:=hc7;rcases h with h | h;(exact .inl (by show secB (s.extract (runL (inK [2]) (bl8 s)) (runL (inK [1,2]) (bl8 s)))=0;omega));(exact .inr (by show 1000000000 / secB (s.extract (runL (inK [2]) (bl8 s)) (runL (inK [1,2]) (bl8 s)))<_;rw[hq];omega)));refine g' 2 O (tP O (zr [] [] (zv:=(.agg #[(.int .i64 0),(.int .i64 0),(.string ByteArray.empty)])) O O (.nil) (Tryz.runUnderlying95) Tryz.zeroValue95 zd7 ⟨O,O,O,trivial⟩ O) (gQ 6 [1] O O (kE 2 O ?_)));exact tRs O Tryz.results64 (.cons (zf (zO (X:=.agg [dI 0,dI 0,.v (.string ByteArray.empty)]) (d:=.agg [dI 0,dI 0,.v (.string ByteArray.empty)]) (i:=2) O O Tryz.isAgg95 Tryz.sizeOf95 O O) ((Cv.agg (gc (gc (.cons (cS) .nil)))).trans (mB (congrArg TokD.d (show (TokD.mk 0 0 ByteArray.empty)=(numT (bl8 s)).1 from(by rw[numT_3 hgood hdiff hs3];try rfl)))))) (.cons (zf (zd O) (mB (congrArg dN (by rw[numT_3 hgood hdiff hs3];try rfl)))) .nil)) O (mT 2 O) ⟨O,O⟩
 simp only[bX,bJ] at hc7;have hs4:¬(secB (s.extract (nD s) (nA s))=0\/1000000000 / secB (s.extract (nD s) (nA s))<vD s):=λe=>by have h:=hc7;rcases e with e | e;(have e:secB (s.extract (runL (inK [2]) (bl8 s)) (runL (inK [1,2]) (bl8 s)))=0:=e;omega);(have e:1000000000 / secB (s.extract (runL (inK [2]) (bl8 s)) (runL (inK [1,2]) (bl8 s)))<vD s:=e;rw[hq] at e;omega)
 have hmu:vD s*secB (s.extract (runL (inK [2]) (bl8 s)) (runL (inK [1,2]) (bl8 s)))<=1000000000:=by have h:=hc7;exact(vL (by omega)).1 (by rw[hq];omega)
 refine g' 6 O ?_;obtain ⟨m,hm,hm1⟩:∃ m:Nat,(vD s)*(secB (s.extract (runL (inK [2]) (bl8 s)) (runL (inK [1,2]) (bl8 s))))=m/\m<=1000000000:=⟨_,rfl,hmu⟩;refine tP O (zfy (c:=((m:Nat):Int)) O O (zk (by rw[<-hm];first | exact Int.natCast_mul _ _ | exact(Int.natCast_mul _ _).symm) (by omega))) (tX [2] O O acs (itoa_c m (by omega)) ?_);rintro _ _ ⟨rfl,rfl⟩;refine tP O (zr [0,2] [.const (.int .i64 4),.tmp 57] (zv:=(.agg #[(.int .i64 0),(.int .i64 0),(.string ByteArray.empty)])) O O (.cons (CellD.v O) (.cons CellD.s .nil)) (Tryz.runUnderlying95) Tryz.zeroValue95 zd7 ⟨O,O,O,trivial⟩ O) (gQ 6 [2] O O ?_);exact tRs O Tryz.results64 (.cons (zf (zO (X:=.agg [dI 4,dI 0,.s (digB m)]) (d:=.agg [dI 4,dI 0,.s (digB m)]) (i:=2) O O Tryz.isAgg95 Tryz.sizeOf95 O O) (mB (congrArg TokD.d (show (TokD.mk 4 0 (digB m))=(numT (bl8 s)).1 from(by have e:=numT_4 hgood hdiff hs4;rw[show vD s*secB (s.extract (nD s) (nA s))=m from hm] at e;rw[e];try rfl))))) (.cons (zf (zd O) (mB (congrArg dN (by have e:=numT_4 hgood hdiff hs4;rw[show vD s*secB (s.extract (nD s) (nA s))=m from hm] at e;rw[e];try rfl)))) .nil)) O (mT 2 O) ⟨O,O⟩
theorem infz_95:IzP Tryz.prog 95 (.agg #[(.int .i64 0),(.int .i64 0),(.string ByteArray.empty)]) 3 32:=zbg (by kernel_rfl)
theorem und_73:Tryz.prog.underlying 73=some (.slice 95):=by kernel_rfl
theorem Spell_c (s:ByteArray) (hs:s.size<=1000000000):
 CD Tryz.prog 62 [] [.s s] (zcc 1 21 ((zS s).map dR)):=by
 refine tZ Tryz.func62 O O (λC=>?_);refine T.bd 0 O (λbd0=>?_);have sz0:s.size<=9223372036854775807:=bd0;refine g' 14 O (tE O (zcZ O Tryz.runUnderlying9) ?_);rintro _ _ ⟨g1,rfl,rfl⟩;refine g' 3 O (tl3 (λ(a_:Nat) (b_:Value) (c_:List Int)=>[(2,dZ),(7,dP g1 0),(3,.ov b_)]) (λa_ b_ c_=>[.it g1 s a_,.sl b_ 1 21 (c_.map dR)]) (λa_ b_ c_=>(a_<=s.size)/\(c_.length<=a_)/\(zS s=c_++zaB s a_)) (λa_ b_ c_=>s.size-a_) 0 (.slice none 0 0) [] O ⟨sk O,sk O,sc O (Cv.ov O),trivial⟩ (HSub.trans (HSub.nil 1 21) (mF (List.Perm.swap _ _ _))) ⟨c7 _,dD _,O⟩ ?_);rintro p ov l ⟨hp,hn,hf⟩;rcases dH p s.size with hlt | hge
 · have hrune:=zav hlt;have hrl:=zcA s p;have hdw:=zai s p hlt;have hdp:=zL s p;refine g' 2 O (tE O (zce (i:=0) O O hlt) ?_);rintro _ _ ⟨rfl,rfl⟩;refine g' 17 O (tE O (zq [.tmp 12] O O (.cons (CellD.v O) .nil) O Tryz.runUnderlying124 Tryz.sizeOf21 Tryz.zeroValue21 O O O O) ?_);rintro _ _ ⟨g2,rfl,rfl⟩;refine tE O (zy (f:=dR) (l:=l) (l':=[((decR s p:Nat):Int)]) (i:=2) O O O (mK (j:=0) O O) und_124 infz_21 O O (by unfold maxLen;(try simp only[la,lc,ln,lm,lt',ld,ls,lr]);omega) (by (try simp only[la,lc,ln,lm,lt',ld,ls,lr]);omega)) ?_;rintro _ _ ⟨v3,rfl,rfl⟩;refine g' 3 O ?_;exact tp3 (p+decW s p) v3 (l++[((decR s p:Nat):Int)]) (sa O) (mU 1 O) ⟨by have:=zai s p hlt;omega,by rw[cX,dA];omega,by rw[hf,hrune,cY];rfl⟩ (by have:=zL s p;omega)
 have hrune:=zaH hge;refine g' 2 O (tP O (zcT (i:=0) O O hge) (g' 17 O (kC (mE (zau (i:=1) O)) (kC (mG (h':=.sl ov 1 21 ((zS s).map dR)) O (mI (show List.map dR l=List.map dR (zS s) from congrArg _ (by rw[hf,hrune,j5])))) ?_))));exact tR O mD ⟨_,O,O⟩
theorem first_c (s:ByteArray) (ev:Value) (hev:EvOk ev) (hs:s.size<=1000000) (hz:0<s.size):
 CD Tryz.prog 41 [HPow,HErr ev] [.s s] (λr H'=>r=.tup [TokD.d ((zt (bl8 s)).1),dN ((zt (bl8 s)).2)]/\H'=[HPow,HErr ev]):=by
 refine tZ Tryz.func41 O O (λC=>?_);refine T.bd 0 O (λbd0=>?_);have sz0:s.size<=9223372036854775807:=bd0;obtain ⟨y,hy,ey⟩:∃ y,(zS s)[0]?=some y/\y=((decR s 0:Nat):Int):=⟨_,by rw[show zS s=zaB s 0 from rfl,zav hz];rfl,rfl⟩;have hyl:=zcA s 0;refine g' 2 O ?_;refine tA O (λg1=>?_);refine g' 7 O (tX [] O O acs (Spell_c s (by omega)) ?_);rintro _ _ ⟨v2,rfl,rfl⟩;refine tP O (zg (k:=0) (j:=0) O O O Tryz.runUnderlying124 Tryz.sizeOf21 (by first | rfl | omega) (ze hy)) (tP O (zaA O (i:=0) O (ze hy) Tryz.isAgg21 O) (g' 7 O (tW O acs (Kind_c y) (g' 4 O ?_))));refine tD O (λhc3=>?_) (λhc3=>?_)
 · have q1:zJ ((decR s 0:Nat):Int)=1:=(by rw[<-ey];exact hc3);refine g' 3 O (tW O acs (word_c s (by omega)) (gQ 9 [1] O O (kE 3 O (kE 3 O ?_))));exact tRs O Tryz.results41 (.cons (zf (zO (X:=TokD.d ((zb8 (bl8 s)).1)) (d:=TokD.d ((zb8 (bl8 s)).1)) (i:=3) O O Tryz.isAgg95 Tryz.sizeOf95 O O) (mB (congrArg TokD.d (show (zb8 (bl8 s)).1=(zt (bl8 s)).1 from(by rw[firstT_1 q1]))))) (.cons (zf (zd O) (mB (congrArg dN (by rw[firstT_1 q1])))) .nil)) O (mT 2 O) ⟨O,O⟩
 have q1:¬zJ ((decR s 0:Nat):Int)=1:=by rw[<-ey];exact hc3
 refine g' 3 O (tW O acs (Kind_c y) (g' 4 O ?_));refine tD O (λhc4=>?_) (λhc4=>?_)
 · have hk2:zJ ((decR s 0:Nat):Int)=2:=(by rw[<-ey];exact hc4);refine g' 3 O (tX [2,2] O O acs (number_c s ev hev (by omega) (by omega) hk2) ?_);rintro _ _ ⟨rfl,rfl⟩;refine gQ 9 [3] O O ?_;exact tRs O Tryz.results41 (.cons (zf (zO (X:=TokD.d ((numT (bl8 s)).1)) (d:=TokD.d ((numT (bl8 s)).1)) (i:=3) O O Tryz.isAgg95 Tryz.sizeOf95 O O) (mB (congrArg TokD.d (show (numT (bl8 s)).1=(zt (bl8 s)).1 from(by rw[firstT_2 q1 hk2]))))) (.cons (zf (zd O) (mB (congrArg dN (by rw[firstT_2 q1 hk2])))) .nil)) O (mT 2 O) ⟨O,O⟩
 have q2:¬zJ ((decR s 0:Nat):Int)=2:=by rw[<-ey];exact hc4
 refine g' 7 O ?_;refine tD O (λhc5=>?_) (λhc5=>?_)
 · have q3:decR s 0=34:=(by have:=hc5;omega);refine g' 3 O (tW O acs (quoted_c s (by omega)) (gQ 9 [1] O O (kE 3 O (kE 3 O ?_))));exact tRs O Tryz.results41 (.cons (zf (zO (X:=TokD.d ((strT (bl8 s)).1)) (d:=TokD.d ((strT (bl8 s)).1)) (i:=3) O O Tryz.isAgg95 Tryz.sizeOf95 O O) (mB (congrArg TokD.d (show (strT (bl8 s)).1=(zt (bl8 s)).1 from(by rw[firstT_3 q1 q2 q3]))))) (.cons (zf (zd O) (mB (congrArg dN (by rw[firstT_3 q1 q2 q3])))) .nil)) O (mT 2 O) ⟨O,O⟩
 have q3:¬decR s 0=34:=by have:=hc5;omega
 refine g' 6 O (tW O acs (sign_c s (by omega)) (gQ 7 [1] O O (kE 3 O (kE 3 O ?_))));exact tRs O Tryz.results41 (.cons (zf (zO (X:=TokD.d ((zcn (bl8 s)).1)) (d:=TokD.d ((zcn (bl8 s)).1)) (i:=3) O O Tryz.isAgg95 Tryz.sizeOf95 O O) (mB (congrArg TokD.d (show (zcn (bl8 s)).1=(zt (bl8 s)).1 from(by rw[firstT_4 q1 q2 q3]))))) (.cons (zf (zd O) (mB (congrArg dN (by rw[firstT_4 q1 q2 q3])))) .nil)) O (mT 2 O) ⟨O,O⟩
theorem Words_c (s:ByteArray) (ev:Value) (hev:EvOk ev):
 CD Tryz.prog 25 [HPow,HErr ev] [.s s] (λr H'=>∃ v,r=.tup [.ov v,dI (lexE s)]/\H'=[.sl v 3 95 ((lexL s).map TokD.d),HPow,HErr ev]):=by
 refine tZ Tryz.func25 O O (λC=>?_);refine T.bd 0 O (λbd0=>?_);have sz0:s.size<=9223372036854775807:=bd0;refine g' 10 O (tP O (z6 O Tryz.runUnderlying9) (g' 3 O ?_));refine tD O (λhc1=>?_) (λhc1=>?_)
 · have hlong:600<s.size:=(by have:=hc1;omega);refine g' 8 O (kC (HSub.nil 3 95) (kD [.sl (.slice none 0 0) 3 95 ([].map TokD.d),HPow,HErr ev] O (kD [.sl (.slice none 0 0) 3 95 ((lexL s).map TokD.d),HPow,HErr ev] (by have hw9:([]:List TokD)=lexL s:=(lex_long hlong).1;rw[<-hw9]<;>rfl) ?_)));exact tRs O Tryz.results25 (.cons (zf (zd O) (Cv.ov O)) (.cons (zf (zd O) (mB (congrArg dI (show (1:Int)=lexE s from(lex_long hlong).2)))) .nil)) O (mT 3 O) ⟨(.slice none 0 0),O,O⟩
 have hshort:¬600<s.size:=by have:=hc1;omega
 have hr0:=zco (inK [3]) s;refine g' 11 O (tE O (Qu.ef (d:=.sh 1 ([3].map dI)) (zm [.const (.int .i64 3)] O O (.cons (CellD.v O) .nil) O Tryz.runUnderlying121 Tryz.sizeOf3 Tryz.zeroValue3 O O O O)) ?_);rintro _ _ ⟨rfl,rfl⟩;refine tW O acs (zf7 s [3]) (g' 4 O (tl3 (λ(a_:Nat) (b_:Value) (c_:List TokD)=>[(0,.s s),(5,dN a_),(4,.ov b_)]) (λa_ b_ c_=>[.sl b_ 3 95 (c_.map TokD.d),HPow,HErr ev]) (λa_ b_ c_=>(WInv s a_ c_)/\(a_<=s.size)/\(c_.length<=a_)) (λa_ b_ c_=>s.size-a_) (runL (inK [3]) (bl8 s)) (.slice none 0 0) [] O ⟨sk O,sk O,sc O (Cv.ov O),trivial⟩ (HSub.nil 3 95) ⟨WInv.zero,hr0,c7 _⟩ ?_));rintro p ov out ⟨hw,hp,ho⟩;refine g' 5 O (tP O (z6 O Tryz.runUnderlying9) (g' 3 O ?_));refine tD O (λhc2=>?_) (λhc2=>?_)
 · have hlt:p<s.size:=(by have:=hc2;omega);have hfr:=first_run_le (s:=s) (p:=p) hp;refine g' 8 O (tP O (zaf (a:=p) (c:=s.size) O O O (by first | rfl | (show _=_;omega)) (by first | rfl | (show _=_;omega)) Tryz.runUnderlying9 (by omega) (by omega)) (tX [1,1] O O acs (first_c (s.extract p s.size) ev hev (by simp only[dT];omega) (by simp only[dT];omega)) ?_));rintro _ _ ⟨rfl,rfl⟩;refine g' 3 O ?_;refine tA O (λg3=>?_);refine gQ 11 [0] O O ?_;refine tD O (λhc4=>?_) (λhc4=>?_)
   · have hbad:(zt (bl8 (s.extract p s.size))).2=0:=(by have:=hc4;omega);refine g' 13 O (kC (HSub.nil 3 95) (kE 3 O (kE 3 O (kE 2 O (kD [.sl (.slice none 0 0) 3 95 ([].map TokD.d),HPow,HErr ev,.bx g3 95 (TokD.d ((zt (bl8 (s.extract p s.size))).1)),.sl ov 3 95 (out.map TokD.d)] O (kD [.sl (.slice none 0 0) 3 95 ((lexL s).map TokD.d),HPow,HErr ev,.bx g3 95 (TokD.d ((zt (bl8 (s.extract p s.size))).1)),.sl ov 3 95 (out.map TokD.d)] (by have hw9:([]:List TokD)=lexL s:=(lex_bad hshort (hw.bad hlt hbad)).1;rw[<-hw9]<;>rfl) ?_))))));exact tRs O Tryz.results25 (.cons (zf (zd O) (Cv.ov O)) (.cons (zf (zd O) (mB (congrArg dI (show (2:Int)=lexE s from(lex_bad hshort (hw.bad hlt hbad)).2)))) .nil)) O (mT 3 O) ⟨(.slice none 0 0),O,O⟩
   have hn0:¬(zt (bl8 (s.extract p s.size))).2=0:=(by have:=hc4;omega);have hrs:=zco (inK [3]) (s.extract (p+(zt (bl8 (s.extract p s.size))).2) s.size);rw[dT] at hrs;refine gQ 13 [0,0] O O (tE O (Qu.ef (d:=.sh 3 ([(TokD.mk (((zt (bl8 (s.extract p s.size))).1).k) ((p:Nat):Int) (((zt (bl8 (s.extract p s.size))).1).t))].map TokD.d)) (zm [.tmp 37] O O (.cons CellD.agg .nil) O Tryz.runUnderlying73 Tryz.sizeOf95 Tryz.zeroValue95 O O O O)) ?_);rintro _ _ ⟨rfl,rfl⟩;refine tE O (zy (f:=TokD.d) (l:=out) (l':=[(TokD.mk (((zt (bl8 (s.extract p s.size))).1).k) ((p:Nat):Int) (((zt (bl8 (s.extract p s.size))).1).t))]) (i:=3) O O O (SrcD.sh) und_73 infz_95 O O (by unfold maxLen;(try simp only[la,lc,ln,lm,lt',ld,ls,lr]);omega) (by (try simp only[la,lc,ln,lm,lt',ld,ls,lr]);omega)) ?_;rintro _ _ ⟨v5,rfl,rfl⟩;refine g' 6 O (tP O (zu (c:=((p+((zt (bl8 (s.extract p s.size))).2):Nat):Int)) O O (zk (by omega) (by omega))) (g' 8 O (tP O (zaf (a:=p+((zt (bl8 (s.extract p s.size))).2)) (c:=s.size) O O O (by first | rfl | (show _=_;omega)) (by first | rfl | (show _=_;omega)) Tryz.runUnderlying9 (by omega) (by omega)) (tE O (Qu.ef (d:=.sh 1 ([3].map dI)) (zm [.const (.int .i64 3)] O O (.cons (CellD.v O) .nil) O Tryz.runUnderlying121 Tryz.sizeOf3 Tryz.zeroValue3 O O O O)) ?_))));rintro _ _ ⟨rfl,rfl⟩;refine tW O acs (zf7 (s.extract (p+((zt (bl8 (s.extract p s.size))).2)) s.size) [3]) (tP O (zu (c:=(((p+((zt (bl8 (s.extract p s.size))).2))+(runL (inK [3]) (bl8 (s.extract (p+((zt (bl8 (s.extract p s.size))).2)) s.size))):Nat):Int)) O O (zk (by omega) (by omega))) (g' 2 O (kE 2 O (kE 2 O (kE 3 O ?_)))));exact tp3 ((p+((zt (bl8 (s.extract p s.size))).2))+(runL (inK [3]) (bl8 (s.extract (p+((zt (bl8 (s.extract p s.size))).2)) s.size)))) v5 (out++[(TokD.mk (((zt (bl8 (s.extract p s.size))).1).k) ((p:Nat):Int) (((zt (bl8 (s.extract p s.size))).1).t))]) (sa O) (mT 3 O) ⟨hw.next hlt hn0,by omega,by (try simp only[la,dA]);omega⟩ (by omega)
 have hge:s.size<=p:=by have:=hc2;omega
 refine g' 13 O (kD [.sl ov 3 95 ((lexL s).map TokD.d),HPow,HErr ev] (by have hw9:(out:List TokD)=lexL s:=(lex_ok hshort (hw.done hge)).1;rw[<-hw9]<;>rfl) ?_);exact tRs O Tryz.results25 (.cons (zd O) (.cons (zf (zd O) (mB (congrArg dI (show (0:Int)=lexE s from(lex_ok hshort (hw.done hge)).2)))) .nil)) O (mT 3 O) ⟨ov,O,O⟩
end Lp
namespace Lp
open Go
section
variable {s s' s1 s2 s3 s4 s5 z:Rd} {k:Int} {ts:List ByteArray} {t t' a b:ByteArray} {q:Bool} {x:TokD}
theorem pk_0 (h:s.l.length=0):s.pk=zbP:=by unfold Rd.pk;rw[jV.1 h];rfl
theorem pk_x (h:s.l[0]?=some x):s.pk=x:=by
 unfold Rd.pk;cases e:s.l with
 | nil=>rw[e] at h;cases h
 | cons y l=>rw[e] at h;injection h
theorem pk_len (hk:k≠0) (h:s.pk.k=k):0<s.l.length:=jE.2 (pk_ne hk h)
theorem is_k (h:s.is k ts=true):s.pk.k=k:=by unfold Rd.is at h;simp only[c8,decide_eq_true_eq] at h;exact h.1
theorem is_ne (hk:k≠0) (h:s.is k ts=true):0<s.l.length:=pk_len hk (is_k h)
theorem take_no (h:s.b=true\/s.is k ts=false):s.take k ts=(ByteArray.empty,false,s):=by unfold Rd.take;rw[if_pos h]
theorem tail_td (l:List TokD):(l.take l.length).drop 1=l.tail:=by rw[d7,List.drop_one]
theorem take_ok (hb:s.b=false) (hi:s.is k ts=true) (hx:s.l[0]?=some x):s.take k ts=(x.t,true,⟨(s.l.take s.l.length).drop 1,s.n,s.b⟩):=by
 unfold Rd.take;rw[if_neg (by rw[hb,hi];simp),pk_x hx,tail_td]
theorem any_no (h:s.b=true\/s.pk.k≠k):s.any k=(ByteArray.empty,⟨s.l,s.n,true⟩):=by unfold Rd.any;rw[if_pos h]
theorem any_ok (hb:s.b=false) (h:s.pk.k=k):s.any k=(s.pk.t,⟨(s.l.take s.l.length).drop 1,s.n,s.b⟩):=by
 unfold Rd.any;rw[if_neg (by rw[hb,h];simp),tail_td]
theorem must_of (e:(t',q,s')=s.take 5 [t]):(⟨s'.l,s'.n,s'.b||!q⟩:Rd)=s.must t:=by unfold Rd.must;rw[<-e]
theorem number_of (e:(t,s')=s.any k):(numV t,s')=s.number k:=by unfold Rd.number;rw[<-e]
theorem zfq (e:s'=s.node):Stp 1 s s':=by rw[e];exact zcV s
theorem nd_e {c:Int} {p:Nd×Rd} {n:Nd} (e:(n,s')=p) (h:Stp c s p.2):Stp c s s':=by rw[<-e] at h;exact h
variable {f:Nat} {o l:List ByteArray}
theorem names_bad (hb:z.b=true):zb2 (f+1) o z=(o,z):=by unfold zb2;rw[if_pos hb]
theorem names_go (hb:z.b=false) (e1:(t,s1)=z.any 1) (e2:(t',q,s2)=s1.take 5 [zbz]) (hq:q=true):zb2 (f+1) o z=zb2 f (o++[t]) s2:=by
 conv=>lhs;unfold zb2
 rw[if_neg (by rw[hb];simp),<-e1];simp only;rw[<-e2,if_pos hq]
theorem names_end (hb:z.b=false) (e1:(t,s1)=z.any 1) (e2:(t',q,s2)=s1.take 5 [zbz]) (hq:¬q=true):zb2 (f+1) o z=(o++[t],s2):=by
 conv=>lhs;unfold zb2
 rw[if_neg (by rw[hb];simp),<-e1];simp only;rw[<-e2,if_neg hq]
theorem names_0 (e1:s1=s.must zbj) (hi:s1.is 5 [zbe]=true) (e2:s2=s1.must zbe):([],s2)=s.names:=by
 unfold Rd.names;rw[<-e1,if_pos hi,e2]
theorem names_1 (e1:s1=s.must zbj) (hi:¬s1.is 5 [zbe]=true) (hf:zb2 (s1.l.length+1) [] s1=(l,s2)) (e2:s3=s2.must zbe):(l,s3)=s.names:=by
 unfold Rd.names;rw[<-e1,if_neg hi,hf,e2]
theorem mode_0 (e:(t,q,s1)=s.take 1 [a,b]) (hq:q=false):(0,[],s1)=s.mode a b:=by unfold Rd.mode;rw[<-e,if_pos hq]
theorem mode_1 (e:(t,q,s1)=s.take 1 [a,b]) (hq:¬q=false) (ht:t=a) (e2:(l,s2)=s1.names):(1,l,s2)=s.mode a b:=by unfold Rd.mode;rw[<-e,if_neg hq,if_pos ht,e2]
theorem mode_2 (e:(t,q,s1)=s.take 1 [a,b]) (hq:¬q=false) (ht:¬t=a) (e2:(l,s2)=s1.names):(2,l,s2)=s.mode a b:=by unfold Rd.mode;rw[<-e,if_neg hq,if_neg ht,e2]
variable {part:Rd->Nd×Rd} {n p:Nd} {m:Int} {sg:List ByteArray}
theorem level_stop (e:(t,q,s1)=z.take 5 sg) (hq:q=false):zc4 part sg (f+1) n z=(n,s1):=by
 conv=>lhs;unfold zc4
 rw[<-e,if_pos hq]
theorem level_go (e:(t,q,s1)=z.take 5 sg) (hq:¬q=false) (e2:(m,l,s2)=s1.mode tOn tIgnoring) (e3:(p,s3)=part s2) (e4:s4=s3.node):zc4 part sg (f+1) n z=zc4 part sg f (.mk tBin t 0 m l [] [n,p]) s4:=by
 conv=>lhs;unfold zc4
 rw[<-e,if_neg hq];simp only;rw[<-e2];simp only;rw[<-e3,e4]
theorem level_of (e:(n,s1)=part s):zc4 part sg (s1.l.length+1) n s1=s.level part sg:=by unfold Rd.level;rw[<-e]
variable {om:List MatD} {c v:ByteArray}
theorem braces_bad (hb:z.b=true):zbw (f+1) om z=(om,z):=by unfold zbw;rw[if_pos hb]
theorem braces_go (hb:z.b=false) (e1:(t,s1)=z.any 1) (e2:(c,q,s2)=s1.take 5 [tEq,tNe,zek,zck]) (e3:s3=⟨s2.l,s2.n,s2.b||!q⟩) (e4:(v,s4)=s3.any 3) {q':Bool} (e5:(t',q',s5)=s4.take 5 [zbz]) (hq:q'=true):
 zbw (f+1) om z=zbw f (om++[⟨t,opM c,v⟩]) s5:=by
 conv=>lhs;unfold zbw
 rw[if_neg (by rw[hb];simp),<-e1];simp only;rw[<-e2];simp only;rw[<-e3,<-e4];simp only;rw[<-e5,if_pos hq]
theorem braces_end (hb:z.b=false) (e1:(t,s1)=z.any 1) (e2:(c,q,s2)=s1.take 5 [tEq,tNe,zek,zck]) (e3:s3=⟨s2.l,s2.n,s2.b||!q⟩) (e4:(v,s4)=s3.any 3) {q':Bool} (e5:(t',q',s5)=s4.take 5 [zbz]) (hq:¬q'=true):
 zbw (f+1) om z=(om++[⟨t,opM c,v⟩],s5):=by
 conv=>lhs;unfold zbw
 rw[if_neg (by rw[hb];simp),<-e1];simp only;rw[<-e2];simp only;rw[<-e3,<-e4];simp only;rw[<-e5,if_neg hq]
variable (rm:List MatD->Bool)
theorem braces_0 (e1:s1=s.must zdn) (hi:s1.is 5 [zdb]=true) (e2:s2=s1.must zdb):([],s2)=s.braces rm:=by
 unfold Rd.braces;rw[<-e1,if_pos hi,e2]
theorem braces_1 (e1:s1=s.must zdn) (hi:¬s1.is 5 [zdb]=true) (hf:zbw (s1.l.length+1) [] s1=(om,s2)) (e2:s3=s2.must zdb):(om,(⟨s3.l,s3.n,s3.b||!rm om⟩:Rd))=s.braces rm:=by
 unfold Rd.braces;rw[<-e1,if_neg hi,hf,e2]
theorem braces_e {ms:List MatD} (e:(ms,s')=s.braces rm):Stp 0 s s':=by have h:=braces_stp rm s;rw[<-e] at h;exact h
theorem selName_1 (h:s.pk.k=1/\zfM s.pk.t=false) (e:(t,s1)=s.any 1):(t,s1)=s.selName:=by unfold Rd.selName;rw[if_pos h,e]
theorem selName_0 (h:¬(s.pk.k=1/\zfM s.pk.t=false)):(ByteArray.empty,s)=s.selName:=by unfold Rd.selName;rw[if_neg h]
theorem selMs_1 (h:s.is 5 [zdn]=true) {ms:List MatD} (e:(ms,s1)=s.braces rm):(ms,s1)=s.selMs rm t:=by unfold Rd.selMs;rw[if_pos h,e]
theorem selMs_0 (h:¬s.is 5 [zdn]=true):([],(⟨s.l,s.n,s.b||decide (t=ByteArray.empty)⟩:Rd))=s.selMs rm t:=by unfold Rd.selMs;rw[if_neg h]
theorem selWin_1 (e:(t,q,s1)=s.take 5 [tSq]) (hq:q=true) {w:Int} (e2:(w,s2)=s1.number 4) (e3:s3=s2.must tSqE):(w,s3)=s.selWin:=by unfold Rd.selWin;rw[<-e,if_pos hq,<-e2,e3]
theorem selWin_0 (e:(t,q,s1)=s.take 5 [tSq]) (hq:¬q=true):(0,s1)=s.selWin:=by unfold Rd.selWin;rw[<-e,if_neg hq]
theorem selector_of {ms:List MatD} {w:Int} (e1:(t,s1)=s.selName) (e2:(ms,s2)=s1.selMs rm t) (e3:(w,s3)=s2.selWin) (e4:s4=s3.node):(Nd.mk nSel t w 0 [] ms [],s4)=s.selector rm:=by
 unfold Rd.selector;simp only;rw[<-e1];simp only;rw[<-e2];simp only;rw[<-e3,e4]
variable {ex:Rd->Nd×Rd}
theorem aggr_1 {s6 s7:Rd} {w:Int} (e1:(t,s1)=s.any 1) (e2:(m,l,s2)=s1.mode tBy zei) (e3:s3=s2.must zbj) (hn:zcr t=true) (e4:(w,s4)=s3.number 2) (e5:s5=s4.must zbz) (e6:(n,s6)=ex s5) {s8:Rd} (e7:s7=s6.must zbe) (e8:s8=s7.node):
 (Nd.mk tAgg t w m l [] [n],s8)=s.aggr ex:=by
 unfold Rd.aggr;simp only;rw[<-e1];simp only;rw[<-e2];simp only;rw[if_pos hn,if_pos hn,<-e3,<-e4];simp only;rw[<-e5,<-e6,e8,e7]
theorem aggr_0 {s6 s7:Rd} (e1:(t,s1)=s.any 1) (e2:(m,l,s2)=s1.mode tBy zei) (e3:s3=s2.must zbj) (hn:¬zcr t=true) (e6:(n,s6)=ex s3) {s8:Rd} (e7:s7=s6.must zbe) (e8:s8=s7.node):
 (Nd.mk tAgg t 0 m l [] [n],s8)=s.aggr ex:=by
 unfold Rd.aggr;simp only;rw[<-e1];simp only;rw[<-e2];simp only;rw[if_neg hn,if_neg hn,<-e3];simp only;rw[<-e6,e8,e7]
theorem prim_bad (hb:s.b=true):(noNd,s)=s.prim rm ex:=by unfold Rd.prim;rw[if_pos hb]
theorem prim_num (hb:¬s.b=true) (hk:s.pk.k=2) {w:Int} (e:(w,s1)=s.number 2) (e2:s2=s1.node):(Nd.mk tNum ByteArray.empty w 0 [] [] [],s2)=s.prim rm ex:=by
 unfold Rd.prim;rw[if_neg hb,if_pos hk,<-e,e2]
theorem prim_brk (hb:¬s.b=true) (hk:¬s.pk.k=2) (hi:s.is 5 [zbj]=true) (e1:s1=s.must zbj) (e2:(n,s2)=ex s1) (e3:s3=s2.must zbe):(n,s3)=s.prim rm ex:=by
 unfold Rd.prim;rw[if_neg hb,if_neg hk,if_pos hi,<-e1,<-e2,e3]
theorem prim_agg (hb:¬s.b=true) (hk:¬s.pk.k=2) (hi:¬s.is 5 [zbj]=true) (ha:s.pk.k=1/\hasN aggN s.pk.t=true) (e:(n,s1)=s.aggr ex):(n,s1)=s.prim rm ex:=by
 unfold Rd.prim;rw[if_neg hb,if_neg hk,if_neg hi,if_pos ha,e]
theorem prim_fn (hb:¬s.b=true) (hk:¬s.pk.k=2) (hi:¬s.is 5 [zbj]=true) (ha:¬(s.pk.k=1/\hasN aggN s.pk.t=true)) (hf:s.pk.k=1/\hasN fnN s.pk.t=true) (e1:(t,s1)=s.any 1) (e2:s2=s1.must zbj) (e3:(n,s3)=ex s2) (e4:s4=s3.node) (e5:s5=s4.must zbe):
 (Nd.mk tFn t 0 0 [] [] [n],s5)=s.prim rm ex:=by
 unfold Rd.prim;rw[if_neg hb,if_neg hk,if_neg hi,if_neg ha,if_pos hf];simp only;rw[<-e1];simp only;rw[<-e2,<-e3,e5,e4]
theorem prim_sel (hb:¬s.b=true) (hk:¬s.pk.k=2) (hi:¬s.is 5 [zbj]=true) (ha:¬(s.pk.k=1/\hasN aggN s.pk.t=true)) (hf:¬(s.pk.k=1/\hasN fnN s.pk.t=true)) (e:(n,s1)=s.selector rm):(n,s1)=s.prim rm ex:=by
 unfold Rd.prim;rw[if_neg hb,if_neg hk,if_neg hi,if_neg ha,if_neg hf,e]
theorem unary_1 (e:(t,q,s1)=s.take 5 [zfl]) (hq:q=true) (e2:(n,s2)=zcj rm ex f s1) (e3:s3=s2.node):(Nd.mk tNeg ByteArray.empty 0 0 [] [] [n],s3)=zcj rm ex (f+1) s:=by
 unfold zcj;rw[<-e,if_pos hq];simp only;rw[<-e2,e3]
theorem unary_0 (e:(t,q,s1)=s.take 5 [zfl]) (hq:¬q=true) (e2:(n,s2)=s1.prim rm ex):(n,s2)=zcj rm ex (f+1) s:=by
 unfold zcj;rw[<-e,if_neg hq,e2]
theorem bound_0 (e:(t,q,s1)=s.take 1 [a]) (hq:q=false):(-1,s1)=s.bound a:=by unfold Rd.bound;rw[<-e,if_pos hq]
theorem bound_1 (e:(t,q,s1)=s.take 1 [a]) (hq:¬q=false) {w:Int} (e2:(w,s2)=s1.number 2):(w,(⟨s2.l,s2.n,s2.b||decide (2000<w)⟩:Rd))=s.bound a:=by unfold Rd.bound;rw[<-e,if_neg hq,<-e2]
theorem bound_e {w:Int} (e:(w,s')=s.bound a):Stp 0 s s':=by
 have h:s'=(s.bound a).2:=congrArg Prod.snd e;rw[h];unfold Rd.bound;split
 · exact zao s 1 _
 exact(((zao s 1 [a]).trans (zb1 _ 2)).le (by omega)).bad _
theorem order_0 (e:(t,q,s1)=s.take 1 [zej]) (hq:¬q=true):(0,s1)=s.order:=by
 unfold Rd.order;simp only;rw[<-e,if_pos (by simpa using hq)]
theorem order_2 (e:(t,q,s1)=s.take 1 [zej]) (hq:q=true) {q':Bool} (e2:(t',q',s2)=s1.take 1 [zf0]) (hq':q'=true):(2,s2)=s.order:=by
 unfold Rd.order;simp only;rw[<-e,if_neg (by simp[hq])];simp only;rw[<-e2,if_pos hq']
theorem order_1 (e:(t,q,s1)=s.take 1 [zej]) (hq:q=true) {q':Bool} (e2:(t',q',s2)=s1.take 1 [zf0]) (hq':¬q'=true) (e3:(c,s3)=s2.any 1):(1,(⟨s3.l,s3.n,s3.b||decide (c≠tAsc)⟩:Rd))=s.order:=by
 unfold Rd.order;simp only;rw[<-e,if_neg (by simp[hq])];simp only;rw[<-e2,if_neg hq',<-e3]
end
end Lp
