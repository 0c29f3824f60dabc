import Derived.Laws.BytesArg
import Derived.Test.YtheccaeefigajaaGreatDoorV8
set_option linter.unusedSimpArgs false
set_option linter.unusedVariables false
set_option maxHeartbeats 4000000
set_option maxRecDepth 100000
namespace Lp
open Go Go.RowKit Go.Proofs
theorem zU:BdP Tryz.prog #[⟨"Kind",3,0,false, "", "",0⟩,⟨"At",3,1,false, "", "",8⟩,⟨"Text",9,2,false, "", "",16⟩] [(0,1),(1,1),(2,1)]:=fun _=>by kernel_rfl
theorem indexI_c (ns:List Int) (n:Int) :
 CD Tryz.prog 175 [] [.sh 1 (ns.map dI),dI n] (isR (dI (idxI n 0 ns))):=by
 refine tZ Tryz.func175 O O (fun C=>?_)
 refine T.bd 0 O (fun bd0=>?_)
 have nl0:=zbK bd0
 refine g' 9 O (tP O (z8 (n:=ns.length) O Tryz.runUnderlying55 (by simp only[lm,lc,ln])) (g' 4 O (tl1 (fun (a_:Nat)=>[(0,.sh 1 (ns.map dI)),(1,dI n),(7,dN ns.length),(8,dN a_)]) (fun a_=>[]) (fun a_=>(idxI n 0 ns=idxI n a_ (ns.drop a_))) (fun a_=>ns.length-a_) 0 O (sa O) HSub.rfl' O ?_)))
 rintro k hf
 refine g' 6 O ?_
 refine tD O (fun hc1=>?_) (fun hc1=>?_)
 · skip
   refine g' 15 O ?_
   obtain ⟨x1,hx1⟩:=zN ns k (by omega)
   refine tP O (zr (k:=k) O O Tryz.runUnderlying55 Tryz.sizeOf3 (by first | rfl | omega) (zI hx1)) (g' 4 O ?_)
   refine tD O (fun hc2=>?_) (fun hc2=>?_)
   · skip
     refine g' 12 O ?_
     exact tRs O Tryz.results175 (.cons (zd (zc O) (Cv.eq (congrArg (fun n=>D.v (.int .i64 n)) (by exact idxI_at hx1 hf hc2)))) .nil) O HSub.none ⟨O,O⟩
   · skip
     refine g' 4 O (tP O (zy (c:=((k+1:Nat):Int)) O O (zn (by omega) (by omega))) (g' 2 O ?_))
     exact tp1 (k+1) (sa O) HSub.rfl' (idxI_next hx1 hf hc2) (by omega)
 · skip
   refine g' 11 O ?_
   exact tRs O Tryz.results175 (.cons (zd (zc O) (Cv.eq (congrArg (fun n=>D.v (.int .i64 n)) (by exact idxI_end (by omega) hf)))) .nil) O HSub.none ⟨O,O⟩
theorem containsI_c (ns:List Int) (n:Int) :
 CD Tryz.prog 150 [] [.sh 1 (ns.map dI),dI n] (isR (dB (hasI ns n))):=by
 refine tZ Tryz.func150 O O (fun C=>?_)
 refine T.bd 0 O (fun bd0=>?_)
 have nl0:=zbK bd0
 refine g' 9 O (tW O acs (indexI_c ns n) (g' 5 O ?_))
 exact tRs O Tryz.results150 (.cons (zd (zc O) (cB ((by exact idxI_has n ns 0)))) .nil) O HSub.none ⟨O,O⟩
theorem indexS_c (ns:List ByteArray) (n:ByteArray) :
 CD Tryz.prog 117 [] [.sh 1 (ns.map D.s),.s n] (isR (dI (idxN n 0 ns))):=by
 refine tZ Tryz.func117 O O (fun C=>?_)
 refine T.bd 0 O (fun bd0=>?_)
 have nl0:=zbK bd0
 refine T.bd 1 O (fun bd1=>?_)
 have sz1:n.size≤9223372036854775807:=bd1
 refine g' 9 O (tP O (z8 (n:=ns.length) O Tryz.runUnderlying23 (by simp only[lm,lc,ln])) (g' 4 O (tl1 (fun (a_:Nat)=>[(0,.sh 1 (ns.map D.s)),(1,.s n),(7,dN ns.length),(8,dN a_)]) (fun a_=>[]) (fun a_=>(idxN n 0 ns=idxN n a_ (ns.drop a_))) (fun a_=>ns.length-a_) 0 O (sa O) HSub.rfl' O ?_)))
 rintro k hf
 refine g' 6 O ?_
 refine tD O (fun hc1=>?_) (fun hc1=>?_)
 · skip
   refine g' 15 O ?_
   obtain ⟨x1,hx1⟩:=zN ns k (by omega)
   refine tP O (zr (k:=k) O O Tryz.runUnderlying23 Tryz.sizeOf9 (by first | rfl | omega) (zI hx1)) (g' 4 O ?_)
   refine tD O (fun hc2=>?_) (fun hc2=>?_)
   · skip
     refine g' 12 O ?_
     exact tRs O Tryz.results117 (.cons (zd (zc O) (Cv.eq (congrArg (fun n=>D.v (.int .i64 n)) (by exact idxN_at hx1 hf hc2)))) .nil) O HSub.none ⟨O,O⟩
   · skip
     refine g' 4 O (tP O (zy (c:=((k+1:Nat):Int)) O O (zn (by omega) (by omega))) (g' 2 O ?_))
     exact tp1 (k+1) (sa O) HSub.rfl' (idxN_next hx1 hf hc2) (by omega)
 · skip
   refine g' 11 O ?_
   exact tRs O Tryz.results117 (.cons (zd (zc O) (Cv.eq (congrArg (fun n=>D.v (.int .i64 n)) (by exact idxN_end (by omega) hf)))) .nil) O HSub.none ⟨O,O⟩
theorem containsS_c (ns:List ByteArray) (n:ByteArray) :
 CD Tryz.prog 46 [] [.sh 1 (ns.map D.s),.s n] (isR (dB (hasN ns n))):=by
 refine tZ Tryz.func46 O O (fun C=>?_)
 refine T.bd 0 O (fun bd0=>?_)
 have nl0:=zbK bd0
 refine T.bd 1 O (fun bd1=>?_)
 have sz1:n.size≤9223372036854775807:=bd1
 refine g' 9 O (tW O acs (indexS_c ns n) (g' 5 O ?_))
 exact tRs O Tryz.results46 (.cons (zd (zc O) (cB ((by exact idxN_has n ns 0)))) .nil) O HSub.none ⟨O,O⟩
theorem zfn (s:ByteArray) (ks:List Int) :
 CD Tryz.prog 108 [] [.s s,.sh 1 (ks.map dI)] (isR (dN (runL (inK ks) (bl8 s)))):=by
 refine tZ Tryz.func108 O O (fun C=>?_)
 refine T.bd 0 O (fun bd0=>?_)
 have sz0:s.size≤9223372036854775807:=bd0
 refine T.bd 1 O (fun bd1=>?_)
 have nl1:=zbK bd1
 refine g' 9 O (tE O (zbJ O Tryz.runUnderlying9) ?_)
 rintro _ _ ⟨g1,rfl,rfl⟩
 refine g' 3 O (tl1 (fun (a_:Nat)=>[(0,.s s),(1,.sh 1 (ks.map dI)),(8,dP g1 0)]) (fun a_=>[.it g1 s a_]) (fun a_=>(a_≤s.size)∧(runL (inK ks) (bl8 s)=a_+runL (inK ks) (bts s a_))) (fun a_=>s.size-a_) 0 O (sa O) HSub.rfl' ⟨Nat.zero_le _,run_start⟩ ?_)
 rintro p ⟨hp,hf⟩
 rcases Nat.lt_or_ge p s.size with hlt | hge
 · skip
   have hrune:=zX hlt
   have hrl:=za9 s p
   have hdw:=zJ s p hlt
   have hdp:=zp s p
   refine g' 2 O (tE O (zaU (i:=0) O O hlt) ?_)
   rintro _ _ ⟨rfl,rfl⟩
   refine g' 20 O (tW O acs (Kind_c ((decR s p:Nat):Int)) (tW O acs (containsI_c ks (zt ((decR s p:Nat):Int))) (g' 3 O ?_)))
   refine tC O (fun hc2=>?_) (fun hc2=>?_)
   · simp only[bX,bJ] at hc2
     refine g' 11 O ?_
     exact tRs O Tryz.results108 (.cons (zd (zc O) (Cv.eq (congrArg dN (by exact run_stop hf (by have h0:=hc2;rw[←hasI_inK];simpa using h0))))) .nil) O HSub.none ⟨O,O⟩
   · simp only[bX,bJ] at hc2
     refine g' 2 O ?_
     exact tp1 (p+decW s p) (sa O) HSub.rfl' ⟨by have:=zJ s p hlt;omega,run_next hf hlt (by have h0:=hc2;rw[←hasI_inK];simpa using h0)⟩ (by have:=zp s p;omega)
 · skip
   have hrune:=zaf hge
   refine g' 2 O (tP O (zbA (i:=0) O O hge) (g' 13 O (tP O (zu O Tryz.runUnderlying9) (g' 4 O ?_))))
   exact tRs O Tryz.results108 (.cons (zd (zc O) (Cv.eq (congrArg dN (by exact run_end hf hge hp)))) .nil) O HSub.none ⟨O,O⟩
theorem word_c (s:ByteArray) (hs:s.size≤1000000):
 CD Tryz.prog 153 [] [.s s] (isR (.tup [TokD.d ((zbM (bl8 s)).1),dN ((zbM (bl8 s)).2)])):=by
 refine tZ Tryz.func153 O O (fun C=>?_)
 refine T.bd 0 O (fun bd0=>?_)
 have sz0:s.size≤9223372036854775807:=bd0
 have hn:=zaX (inK [1,2]) s
 refine g' 2 O ?_
 refine tA O (fun g1=>?_)
 refine g' 6 O (tE O (Qu.ef (d:=.sh 1 ([1,2].map dI)) (ze [.const (.int .i64 1),.const (.int .i64 2)] O O (.cons (CellD.v O) (.cons (CellD.v O) .nil)) O Tryz.runUnderlying55 Tryz.sizeOf3 Tryz.zeroValue3 O O O O)) ?_)
 rintro _ _ ⟨rfl,rfl⟩
 refine tW O acs (zfn s [1,2]) (g' 8 O (tP O (zw (a:=0) (c:=runL (inK [1,2]) (bl8 s)) O O O (by first | rfl | (show _=_;omega)) (by first | rfl | (show _=_;omega)) Tryz.runUnderlying9 (by omega) (by omega)) (tW O acs (Name_c (s.extract 0 (runL (inK [1,2]) (bl8 s)))) (g' 3 O ?_))))
 refine tC O (fun hc2=>?_) (fun hc2=>?_)
 · simp only[bX,bJ] at hc2
   refine g' 2 O (tP O (zf [] [] (zv:=(.agg #[(.int .i64 0),(.int .i64 0),(.string ByteArray.empty)])) O O (.nil) (Tryz.runUnderlying135) Tryz.zeroValue135 zU ⟨O,O,O,trivial⟩ O) (gQ 6 [0] O O ?_))
   exact tRs O Tryz.results153 (.cons (zd (zh (X:=.agg [dI 0,dI 0,.v (.string ByteArray.empty)]) (d:=.agg [dI 0,dI 0,.v (.string ByteArray.empty)]) (i:=0) O O Tryz.isAgg135 Tryz.sizeOf135 O O) ((Cv.agg (km (km (.cons (cS) .nil)))).trans (Cv.eq (congrArg TokD.d (show (TokD.mk 0 0 ByteArray.empty)=(zbM (bl8 s)).1 from(by rw[wordT_f (by simpa using hc2)];try O)))))) (.cons (zd (zc O) (Cv.eq (congrArg dN (by rw[wordT_f (by simpa using hc2)];try O)))) .nil)) O HSub.none ⟨O,O⟩
 · simp only[bX,bJ] at hc2
   refine g' 6 O (tP O (zw (a:=0) (c:=runL (inK [1,2]) (bl8 s)) O O O (by first | rfl | (show _=_;omega)) (by first | rfl | (show _=_;omega)) Tryz.runUnderlying9 (by omega) (by omega)) (tP O (zf [0,2] [.const (.int .i64 1),.tmp 16] (zv:=(.agg #[(.int .i64 0),(.int .i64 0),(.string ByteArray.empty)])) O O (.cons (CellD.v O) (.cons CellD.s .nil)) (Tryz.runUnderlying135) Tryz.zeroValue135 zU ⟨O,O,O,trivial⟩ O) (gQ 6 [0] O O ?_)))
   exact tRs O Tryz.results153 (.cons (zd (zh (X:=.agg [dI 1,dI 0,.s (s.extract 0 (runL (inK [1,2]) (bl8 s)))]) (d:=.agg [dI 1,dI 0,.s (s.extract 0 (runL (inK [1,2]) (bl8 s)))]) (i:=0) O O Tryz.isAgg135 Tryz.sizeOf135 O O) (Cv.eq (congrArg TokD.d (show (TokD.mk 1 0 (s.extract 0 (runL (inK [1,2]) (bl8 s))))=(zbM (bl8 s)).1 from(by rw[wordT_t (by simpa using hc2)];try O))))) (.cons (zd (zc O) (Cv.eq (congrArg dN (by rw[wordT_t (by simpa using hc2)];try O)))) .nil)) O HSub.none ⟨O,O⟩
theorem seconds_c (s:ByteArray) :
 CD Tryz.prog 177 [] [.s s] (isR (dN (secB s))):=by
 refine tZ Tryz.func177 O O (fun C=>?_)
 refine T.bd 0 O (fun bd0=>?_)
 have sz0:s.size≤9223372036854775807:=bd0
 refine g' 18 O ?_
 refine tD O (fun hc1=>?_) (fun hc1=>?_)
 · skip
   refine g' 8 O ?_
   exact tRs O Tryz.results177 (.cons (zd (zc O) (Cv.eq (congrArg dN (by unfold secB;simp[*])))) .nil) O HSub.none ⟨O,O⟩
 · skip
   refine g' 6 O ?_
   refine tD O (fun hc2=>?_) (fun hc2=>?_)
   · skip
     refine g' 8 O ?_
     exact tRs O Tryz.results177 (.cons (zd (zc O) (Cv.eq (congrArg dN (by unfold secB;simp[*])))) .nil) O HSub.none ⟨O,O⟩
   · skip
     refine g' 6 O ?_
     refine tD O (fun hc3=>?_) (fun hc3=>?_)
     · skip
       refine g' 8 O ?_
       exact tRs O Tryz.results177 (.cons (zd (zc O) (Cv.eq (congrArg dN (by unfold secB;simp[*])))) .nil) O HSub.none ⟨O,O⟩
     · skip
       refine g' 9 O ?_
       exact tRs O Tryz.results177 (.cons (zd (zc O) (Cv.eq (congrArg dN (by unfold secB;simp[*])))) .nil) O HSub.none ⟨O,O⟩
theorem signs_c  :
 CD Tryz.prog 179 [] [] (isR ((D.ls 1 D.s) zaa)):=by
 refine tZ Tryz.func179 O O (fun C=>?_)
 refine g' 7 O ?_
 refine tE O (Qu.ef (d:=.sh 1 ([gU,gw,gO,gP,gy,gx,hG,gX,hY,ka,kb,gJ,gI,gT,gG,hC,kh,gV,gW,kc,ke].map D.s)) ((ze [.const (.string gU),.const (.string gw),.const (.string gO),.const (.string gP),.const (.string gy),.const (.string gx),.const (.string hG),.const (.string gX),.const (.string hY),.const (.string ka),.const (.string kb),.const (.string gJ),.const (.string gI),.const (.string gT),.const (.string gG),.const (.string hC),.const (.string kh),.const (.string gV),.const (.string gW),.const (.string kc),.const (.string ke)] O O (.cons (CellD.v O) (.cons (CellD.v O) (.cons (CellD.v O) (.cons (CellD.v O) (.cons (CellD.v O) (.cons (CellD.v O) (.cons (CellD.v O) (.cons (CellD.v O) (.cons (CellD.v O) (.cons (CellD.v O) (.cons (CellD.v O) (.cons (CellD.v O) (.cons (CellD.v O) (.cons (CellD.v O) (.cons (CellD.v O) (.cons (CellD.v O) (.cons (CellD.v O) (.cons (CellD.v O) (.cons (CellD.v O) (.cons (CellD.v O) (.cons (CellD.v O) .nil))))))))))))))))))))) O Tryz.runUnderlying23 Tryz.sizeOf9 Tryz.zeroValue9 O O O O).cv (Cv.shs (.cons cS (.cons cS (.cons cS (.cons cS (.cons cS (.cons cS (.cons cS (.cons cS (.cons cS (.cons cS (.cons cS (.cons cS (.cons cS (.cons cS (.cons cS (.cons cS (.cons cS (.cons cS (.cons cS (.cons cS (.cons cS .nil)))))))))))))))))))))))) ?_
 rintro _ _ ⟨rfl,rfl⟩
 refine g' 4 O ?_
 exact tRs O Tryz.results179 (.cons (zd (zc O) (Cv.eq (congrArg (D.ls 1 D.s) (show [gU,gw,gO,gP,gy,gx,hG,gX,hY,ka,kb,gJ,gI,gT,gG,hC,kh,gV,gW,kc,ke]=zaa from(by rfl))))) .nil) O HSub.none ⟨O,O⟩
theorem sign_c (s:ByteArray) (hs:s.size≤1000000):
 CD Tryz.prog 156 [] [.s s] (isR (.tup [TokD.d ((zbz (bl8 s)).1),dN ((zbz (bl8 s)).2)])):=by
 refine tZ Tryz.func156 O O (fun C=>?_)
 refine T.bd 0 O (fun bd0=>?_)
 have sz0:s.size≤9223372036854775807:=bd0
 have hsl:zaa.length=21:=rfl
 refine g' 2 O ?_
 refine tA O (fun g1=>?_)
 refine g' 6 O (tW O acs (signs_c) (tP O (z8 (n:=zaa.length) O Tryz.runUnderlying23 (by simp only[lm,lc,ln])) (g' 4 O (tl1 (fun (a_:Nat)=>[(0,.s s),(2,dP g1 0),(6,.sh 1 (zaa.map D.s)),(7,dN zaa.length),(8,dN a_)]) (fun a_=>[.bx g1 135 (.agg [dI 0,dI 0,.v (.string ByteArray.empty)])]) (fun a_=>(z7 zaa (bl8 s)=z7 (zaa.drop a_) (bl8 s))) (fun a_=>zaa.length-a_) 0 O (sa O) HSub.rfl' O ?_))))
 rintro k hf
 refine g' 6 O ?_
 refine tD O (fun hc2=>?_) (fun hc2=>?_)
 · skip
   refine g' 6 O ?_
   obtain ⟨x1,hx1⟩:=zN zaa k (by omega)
   refine tP O (zr (k:=k) O O Tryz.runUnderlying23 Tryz.sizeOf9 (by first | rfl | omega) (zI hx1)) (g' 8 O (tW O acs (HasPrefix_c s x1) (g' 2 O ?_)))
   refine tC O (fun hc3=>?_) (fun hc3=>?_)
   · skip
     refine g' 3 O (tP O (zf [0,2] [.const (.int .i64 5),.tmp 15] (zv:=(.agg #[(.int .i64 0),(.int .i64 0),(.string ByteArray.empty)])) O O (.cons (CellD.v O) (.cons CellD.s .nil)) (Tryz.runUnderlying135) Tryz.zeroValue135 zU ⟨O,O,O,trivial⟩ O) (g' 1 O (tP O (zu O Tryz.runUnderlying9) (gQ 10 [0] O O ?_))))
     exact tRs O Tryz.results156 (.cons (zd (zh (X:=.agg [dI 5,dI 0,.s x1]) (d:=.agg [dI 5,dI 0,.s x1]) (i:=0) O O Tryz.isAgg135 Tryz.sizeOf135 O O) (Cv.eq (congrArg TokD.d (show (TokD.mk 5 0 x1)=(zbz (bl8 s)).1 from(by unfold zbz;rw[signIn_at hx1 hf (by simpa using hc3)];try O))))) (.cons (zd (zc O) (Cv.eq (congrArg dN (by unfold zbz;rw[signIn_at hx1 hf (by simpa using hc3)];try O)))) .nil)) O HSub.none ⟨O,O⟩
   · skip
     refine g' 4 O (tP O (zy (c:=((k+1:Nat):Int)) O O (zn (by omega) (by omega))) (g' 2 O ?_))
     exact tp1 (k+1) (sa O) HSub.rfl' (signIn_next hx1 hf (by simpa using hc3)) (by omega)
 · skip
   refine g' 7 O (tP O (zf [] [] (zv:=(.agg #[(.int .i64 0),(.int .i64 0),(.string ByteArray.empty)])) O O (.nil) (Tryz.runUnderlying135) Tryz.zeroValue135 zU ⟨O,O,O,trivial⟩ O) (gQ 5 [0] O O ?_))
   exact tRs O Tryz.results156 (.cons (zd (zh (X:=.agg [dI 0,dI 0,.v (.string ByteArray.empty)]) (d:=.agg [dI 0,dI 0,.v (.string ByteArray.empty)]) (i:=0) O O Tryz.isAgg135 Tryz.sizeOf135 O O) ((Cv.agg (km (km (.cons (cS) .nil)))).trans (Cv.eq (congrArg TokD.d (show (TokD.mk 0 0 ByteArray.empty)=(zbz (bl8 s)).1 from(by unfold zbz;rw[signIn_end hf (by omega)];try O)))))) (.cons (zd (zc O) (Cv.eq (congrArg dN (by unfold zbz;rw[signIn_end hf (by omega)];try O)))) .nil)) O HSub.none ⟨O,O⟩
end Lp
set_option linter.unusedVariables false
namespace Lp
open Go Go.RowKit
variable {P:Program} {ty:TypeId} {K:Kd} {H:List Hp}
abbrev dB8 (n:Int):D:=.v (.int .u8 n)
theorem rep_bytes {w:World} {F:Nat→Prop}:∀ {xs:List Int} {us:List Value},RepE w F 1 (xs.map dB8) us→us=xs.map (Value.int .u8)
 | [],_,h=>h
 | x::r,_,⟨u,t,e,h1,_,_,h4⟩=>by
  have h1':u=.int .u8 x:=h1
  rw[e,rep_bytes h4,h1'];rfl
theorem p_bytes {t1 t2 e:TypeId} {x:Operand} {j:Nat} {v:Value} {T:TypeId} {xs:List Int} (hx:opO K x=some v) (hm:nth H j=some (.sl v 1 T (xs.map dB8))) (hn:xs≠[]) (hs:P.underlying t1=some (.slice e)) (he:P.underlying e=some (.int .u8)) (hd:P.underlying t2=some .string):
 Pu P (.convert t1 t2 x) ty K H (.v (.string (strOfNums xs))):=
 ⟨fun ρ w F hk _ hH=>by
  obtain ⟨us,hr,ho⟩:=hH _ (zae hm)
  have hu:=rep_bytes hr
  subst hu
  obtain ⟨A,c,hv,h2,h3,h4,h5⟩:=ho.sl
  obtain ⟨b,o,rfl,_,_,hat⟩:=h4 (by simpa using hn)
  have hev:ev ρ x=v:=hk.opO hx
  have hl:((xs.map (Value.int .u8)).map vcs).length=xs.length:=by simp
  rw[hl] at hv
  have hcv:=run_convert_bytes_arg (P:=P) w t1 e hs he b o xs.length c xs O (fun i hi=>by
   have:=hat i [Value.int .u8 (xs.getD i 0)] (by
    rw[List.getElem?_map,List.getElem?_map,List.getElem?_eq_getElem hi]
    simp[vcs,List.getD,List.getElem?_eq_getElem hi,Value.cells])
   have h0:=this.2 0 _ O
   simpa using h0) t2 hd
  exact EOp.of_run (v:=.string (strOfNums xs)) (w':=w) (by
   have h1:=zbg hcv
   simpa [execOp,zY,hev,hv] using h1) ⟨rfl,rfl⟩⟩
end Lp
set_option linter.unusedSimpArgs false
set_option linter.unusedVariables false
set_option maxHeartbeats 4000000
set_option maxRecDepth 100000
namespace Lp
open Go Go.RowKit Go.Proofs
theorem ext_indexByte (u:Nat) (w:World):(callFunc 237 #[.string ga,.int .u8 (u:Int)]).run Tryz.prog w=.ok (.value (.int .i64 (hexI u))) w:=by
 rw[run_callFunc_extern Tryz.func237 (by kernel_rfl) (by kernel_rfl) (by kernel_rfl) (e:=Extern.BytealgIndexByte.indexByte) (by kernel_rfl),run_indexByte_string]
 rfl
theorem p_indexByte {ty:TypeId} {K:Kd} {H:List Hp} {x y:Operand} {ats:Array TypeId} {u:Nat} (hx:opS K x=some ga) (hy:opD K y=some (.v (.int .u8 (u:Int)))):Pu Tryz.prog (.call { callee:=.value (.func 237),args:=#[x,y],argTypes:=ats }) ty K H (dI (hexI u)):=
 ⟨fun ρ w F hk _ _=>e_ext (vs:=[.string ga,.int .u8 (u:Int)]) (zj ρ [x,y]) (by rw[show (#[x,y]:Array Operand).toList=[x,y] from rfl,zcb ρ [x,y] [x,y] (fun _ h=>h)];have e:ev ρ y=_:=hk.op hy;simp[hk.opS hx,e]) (ext_indexByte u) ⟨rfl,rfl⟩⟩
section
variable {P:Program} {ty:TypeId} {K:Kd} {H:List Hp} {t t':TypeId} {x y:Operand}
theorem p_shl4 {k':IntKind} {a:Nat} (hx:opD K x=some (dI (a:Int))) (hy:opD K y=some (.v (.int k' 4))) (ha:a<16):Pu P (.binOp .shl t x y t') ty K H (dN (a*16)):=
 zdU hx hy (fun w=>by
  rcases (show a=0∨a=1∨a=2∨a=3∨a=4∨a=5∨a=6∨a=7∨a=8∨a=9∨a=10∨a=11∨a=12∨a=13∨a=14∨a=15 by omega) with rfl | rfl | rfl | rfl | rfl | rfl | rfl | rfl | rfl | rfl | rfl | rfl | rfl | rfl | rfl | rfl<;>rfl)
theorem bv64o (a b:Nat) (ha:a<256) (hb:b<256):(BitVec.ofInt IntKind.i64.bits (a:Int)||| BitVec.ofInt IntKind.i64.bits (b:Int)).toNat=a||| b:=by
 rw[BitVec.toNat_or,BitVec.toNat_ofInt,BitVec.toNat_ofInt]
 have e:(2:Nat) ^ IntKind.i64.bits=18446744073709551616:=rfl
 rw[e]
 congr 1<;>omega
theorem or16:∀ a,a<16→∀ b,b<16→a*16||| b=a*16+b:=by decide
theorem p_or64 {a b:Nat} (hx:opD K x=some (dN (a*16))) (hy:opD K y=some (dI (b:Int))) (ha:a<16) (hb:b<16):Pu P (.binOp .or t x y t') ty K H (dN (a*16+b)):=
 zdU hx hy (fun w=>by
  have h:=or16 a ha b hb
  simp only[eqGuard,binOp,Op.intBits,bv64o (a*16) b (by omega) (by omega),h,w64 (show -9223372036854775808≤((a*16+b:Nat):Int)∧((a*16+b:Nat):Int)≤9223372036854775807 by omega)]
  rfl)
end
theorem indexByte0_c (c:Nat) :
 CD Tryz.prog 229 [] [.v (.string ga),.v (.int .u8 ((c:Nat):Int))] (isR (dI (hexI c))):=by
 refine tZ Tryz.func229 O O (fun C=>?_)
 refine g' 9 O (tP O (p_indexByte (u:=c) O O) (g' 4 O ?_))
 exact tRs O Tryz.results229 (.cons (zd (zc O) (Cv.eq (congrArg (fun n=>D.v (.int .i64 n)) (by rfl)))) .nil) O HSub.none ⟨O,O⟩
theorem indexByte_c (c:Nat) :
 CD Tryz.prog 218 [] [.v (.string ga),.v (.int .u8 ((c:Nat):Int))] (isR (dI (hexI c))):=by
 refine tZ Tryz.func218 O O (fun C=>?_)
 refine g' 9 O (tW O acs (indexByte0_c c) (g' 4 O ?_))
 exact tR O HSub.none ⟨O,O⟩
def hasS (s:ByteArray):Bool:=decide (1≤s.size)&&decide (s.extract (s.size-1) s.size=gN)
theorem hasP_size {a b:ByteArray} (h:hasP a b=true):b.size≤a.size:=by unfold hasP at h;simp only[Bool.and_eq_true,decide_eq_true_eq] at h;exact h.1
theorem hasS_size {s:ByteArray} (h:hasS s=true):1≤s.size:=by unfold hasS at h;simp only[Bool.and_eq_true,decide_eq_true_eq] at h;exact h.1
theorem hasS_c (s:ByteArray) :
 CD Tryz.prog 230 [] [.s s,.v (.string gN)] (isR (dB (hasS s))):=by
 refine tZ Tryz.func230 O O (fun C=>?_)
 refine T.bd 0 O (fun bd0=>?_)
 have sz0:s.size≤9223372036854775807:=bd0
 have h34:gN.size=1:=rfl
 refine g' 8 O (tP O (zu O Tryz.runUnderlying9) (g' 1 O (tP O (zu O Tryz.runUnderlying9) (g' 2 O ?_))))
 refine tAnd 5 9 (c:=decide ((s.extract (s.size-(gN.size)) s.size)=gN)) O O O O O O (fun hb1 nx2=>?_) ?_
 · skip
   have hf3:=of_decide_eq_true hb1
   refine g' 2 O (tG O (zu O Tryz.runUnderlying9) (g' 1 O (tG O (zu O Tryz.runUnderlying9) (tG O (zcI (c:=((s.size-(gN.size):Nat):Int)) O O (zn (by omega) (by omega))) (tG O (zw (a:=s.size-(gN.size)) (c:=s.size) O O O (by first | rfl | (show _=_;omega)) (by first | rfl | (show _=_;omega)) Tryz.runUnderlying9 (by omega) (by omega)) (g' 2 O ?_))))))
   exact nx2 _ O O (kx 9 O O)
 refine g' 4 O ?_
 exact tRs O Tryz.results230 (.cons (zd (zc O) (cB ((by unfold hasS;congr 1;exact decide_eq_decide.2 (by omega))))) .nil) O HSub.none ⟨O,O⟩
theorem trimP0_c (s:ByteArray) :
 CD Tryz.prog 217 [] [.s s,.v (.string gN)] (isR (D.s (zcv s))):=by
 refine tZ Tryz.func217 O O (fun C=>?_)
 refine T.bd 0 O (fun bd0=>?_)
 have sz0:s.size≤9223372036854775807:=bd0
 have h34:gN.size=1:=rfl
 refine g' 10 O (tW O (kl (.cons (ArgC.cv cS) .nil)) (hasP_c s gN) (g' 2 O ?_))
 refine tC O (fun hc1=>?_) (fun hc1=>?_)
 · skip
   have hps:=hasP_size hc1
   refine g' 4 O (tP O (zu O Tryz.runUnderlying9) (tP O (zw (a:=gN.size) (c:=s.size) O O O (by first | rfl | (show _=_;omega)) (by first | rfl | (show _=_;omega)) Tryz.runUnderlying9 (by omega) (by omega)) (g' 5 O ?_)))
   exact tRs O Tryz.results217 (.cons (zd (zc O) (Cv.eq (congrArg D.s (by unfold zcv;first | rw[if_pos (by simpa using hc1)];rfl | rw[if_neg (by simpa using hc1)])))) .nil) O HSub.none ⟨O,O⟩
 · skip
   refine g' 9 O ?_
   exact tRs O Tryz.results217 (.cons (zd (zc O) (Cv.eq (congrArg D.s (by unfold zcv;first | rw[if_pos (by simpa using hc1)];rfl | rw[if_neg (by simpa using hc1)])))) .nil) O HSub.none ⟨O,O⟩
theorem trimP_c (s:ByteArray) :
 CD Tryz.prog 197 [] [.s s,.v (.string gN)] (isR (D.s (zcv s))):=by
 refine tZ Tryz.func197 O O (fun C=>?_)
 refine T.bd 0 O (fun bd0=>?_)
 have sz0:s.size≤9223372036854775807:=bd0
 have h34:gN.size=1:=rfl
 refine g' 9 O (tW O acs (trimP0_c s) (g' 4 O ?_))
 exact tR O HSub.none ⟨O,O⟩
theorem trimS0_c (s:ByteArray) :
 CD Tryz.prog 219 [] [.s s,.v (.string gN)] (isR (D.s (zdm s))):=by
 refine tZ Tryz.func219 O O (fun C=>?_)
 refine T.bd 0 O (fun bd0=>?_)
 have sz0:s.size≤9223372036854775807:=bd0
 have h34:gN.size=1:=rfl
 refine g' 10 O (tW O acs (hasS_c s) (g' 2 O ?_))
 refine tC O (fun hc1=>?_) (fun hc1=>?_)
 · skip
   have hps:=hasS_size hc1
   refine g' 4 O (tP O (zu O Tryz.runUnderlying9) (g' 1 O (tP O (zu O Tryz.runUnderlying9) (tP O (zcI (c:=((s.size-(gN.size):Nat):Int)) O O (zn (by omega) (by omega))) (tP O (zw (a:=0) (c:=s.size-(gN.size)) O O O (by first | rfl | (show _=_;omega)) (by first | rfl | (show _=_;omega)) Tryz.runUnderlying9 (by omega) (by omega)) (g' 5 O ?_))))))
   exact tRs rfl Tryz.results219 (.cons (zd (zc rfl) (Cv.eq (congrArg D.s (by have h0:=hc1;unfold hasS at h0;unfold zdm;simp only[Bool.and_eq_true,Bool.and_eq_false_iff,decide_eq_true_eq,decide_eq_false_iff_not] at h0;first | (rw[if_pos h0];rfl) | rw[if_neg (fun e=>by rcases h0 with h | h;exact h e.1;exact h e.2)])))) .nil) rfl HSub.none ⟨rfl,rfl⟩
 · skip
   refine g' 9 O ?_
   exact tRs rfl Tryz.results219 (.cons (zd (zc rfl) (Cv.eq (congrArg D.s (by have h0:=hc1;unfold hasS at h0;unfold zdm;simp only[Bool.and_eq_true,Bool.and_eq_false_iff,decide_eq_true_eq,decide_eq_false_iff_not] at h0;first | (rw[if_pos h0];rfl) | rw[if_neg (fun e=>by rcases h0 with h | h;exact h e.1;exact h e.2)])))) .nil) rfl HSub.none ⟨rfl,rfl⟩
theorem trimS_c (s:ByteArray) :
 CD Tryz.prog 199 [] [.s s,.v (.string gN)] (isR (D.s (zdm s))):=by
 refine tZ Tryz.func199 O O (fun C=>?_)
 refine T.bd 0 O (fun bd0=>?_)
 have sz0:s.size≤9223372036854775807:=bd0
 have h34:gN.size=1:=rfl
 refine g' 9 O (tW O acs (trimS0_c s) (g' 4 O ?_))
 exact tR O HSub.none ⟨O,O⟩
end Lp
set_option linter.unusedSimpArgs false
set_option linter.unusedVariables false
set_option maxHeartbeats 4000000
set_option maxRecDepth 100000
namespace Lp
open Go Go.RowKit Go.Proofs
theorem cv_3_5 {a:Int} (h:0≤a∧a≤255):∀ w,(convert 3 5 (.int .i64 a)).run Tryz.prog w=.ok (.int .u8 a) w:=fun w=>by
 have e:IntKind.u8.wrap a=a:=by simp[IntKind.wrap,IntKind.bits,IntKind.signed];omega
 simp[convert,run_underlying (show Tryz.prog.underlying 3=some _ by kernel_rfl),run_underlying (show Tryz.prog.underlying 5=some _ by kernel_rfl),Conv.intToInt,e]
theorem escaped_c (s:ByteArray) (hs:s.size≤1000000):
 CD Tryz.prog 198 [] [.s s] (isR (.tup [D.s (escT s),dN (escN s)])):=by
 refine tZ Tryz.func198 O O (fun C=>?_)
 refine T.bd 0 O (fun bd0=>?_)
 have sz0:s.size≤9223372036854775807:=bd0
 refine g' 15 O ?_
 refine tD O (fun hc1=>?_) (fun hc1=>?_)
 · skip
   refine g' 9 O ?_
   exact tRs O Tryz.results198 (.cons (zd (zc O) ((cS).trans (Cv.eq (congrArg D.s (by have T:=esc_0 hc1;first | exact T.1 | exact T.2))))) (.cons (zd (zc O) (Cv.eq (congrArg dN (by have T:=esc_0 hc1;first | exact T.1 | exact T.2)))) .nil)) O HSub.none ⟨O,O⟩
 · skip
   have hz:=ne_size hc1
   refine g' 3 O ?_
   obtain ⟨u1,hu1⟩:=zai s 0 (by omega)
   have hlu1:=u1.toNat_lt
   refine tP O (zl (k:=0) O O Tryz.runUnderlying9 (by first | rfl | omega) hu1) (g' 2 O ?_)
   refine tOr 3 3 (c:=decide (((u1.toNat:Nat):Int)=(92:Int))) O O O O O O (fun hb2 nx3=>?_) ?_
   · skip
     have hf4:=of_decide_eq_false hb2
     refine g' 1 O (tG O (zl (k:=0) O O Tryz.runUnderlying9 (by first | rfl | omega) hu1) (g' 1 O ?_))
     exact nx3 _ O O (kx 3 O O)
   refine g' 3 O ?_
   refine tC O (fun hc5=>?_) (fun hc5=>?_)
   · simp only[bX,bJ] at hc5
     refine g' 3 O (tP O (zw (a:=0) (c:=1) O O O (by first | rfl | (show _=_;omega)) (by first | rfl | (show _=_;omega)) Tryz.runUnderlying9 (by omega) (by omega)) (g' 7 O ?_))
     exact tRs O Tryz.results198 (.cons (zd (zc O) (Cv.eq (congrArg D.s (by have T:=esc_1 hz (by rw[←(zx hu1)];have:=hc5;omega);first | exact T.1 | exact T.2)))) (.cons (zd (zc O) (Cv.eq (congrArg dN (by have T:=esc_1 hz (by rw[←(zx hu1)];have:=hc5;omega);first | exact T.1 | exact T.2)))) .nil)) O HSub.none ⟨O,O⟩
   · simp only[bX,bJ] at hc5
     refine g' 3 O (tP O (zl (k:=0) O O Tryz.runUnderlying9 (by first | rfl | omega) hu1) (g' 4 O ?_))
     refine tD O (fun hc6=>?_) (fun hc6=>?_)
     · skip
       refine g' 9 O ?_
       exact tRs O Tryz.results198 (.cons (zd (zc O) ((cS).trans (Cv.eq (congrArg D.s (by have T:=esc_2 hz (by rw[←(zx hu1)];have:=hc5;omega) (by rw[←(zx hu1)];have:=hc6;omega);first | exact T.1 | exact T.2))))) (.cons (zd (zc O) (Cv.eq (congrArg dN (by have T:=esc_2 hz (by rw[←(zx hu1)];have:=hc5;omega) (by rw[←(zx hu1)];have:=hc6;omega);first | exact T.1 | exact T.2)))) .nil)) O HSub.none ⟨O,O⟩
     · skip
       refine g' 3 O (tP O (zl (k:=0) O O Tryz.runUnderlying9 (by first | rfl | omega) hu1) (g' 2 O ?_))
       refine tAnd 3 3 (c:=decide ((3:Int)≤((s.size:Nat):Int))) O O O O O O (fun hb7 nx8=>?_) ?_
       · skip
         have hf9:=of_decide_eq_true hb7
         refine g' 1 O (tG O (zu O Tryz.runUnderlying9) (g' 1 O ?_))
         exact nx8 _ O O (kx 3 O O)
       refine g' 3 O ?_
       refine tC O (fun hc10=>?_) (fun hc10=>?_)
       · simp only[bX,bJ] at hc10
         refine g' 1 O (T.keep [0,2,3,6,7,8,9,10,11,12,13,17,20,21,22,23,24,25,26,27,28,32] O ?_)
         obtain ⟨u2,hu2⟩:=zai s 1 (by omega)
         have hlu2:=u2.toNat_lt
         obtain ⟨u3,hu3⟩:=zai s 2 (by omega)
         have hlu3:=u3.toNat_lt
         refine tDr 5 [(33,.s s,none),(34,.v (.int .u8 ((u2.toNat:Nat):Int)),none),(35,dI (hexI u2.toNat),none),(36,.s s,none),(37,.v (.int .u8 ((u3.toNat:Nat):Int)),none)] [] (Hn:=[]) mixed O O O O HSub.rfl' O ⟨sa_p O O O (zi O),sa_p O O O (zl (k:=1) O O Tryz.runUnderlying9 (by first | rfl | omega) hu2),sa_q O O O (qu_call O (km (km .nil)) Tryz.call218 (indexByte_c u2.toNat) isR_share),sa_p O O O (zi O),sa_p O O O (zl (k:=2) O O Tryz.runUnderlying9 (by first | rfl | omega) hu3),trivial⟩ (tK O (tW O acs (indexByte_c u3.toNat) (g' 9 O ?_)))
         refine tAnd 2 2 (c:=decide ((0:Int)≤hexI u3.toNat)) O O O O O O (fun hb11 nx12=>?_) ?_
         · skip
           have hf13:=of_decide_eq_true hb11
           refine g' 2 O ?_
           exact nx12 _ O O (kx 2 O O)
         refine g' 2 O ?_
         refine tC O (fun hc14=>?_) (fun hc14=>?_)
         · simp only[bX,bJ] at hc14
           have hxa:=hexI_bd u2.toNat (by omega)
           obtain ⟨a,ha⟩:∃ n:Nat,hexI u2.toNat=(n:Int):=⟨(hexI u2.toNat).toNat,by omega⟩
           have hxb:=hexI_bd u3.toNat (by omega)
           obtain ⟨b,hb⟩:∃ n:Nat,hexI u3.toNat=(n:Int):=⟨(hexI u3.toNat).toNat,by omega⟩
           refine T.sub [(0,.s s),(2,.v (.string ByteArray.empty)),(3,dI 0),(4,dN a),(5,dN b),(7,.s s),(10,.s s),(11,.v (.int .u8 ((u1.toNat:Nat):Int))),(21,.s s),(22,.v (.int .u8 ((u1.toNat:Nat):Int))),(25,.s s),(26,.v (.int .u8 ((u1.toNat:Nat):Int))),(33,.s s),(34,.v (.int .u8 ((u2.toNat:Nat):Int))),(35,dI (hexI u2.toNat)),(36,.s s),(37,.v (.int .u8 ((u3.toNat:Nat):Int))),(38,dI (hexI u3.toNat)),(39,dI (hexI u2.toNat))] ⟨sk O,sk O,sk O,sc O (Cv.eq (congrArg dI ha)),sc O (Cv.eq (congrArg dI hb)),sk O,sk O,sk O,sk O,sk O,sk O,sk O,sk O,sk O,sk O,sk O,sk O,sk O,sk O,trivial⟩ (g' 3 O (tP O (p_shl4 (a:=a) O O (by omega)) (g' 1 O (tP O (p_or64 (a:=a) (b:=b) O O (by omega) (by omega)) (tP O (zav O (c:=((a*16+b:Nat):Int)) (cv_3_5 (by omega))) (tE O (zE [.tmp 49] O O (.cons (CellD.v O) .nil) O Tryz.runUnderlying103 Tryz.sizeOf5 Tryz.zeroValue5 O O O O) ?_))))))
           rintro _ _ ⟨g15,rfl,rfl⟩
           refine tP O ((p_bytes (j:=0) (xs:=[((a*16+b:Nat):Int)]) O O (by simp) za6 (by kernel_rfl) (by kernel_rfl)).cv (Cv.str (by rw[strOfNums_size];show 1≤maxLen;decide))) (g' 7 O ?_)
           exact tRs O Tryz.results198 (.cons (zd (zc O) (Cv.eq (congrArg D.s (by have T:=esc_3 (a:=a) (b:=b) hz (by rw[←(zx hu1)];have:=hc5;omega) (by rw[←(zx hu1)];have:=hc6;omega) ⟨by rw[←(zx hu1)];have:=hc10.1;omega,by have:=hc10.2;omega⟩ (by rw[←zx hu2];exact ha) (by rw[←zx hu3];exact hb);first | (rw[nums_one (by omega)];exact T.1) | exact T.2)))) (.cons (zd (zc O) (Cv.eq (congrArg dN (by have T:=esc_3 (a:=a) (b:=b) hz (by rw[←(zx hu1)];have:=hc5;omega) (by rw[←(zx hu1)];have:=hc6;omega) ⟨by rw[←(zx hu1)];have:=hc10.1;omega,by have:=hc10.2;omega⟩ (by rw[←zx hu2];exact ha) (by rw[←zx hu3];exact hb);first | (rw[nums_one (by omega)];exact T.1) | exact T.2)))) .nil)) O HSub.none ⟨O,O⟩
         · simp only[bX,bJ] at hc14
           refine g' 10 O ?_
           exact tRs rfl Tryz.results198 (.cons (zd (zc rfl) ((cS).trans (Cv.eq (congrArg D.s (by have T:=zft hz (by rw[←(zx hu1)];have:=hc5;omega) (by rw[←(zx hu1)];have:=hc6;omega) (fun e=>by have h3:=e.2.2.1;have h4:=e.2.2.2;rw[←zx hu2] at h3;rw[←zx hu3] at h4;rcases hc14 with h | h<;>omega);first | exact T.1 | exact T.2))))) (.cons (zd (zc rfl) (Cv.eq (congrArg dN (by have T:=zft hz (by rw[←(zx hu1)];have:=hc5;omega) (by rw[←(zx hu1)];have:=hc6;omega) (fun e=>by have h3:=e.2.2.1;have h4:=e.2.2.2;rw[←zx hu2] at h3;rw[←zx hu3] at h4;rcases hc14 with h | h<;>omega);first | exact T.1 | exact T.2)))) .nil)) rfl HSub.none ⟨rfl,rfl⟩
       · simp only[bX,bJ] at hc10
         refine g' 10 O ?_
         exact tRs rfl Tryz.results198 (.cons (zd (zc rfl) ((cS).trans (Cv.eq (congrArg D.s (by have T:=zft hz (by rw[←(zx hu1)];have:=hc5;omega) (by rw[←(zx hu1)];have:=hc6;omega) (fun e=>by have h3:=e.1;have h4:=e.2.1;rw[←(zx hu1)] at h3;rcases hc10 with h | h<;>omega);first | exact T.1 | exact T.2))))) (.cons (zd (zc rfl) (Cv.eq (congrArg dN (by have T:=zft hz (by rw[←(zx hu1)];have:=hc5;omega) (by rw[←(zx hu1)];have:=hc6;omega) (fun e=>by have h3:=e.1;have h4:=e.2.1;rw[←(zx hu1)] at h3;rcases hc10 with h | h<;>omega);first | exact T.1 | exact T.2)))) .nil)) rfl HSub.none ⟨rfl,rfl⟩
theorem Unquote_c (s:ByteArray) (h2:2≤s.size) (hs:s.size≤1000000):
 CD Tryz.prog 178 [] [.s s] (isR (.tup [D.s (unqT s),dB (zbx s)])):=by
 refine tZ Tryz.func178 O O (fun C=>?_)
 refine T.bd 0 O (fun bd0=>?_)
 have sz0:s.size≤9223372036854775807:=bd0
 have hts:=trimP_size s
 refine g' 8 O (tE O (ef_alloc (zv:=(.agg #[(.pointer none),(.slice none 0 0)])) (X:=.agg [.v (.pointer none),.ov (.slice none 0 0)]) Tryz.zeroValue213 ⟨O,O,trivial⟩ ((Cv.vagg (by decide)).trans (Cv.agg (km (.cons (Cv.ov O) .nil))))) ?_)
 rintro _ _ ⟨g1,rfl,rfl⟩
 refine T.subH (HSub.nil 1 5) (g' 6 O (tW O acs (trimP_c s) (g' 4 O (T.front 1 O (tl4 (fun (a_:ByteArray) (b_:Value) (c_:Value) (d_:List UInt8)=>[(0,.s s),(4,dP g1 0),(5,.s a_)]) (fun a_ b_ c_ d_=>[.bx g1 213 (.agg [.v b_,.ov c_]),.sl c_ 1 5 (d_.map dU8)]) (fun a_ b_ c_ d_=>(b_=.pointer none∨b_=.pointer (some ⟨g1,0,none⟩))∧(UInv (zcv s) a_ d_)∧(a_.size≤s.size)∧(d_.length+a_.size≤s.size)∧(d_=[]→a_.size=(zcv s).size)) (fun a_ b_ c_ d_=>a_.size) (zcv s) (.pointer none) (.slice none 0 0) [] O (sa O) HSub.rfl' ⟨.inl O,UInv.zero _,hts.2,by show 0+(zcv s).size≤s.size;omega,fun _=>rfl⟩ ?_)))))
 rintro r pv ov bs ⟨hp,hu,hr,hb,hn⟩
 have hts:=trimP_size s
 refine g' 7 O ?_
 refine tD O (fun hc2=>?_) (fun hc2=>?_)
 · skip
   have hz:=ne_size hc2
   have hex0:(r.extract 1 r.size).size=r.size-1:=by rw[ByteArray.size_extract];omega
   refine g' 7 O ?_
   obtain ⟨u1,hu1⟩:=zai r 0 (by omega)
   have hlu1:=u1.toNat_lt
   refine tP O (zl (k:=0) O O Tryz.runUnderlying9 (by first | rfl | omega) hu1) (g' 3 O ?_)
   refine tD O (fun hc3=>?_) (fun hc3=>?_)
   · skip
     refine g' 3 O (tP O (zl (k:=0) O O Tryz.runUnderlying9 (by first | rfl | omega) hu1) (tX [0,0] O O acs (zb4 g1 pv ov bs u1 hp (by (try simp only[la,lc,ln]);omega)) ?_))
     rintro _ _ ⟨bv4,rfl,rfl⟩
     refine g' 5 O (tP O (zw (a:=1) (c:=r.size) O O O (by first | rfl | (show _=_;omega)) (by first | rfl | (show _=_;omega)) Tryz.runUnderlying9 (by omega) (by omega)) (g' 6 O ?_))
     exact tp4 (r.extract 1 r.size) (.pointer (some ⟨g1,0,none⟩)) bv4 (bs++[u1]) (sa O) HSub.rfl' ⟨.inr O,hu.raw hu1 (u8_ne92 hc3),by simp only[ByteArray.size_extract];omega,by simp only[la,lc,ln,len_toList,ByteArray.size_extract];omega,by intro e;have:=congrArg List.length e;simp only[la,lc,ln,len_toList] at this;omega⟩ (by simp only[ByteArray.size_extract];omega)
   · skip
     refine g' 5 O (tP O (zw (a:=1) (c:=r.size) O O O (by first | rfl | (show _=_;omega)) (by first | rfl | (show _=_;omega)) Tryz.runUnderlying9 (by omega) (by omega)) (tW O acs (escaped_c (r.extract 1 r.size) (by omega)) (g' 14 O ?_)))
     refine tD O (fun hc5=>?_) (fun hc5=>?_)
     · skip
       refine g' 12 O ?_
       exact tRs O Tryz.results178 (.cons (zd (zc O) ((cS).trans (Cv.eq (congrArg D.s (by have T:=unq_n (hu.none (by rw[hu1,u8_92 (u:=u1) (by have:=hc3;omega)]) (by have:=hc5;omega));first | exact T.1 | exact T.2))))) (.cons (zd (zc O) (cB ((by have T:=unq_n (hu.none (by rw[hu1,u8_92 (u:=u1) (by have:=hc3;omega)]) (by have:=hc5;omega));first | exact T.1 | exact T.2)))) .nil)) O HSub.none ⟨O,O⟩
     · skip
       obtain ⟨hes,hes1,hes2⟩:=escT_size (r.extract 1 r.size)
       have hex1:(r.extract 1 r.size).size=r.size-1:=by rw[ByteArray.size_extract];omega
       refine g' 5 O (tX [0,0] O O acs (WriteString_c g1 pv ov bs (escT (r.extract 1 r.size)) hp (by (try simp only[la,lc,ln]);omega) (by first | decide | omega)) ?_)
       rintro _ _ ⟨bv6,rfl,rfl⟩
       refine g' 5 O (tP O (zy (c:=((1+(escN (r.extract 1 r.size)):Nat):Int)) O O (zn (by omega) (by omega))) (tP O (zw (a:=1+(escN (r.extract 1 r.size))) (c:=r.size) O O O (by first | rfl | (show _=_;omega)) (by first | rfl | (show _=_;omega)) Tryz.runUnderlying9 (by omega) (by omega)) (g' 3 O ?_)))
       exact tp4 (r.extract (1+(escN (r.extract 1 r.size))) r.size) (.pointer (some ⟨g1,0,none⟩)) bv6 (bs++(escT (r.extract 1 r.size)).data.toList) (sa O) HSub.rfl' ⟨.inr O,hu.esc (by rw[hu1,u8_92 (u:=u1) (by have:=hc3;omega)]) (by have:=hc5;omega),by simp only[ByteArray.size_extract];omega,by simp only[la,lc,ln,len_toList,ByteArray.size_extract];omega,by intro e;have:=congrArg List.length e;simp only[la,lc,ln,len_toList] at this;omega⟩ (by simp only[ByteArray.size_extract];omega)
 · skip
   have hre:r=ByteArray.empty:=Decidable.byContradiction hc2
   have htz:=trimS_size ⟨bs.toArray⟩
   have hbz:(⟨bs.toArray⟩:ByteArray).size=bs.length:=zM bs
   have hdn:=hu.done hre
   have hne:bs≠[]:=fun e=>by have h1:=hn e;rw[hre] at h1;have h2:(ByteArray.empty).size=0:=rfl;have hts:=trimP_size s;omega
   refine g' 7 O (tX [0,0] O O acs (String_c g1 pv ov bs hne) ?_)
   rintro _ _ ⟨rfl,rfl⟩
   refine tW O acs (trimS_c (⟨bs.toArray⟩)) (g' 7 O (tW O acs (Quote_c (zdm (⟨bs.toArray⟩)) (by omega)) (g' 4 O ?_)))
   refine tD O (fun hc7=>?_) (fun hc7=>?_)
   · skip
     refine g' 8 O ?_
     exact tRs O Tryz.results178 (.cons (zd (zc O) ((cS).trans (Cv.eq (congrArg D.s (by have T:=unq_f hdn (by simpa using hc7);first | exact T.1 | exact T.2))))) (.cons (zd (zc O) (cB ((by have T:=unq_f hdn (by simpa using hc7);first | exact T.1 | exact T.2)))) .nil)) O HSub.none ⟨O,O⟩
   · skip
     refine g' 10 O ?_
     exact tRs O Tryz.results178 (.cons (zd (zc O) (Cv.eq (congrArg D.s (by have T:=unq_t (s:=s) (o:=bs) (by simpa using hc7);first | exact T.1 | exact T.2)))) (.cons (zd (zc O) (cB ((by have T:=unq_t (s:=s) (o:=bs) (by simpa using hc7);first | exact T.1 | exact T.2)))) .nil)) O HSub.none ⟨O,O⟩
end Lp
