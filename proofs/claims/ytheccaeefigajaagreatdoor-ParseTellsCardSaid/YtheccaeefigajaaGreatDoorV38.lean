import Derived.Laws.BytesArg
import Derived.Test.YtheccaeefigajaaGreatDoorV8
set_option linter.unusedSimpArgs false
set_option linter.unusedVariables false
set_option maxHeartbeats 4000000
set_option maxRecDepth 100000
namespace Lp
open Go Go.RowKit Go.Proofs Tryz
theorem zat:BdP prog #[⟨"Kind",3,0,false, "", "",0⟩,⟨"At",3,1,false, "", "",8⟩,⟨"Text",9,2,false, "", "",16⟩] [(0,1),(1,1),(2,1)]:=λ_=>by kernel_rfl
theorem aPk (ns:List Int) (n:Int) :
 CD prog 175 [] [.sh 1 (ns.map dI),dI n] (isR (dI (idxI n 0 ns))):=by
 refine tZ func175 O O (λC=>?_);refine T.bd 0 O (λbd0=>?_);have nl0:=zbW bd0;refine g' 9 O (tP O (zaa (n:=ns.length) O runUnderlying55 (by simp only[lm,lc,ln])) (g' 4 O (tl1 (λ(a_:Nat)=>[(0,.sh 1 (ns.map dI)),(1,dI n),(7,dN ns.length),(8,dN a_)]) (λa_=>[]) (λa_=>(idxI n 0 ns=idxI n a_ (ns.drop a_))) (λa_=>ns.length-a_) 0 O (sa O) w9 O ?_)));rintro k hf;refine g' 6 O ?_;refine tD O (λhc1=>?_) (λhc1=>?_)
 · refine g' 15 O ?_;obtain ⟨x1,hx1⟩:=zO ns k (by omega);refine tP O (zh (k:=k) O O runUnderlying55 sizeOf3 (by first | rfl | omega) (zI hx1)) (g' 4 O ?_);refine tD O (λhc2=>?_) (λhc2=>?_)
   · refine g' 12 O ?_;exact tRs O results175 (.cons (zd (zc O) (Cv.eq (aG (λn=>D.v (.int .i64 n)) (by exact aUr hx1 hf hc2)))) .nil) O mO ⟨O,O⟩
   refine g' 4 O (tP O (zE (c:=((k+1:Nat):Int)) O O (zp (by omega) (by omega))) (g' 2 O ?_));exact tp1 (k+1) (sa O) w9 (aLg hx1 hf hc2) (by omega)
 refine g' 11 O ?_;exact tRs O results175 (.cons (zd (zc O) (Cv.eq (aG (λn=>D.v (.int .i64 n)) (by exact aQp (by omega) hf)))) .nil) O mO ⟨O,O⟩
theorem aAz (ns:List Int) (n:Int) :
 CD prog 150 [] [.sh 1 (ns.map dI),dI n] (isR (dB (hasI ns n))):=by
 refine tZ func150 O O (λC=>?_);refine T.bd 0 O (λbd0=>?_);have nl0:=zbW bd0;refine g' 9 O (tW O acs (aPk ns n) (g' 5 O ?_));exact tRs O results150 (.cons (zd (zc O) (cB ((by exact aBe n ns 0)))) .nil) O mO ⟨O,O⟩
theorem aB8 (ns:List ByteArray) (n:ByteArray) :
 CD prog 117 [] [.sh 1 (ns.map D.s),.s n] (isR (dI (idxN n 0 ns))):=by
 refine tZ func117 O O (λC=>?_);refine T.bd 0 O (λbd0=>?_);have nl0:=zbW bd0;refine T.bd 1 O (λbd1=>?_);have sz1:n.size<=9223372036854775807:=bd1;refine g' 9 O (tP O (zaa (n:=ns.length) O aL (by simp only[lm,lc,ln])) (g' 4 O (tl1 (λ(a_:Nat)=>[(0,.sh 1 (ns.map D.s)),(1,.s n),(7,dN ns.length),(8,dN a_)]) (λa_=>[]) (λa_=>(idxN n 0 ns=idxN n a_ (ns.drop a_))) (λa_=>ns.length-a_) 0 O (sa O) w9 O ?_)));rintro k hf;refine g' 6 O ?_;refine tD O (λhc1=>?_) (λhc1=>?_)
 · refine g' 15 O ?_;obtain ⟨x1,hx1⟩:=zO ns k (by omega);refine tP O (zh (k:=k) O O aL aT (by first | rfl | omega) (zI hx1)) (g' 4 O ?_);refine tD O (λhc2=>?_) (λhc2=>?_)
   · refine g' 12 O ?_;exact tRs O results117 (.cons (zd (zc O) (Cv.eq (aG (λn=>D.v (.int .i64 n)) (by exact aTm hx1 hf hc2)))) .nil) O mO ⟨O,O⟩
   refine g' 4 O (tP O (zE (c:=((k+1:Nat):Int)) O O (zp (by omega) (by omega))) (g' 2 O ?_));exact tp1 (k+1) (sa O) w9 (aJ6 hx1 hf hc2) (by omega)
 refine g' 11 O ?_;exact tRs O results117 (.cons (zd (zc O) (Cv.eq (aG (λn=>D.v (.int .i64 n)) (by exact aPq (by omega) hf)))) .nil) O mO ⟨O,O⟩
theorem fD (ns:List ByteArray) (n:ByteArray) :
 CD prog 46 [] [.sh 1 (ns.map D.s),.s n] (isR (dB (hasN ns n))):=by
 refine tZ func46 O O (λC=>?_);refine T.bd 0 O (λbd0=>?_);have nl0:=zbW bd0;refine T.bd 1 O (λbd1=>?_);have sz1:n.size<=9223372036854775807:=bd1;refine g' 9 O (tW O acs (aB8 ns n) (g' 5 O ?_));exact tRs O results46 (.cons (zd (zc O) (cB ((by exact aDs n ns 0)))) .nil) O mO ⟨O,O⟩
theorem zgK (s:ByteArray) (ks:List Int) :
 CD prog 108 [] [.s s,.sh 1 (ks.map dI)] (isR (dN (runL (inK ks) (bl8 s)))):=by
 refine tZ func108 O O (λC=>?_);refine T.bd 0 O (λbd0=>?_);have sz0:s.size<=9223372036854775807:=bd0;refine T.bd 1 O (λbd1=>?_);have nl1:=zbW bd1;refine g' 9 O (tE O (zcw O aK) ?_);rintro _ _ ⟨g1,rfl,rfl⟩;refine g' 3 O (tl1 (λ(a_:Nat)=>[(0,.s s),(1,.sh 1 (ks.map dI)),(8,dP g1 0)]) (λa_=>[.it g1 s a_]) (λa_=>(a_<=s.size)/\(runL (inK ks) (bl8 s)=a_+runL (inK ks) (bts s a_))) (λa_=>s.size-a_) 0 O (sa O) w9 ⟨cX _,sS⟩ ?_);rintro p ⟨hp,hf⟩;rcases c8 p s.size with hlt | hge
 · have hrune:=zaw hlt;have hrl:=zbQ s p;have hdw:=zae s p hlt;have hdp:=zF s p;refine g' 2 O (tE O (zbA (i:=0) O O hlt) ?_);rintro _ _ ⟨rfl,rfl⟩;refine g' 20 O (tW O acs (aD7 ((decR s p:Nat):Int)) (tW O acs (aAz ks (zD ((decR s p:Nat):Int))) (g' 3 O ?_)));refine tC O (λhc2=>?_) (λhc2=>?_)
   · simp only[bX,bJ] at hc2;refine g' 11 O ?_;exact tRs O results108 (.cons (zd (zc O) (Cv.eq (aG dN (by exact oD hf (by have h0:=hc2;rw[<-aD2];simpa using h0))))) .nil) O mO ⟨O,O⟩
   simp only[bX,bJ] at hc2;refine g' 2 O ?_;exact tp1 (p+decW s p) (sa O) w9 ⟨by have:=zae s p hlt;omega,aDf hf hlt (by have h0:=hc2;rw[<-aD2];simpa using h0)⟩ (by have:=zF s p;omega)
 have hrune:=zaG hge;refine g' 2 O (tP O (zco (i:=0) O O hge) (g' 13 O (tP O (zw O aK) (g' 4 O ?_))));exact tRs O results108 (.cons (zd (zc O) (Cv.eq (aG dN (by exact xX hf hge hp)))) .nil) O mO ⟨O,O⟩
theorem aZr (s:ByteArray) (hs:s.size<=1000000):
 CD prog 153 [] [.s s] (isR (.tup [TokD.d ((zcg (bl8 s)).1),dN ((zcg (bl8 s)).2)])):=by
 refine tZ func153 O O (λC=>?_);refine T.bd 0 O (λbd0=>?_);have sz0:s.size<=9223372036854775807:=bd0;have hn:=zbD (inK [1,2]) s;refine g' 2 O ?_;refine tA O (λg1=>?_);refine g' 6 O (tE O (Qu.ef (d:=.sh 1 ([1,2].map dI)) (zi [.const (.int .i64 1),.const (.int .i64 2)] O O (.cons (CellD.v O) (.cons (CellD.v O) .nil)) O runUnderlying55 sizeOf3 zeroValue3 O O O O)) ?_);rintro _ _ ⟨rfl,rfl⟩;refine tW O acs (zgK s [1,2]) (g' 8 O (tP O (zK (a:=0) (c:=runL (inK [1,2]) (bl8 s)) O O O (by first | rfl | (show _=_;omega)) (by first | rfl | (show _=_;omega)) aK (by omega) (by omega)) (tW O acs (aQ1 (s.extract 0 (runL (inK [1,2]) (bl8 s)))) (g' 3 O ?_))));refine tC O (λhc2=>?_) (λhc2=>?_)
 · simp only[bX,bJ] at hc2;refine g' 2 O (tP O (zj [] [] (zv:=cD) O O (.nil) (aQ) aR zat ⟨O,O,O,trivial⟩ O) (gQ 6 [0] O O ?_));exact tRs O results153 (.cons (zd (zn (X:=.agg [dI 0,dI 0,cC]) (d:=.agg [dI 0,dI 0,cC]) (i:=0) O O aY aP O O) ((Cv.agg (gc (gc (.cons (cS) .nil)))).trans (Cv.eq (aG TokD.d (show (TokD.mk 0 0 ByteArray.empty)=(zcg (bl8 s)).1 from(by rw[aHe (by simpa using hc2)];try rfl)))))) (.cons (zd (zc O) (Cv.eq (aG dN (by rw[aHe (by simpa using hc2)];try rfl)))) .nil)) O mO ⟨O,O⟩
 simp only[bX,bJ] at hc2;refine g' 6 O (tP O (zK (a:=0) (c:=runL (inK [1,2]) (bl8 s)) O O O (by first | rfl | (show _=_;omega)) (by first | rfl | (show _=_;omega)) aK (by omega) (by omega)) (tP O (zj [0,2] [.const (.int .i64 1),.tmp 16] (zv:=cD) O O (.cons (CellD.v O) (.cons CellD.s .nil)) (aQ) aR zat ⟨O,O,O,trivial⟩ O) (gQ 6 [0] O O ?_)));exact tRs O results153 (.cons (zd (zn (X:=.agg [dI 1,dI 0,.s (s.extract 0 (runL (inK [1,2]) (bl8 s)))]) (d:=.agg [dI 1,dI 0,.s (s.extract 0 (runL (inK [1,2]) (bl8 s)))]) (i:=0) O O aY aP O O) (Cv.eq (aG TokD.d (show (TokD.mk 1 0 (s.extract 0 (runL (inK [1,2]) (bl8 s))))=(zcg (bl8 s)).1 from(by rw[aG8 (by simpa using hc2)];try rfl))))) (.cons (zd (zc O) (Cv.eq (aG dN (by rw[aG8 (by simpa using hc2)];try rfl)))) .nil)) O mO ⟨O,O⟩
theorem aLp (s:ByteArray) :
 CD prog 177 [] [.s s] (isR (dN (secB s))):=by
 refine tZ func177 O O (λC=>?_);refine T.bd 0 O (λbd0=>?_);have sz0:s.size<=9223372036854775807:=bd0;refine g' 18 O ?_;refine tD O (λhc1=>?_) (λhc1=>?_)
 · refine g' 8 O ?_;exact tRs O results177 (.cons (zd (zc O) (Cv.eq (aG dN (by unfold secB;simp[*])))) .nil) O mO ⟨O,O⟩
 refine g' 6 O ?_;refine tD O (λhc2=>?_) (λhc2=>?_)
 · refine g' 8 O ?_;exact tRs O results177 (.cons (zd (zc O) (Cv.eq (aG dN (by unfold secB;simp[*])))) .nil) O mO ⟨O,O⟩
 refine g' 6 O ?_;refine tD O (λhc3=>?_) (λhc3=>?_)
 · refine g' 8 O ?_;exact tRs O results177 (.cons (zd (zc O) (Cv.eq (aG dN (by unfold secB;simp[*])))) .nil) O mO ⟨O,O⟩
 refine g' 9 O ?_;exact tRs O results177 (.cons (zd (zc O) (Cv.eq (aG dN (by unfold secB;simp[*])))) .nil) O mO ⟨O,O⟩
theorem aXh  :
 CD prog 179 [] [] (isR ((D.ls 1 D.s) zY)):=by
 refine tZ func179 O O (λC=>?_);refine g' 7 O ?_;refine tE O (Qu.ef (d:=.sh 1 ([(⟨#[61,61]⟩:ByteArray),(⟨#[33,61]⟩:ByteArray),(⟨#[60,61]⟩:ByteArray),(⟨#[62,61]⟩:ByteArray),(⟨#[61,126]⟩:ByteArray),(⟨#[33,126]⟩:ByteArray),(⟨#[43]⟩:ByteArray),(⟨#[45]⟩:ByteArray),(⟨#[42]⟩:ByteArray),(⟨#[47]⟩:ByteArray),(⟨#[37]⟩:ByteArray),(⟨#[40]⟩:ByteArray),(⟨#[41]⟩:ByteArray),(⟨#[123]⟩:ByteArray),(⟨#[125]⟩:ByteArray),(⟨#[91]⟩:ByteArray),(⟨#[93]⟩:ByteArray),(⟨#[44]⟩:ByteArray),(⟨#[61]⟩:ByteArray),(⟨#[60]⟩:ByteArray),(⟨#[62]⟩:ByteArray)].map D.s)) ((zi [.const (.string ⟨#[61,61]⟩),.const (.string ⟨#[33,61]⟩),.const (.string ⟨#[60,61]⟩),.const (.string ⟨#[62,61]⟩),.const (.string ⟨#[61,126]⟩),.const (.string ⟨#[33,126]⟩),.const (.string ⟨#[43]⟩),.const (.string ⟨#[45]⟩),.const (.string ⟨#[42]⟩),.const (.string ⟨#[47]⟩),.const (.string ⟨#[37]⟩),.const (.string ⟨#[40]⟩),.const (.string ⟨#[41]⟩),.const (.string ⟨#[123]⟩),.const (.string ⟨#[125]⟩),.const (.string ⟨#[91]⟩),.const (.string ⟨#[93]⟩),.const (.string ⟨#[44]⟩),.const (.string ⟨#[61]⟩),.const (.string ⟨#[60]⟩),.const (.string ⟨#[62]⟩)] O O (.cons (CellD.v O) (.cons (CellD.v O) (.cons (CellD.v O) (.cons (CellD.v O) (.cons (CellD.v O) (.cons (CellD.v O) (.cons (CellD.v O) (.cons (CellD.v O) (.cons (CellD.v O) (.cons (CellD.v O) (.cons (CellD.v O) (.cons (CellD.v O) (.cons (CellD.v O) (.cons (CellD.v O) (.cons (CellD.v O) (.cons (CellD.v O) (.cons (CellD.v O) (.cons (CellD.v O) (.cons (CellD.v O) (.cons (CellD.v O) (.cons (CellD.v O) .nil))))))))))))))))))))) O aL aT aX O O O O).cv (mN (.cons cS (.cons cS (.cons cS (.cons cS (.cons cS (.cons cS (.cons cS (.cons cS (.cons cS (.cons cS (.cons cS (.cons cS (.cons cS (.cons cS (.cons cS (.cons cS (.cons cS (.cons cS (.cons cS (.cons cS (.cons cS .nil)))))))))))))))))))))))) ?_;rintro _ _ ⟨rfl,rfl⟩;refine g' 4 O ?_;exact tRs O results179 (.cons (zd (zc O) (Cv.eq (aG (D.ls 1 D.s) (show [(⟨#[61,61]⟩:ByteArray),(⟨#[33,61]⟩:ByteArray),(⟨#[60,61]⟩:ByteArray),(⟨#[62,61]⟩:ByteArray),(⟨#[61,126]⟩:ByteArray),(⟨#[33,126]⟩:ByteArray),(⟨#[43]⟩:ByteArray),(⟨#[45]⟩:ByteArray),(⟨#[42]⟩:ByteArray),(⟨#[47]⟩:ByteArray),(⟨#[37]⟩:ByteArray),(⟨#[40]⟩:ByteArray),(⟨#[41]⟩:ByteArray),(⟨#[123]⟩:ByteArray),(⟨#[125]⟩:ByteArray),(⟨#[91]⟩:ByteArray),(⟨#[93]⟩:ByteArray),(⟨#[44]⟩:ByteArray),(⟨#[61]⟩:ByteArray),(⟨#[60]⟩:ByteArray),(⟨#[62]⟩:ByteArray)]=zY from(by rfl))))) .nil) O mO ⟨O,O⟩
theorem aZ0 (s:ByteArray) (hs:s.size<=1000000):
 CD prog 156 [] [.s s] (isR (.tup [TokD.d ((zbS (bl8 s)).1),dN ((zbS (bl8 s)).2)])):=by
 refine tZ func156 O O (λC=>?_);refine T.bd 0 O (λbd0=>?_);have sz0:s.size<=9223372036854775807:=bd0;have hsl:zY.length=21:=rfl;refine g' 2 O ?_;refine tA O (λg1=>?_);refine g' 6 O (tW O acs (aXh) (tP O (zaa (n:=zY.length) O aL (by simp only[lm,lc,ln])) (g' 4 O (tl1 (λ(a_:Nat)=>[(0,.s s),(2,dP g1 0),(6,.sh 1 (zY.map D.s)),(7,dN zY.length),(8,dN a_)]) (λa_=>[.bx g1 135 (.agg [dI 0,dI 0,cC])]) (λa_=>(zaj zY (bl8 s)=zaj (zY.drop a_) (bl8 s))) (λa_=>zY.length-a_) 0 O (sa O) w9 O ?_))));rintro k hf;refine g' 6 O ?_;refine tD O (λhc2=>?_) (λhc2=>?_)
 · refine g' 6 O ?_;obtain ⟨x1,hx1⟩:=zO zY k (by omega);refine tP O (zh (k:=k) O O aL aT (by first | rfl | omega) (zI hx1)) (g' 8 O (tW O acs (iG s x1) (g' 2 O ?_)));refine tC O (λhc3=>?_) (λhc3=>?_)
   · refine g' 3 O (tP O (zj [0,2] [.const (.int .i64 5),.tmp 15] (zv:=cD) O O (.cons (CellD.v O) (.cons CellD.s .nil)) (aQ) aR zat ⟨O,O,O,trivial⟩ O) (g' 1 O (tP O (zw O aK) (gQ 10 [0] O O ?_))));exact tRs O results156 (.cons (zd (zn (X:=.agg [dI 5,dI 0,.s x1]) (d:=.agg [dI 5,dI 0,.s x1]) (i:=0) O O aY aP O O) (Cv.eq (aG TokD.d (show (TokD.mk 5 0 x1)=(zbS (bl8 s)).1 from(by unfold zbS;rw[sG hx1 hf (by simpa using hc3)];try rfl))))) (.cons (zd (zc O) (Cv.eq (aG dN (by unfold zbS;rw[sG hx1 hf (by simpa using hc3)];try rfl)))) .nil)) O mO ⟨O,O⟩
   refine g' 4 O (tP O (zE (c:=((k+1:Nat):Int)) O O (zp (by omega) (by omega))) (g' 2 O ?_));exact tp1 (k+1) (sa O) w9 (aAt hx1 hf (by simpa using hc3)) (by omega)
 refine g' 7 O (tP O (zj [] [] (zv:=cD) O O (.nil) (aQ) aR zat ⟨O,O,O,trivial⟩ O) (gQ 5 [0] O O ?_));exact tRs O results156 (.cons (zd (zn (X:=.agg [dI 0,dI 0,cC]) (d:=.agg [dI 0,dI 0,cC]) (i:=0) O O aY aP O O) ((Cv.agg (gc (gc (.cons (cS) .nil)))).trans (Cv.eq (aG TokD.d (show (TokD.mk 0 0 ByteArray.empty)=(zbS (bl8 s)).1 from(by unfold zbS;rw[lR hf (by omega)];try rfl)))))) (.cons (zd (zc O) (Cv.eq (aG dN (by unfold zbS;rw[lR hf (by omega)];try rfl)))) .nil)) O mO ⟨O,O⟩
end Lp
namespace Lp
open Go Go.RowKit
variable {P:Program} {ty:TypeId} {K:Kd} {H:List Hp}
abbrev dB8 (n:Int):D:=.v (.int .u8 n)
theorem sV {w:World} {F:Nat->Prop}:∀ {xs:List Int} {us:List Value},RepE w F 1 (xs.map dB8) us->us=xs.map (Value.int .u8)
 | [],_,h=>h
 | x::r,_,⟨u,t,e,h1,_,_,h4⟩=>by
  have h1':u=.int .u8 x:=h1;rw[e,sV h4,h1'];rfl
theorem aAp {t1 t2 e:TypeId} {x:Operand} {j:Nat} {v:Value} {T:TypeId} {xs:List Int} (hx:opO K x=some v) (hm:nth H j=some (.sl v 1 T (xs.map dB8))) (hn:xs≠[]) (hs:P.underlying t1=some (.slice e)) (he:P.underlying e=some (.int .u8)) (hd:P.underlying t2=some .string):
 Pu P (.convert t1 t2 x) ty K H (.v (.string (strOfNums xs))):=
 ⟨λρ w F hk _ hH=>by
  obtain ⟨us,hr,ho⟩:=hH _ (zau hm);have hu:=sV hr;subst hu;obtain ⟨A,c,hv,h2,h3,h4,h5⟩:=ho.sl;obtain ⟨b,o,rfl,_,_,hat⟩:=h4 (by simpa using hn);have hev:ev ρ x=v:=hk.opO hx;have hl:((xs.map (Value.int .u8)).map vcs).length=xs.length:=by simp
  rw[hl] at hv;have hcv:=run_convert_bytes_arg (P:=P) w t1 e hs he b o xs.length c xs O (λi hi=>by
   have:=hat i [Value.int .u8 (xs.getD i 0)] (by
    rw[uE,uE,dO hi];simp[vcs,List.getD,dO hi,Value.cells])
   have h0:=this.2 0 _ O;simpa using h0) t2 hd
  exact wV (v:=.string (strOfNums xs)) (w':=w) (by
   have h1:=zbY hcv;simpa [execOp,zaq,hev,hv] using h1) ⟨rfl,rfl⟩⟩
end Lp
namespace Lp
open Go Go.RowKit Go.Proofs Tryz
theorem rB (u:Nat) (w:World):(callFunc 237 #[.string ⟨#[48,49,50,51,52,53,54,55,56,57,97,98,99,100,101,102]⟩,.int .u8 (u:Int)]).run prog w=.ok (.value (.int .i64 (hexI u))) w:=by
 rw[run_callFunc_extern func237 (by kernel_rfl) (by kernel_rfl) (by kernel_rfl) (e:=Extern.BytealgIndexByte.indexByte) (by kernel_rfl),run_indexByte_string];rfl
theorem aAd {ty:TypeId} {K:Kd} {H:List Hp} {x y:Operand} {ats:Array TypeId} {u:Nat} (hx:opS K x=some (⟨#[48,49,50,51,52,53,54,55,56,57,97,98,99,100,101,102]⟩:ByteArray)) (hy:opD K y=some (.v (.int .u8 (u:Int)))):Pu prog (.call { callee:=.value (.func 237),args:=#[x,y],argTypes:=ats }) ty K H (dI (hexI u)):=
 ⟨λρ w F hk _ _=>aT1 (vs:=[.string ⟨#[48,49,50,51,52,53,54,55,56,57,97,98,99,100,101,102]⟩,.int .u8 (u:Int)]) (zo ρ [x,y]) (by rw[show (#[x,y]:Array Operand).toList=[x,y] from rfl,zc0 ρ [x,y] [x,y] (λ_ h=>h)];have e:ev ρ y=_:=hk.op hy;simp[hk.opS hx,e]) (rB u) ⟨rfl,rfl⟩⟩
section
variable {P:Program} {ty:TypeId} {K:Kd} {H:List Hp} {t t':TypeId} {x y:Operand}
theorem aZ5 {k':IntKind} {a:Nat} (hx:opD K x=some (dI (a:Int))) (hy:opD K y=some (.v (.int k' 4))) (ha:a<16):Pu P (.binOp .shl t x y t') ty K H (dN (a*16)):=
 zep hx hy (λw=>by
  rcases (show a=0\/a=1\/a=2\/a=3\/a=4\/a=5\/a=6\/a=7\/a=8\/a=9\/a=10\/a=11\/a=12\/a=13\/a=14\/a=15 by omega) with rfl | rfl | rfl | rfl | rfl | rfl | rfl | rfl | rfl | rfl | rfl | rfl | rfl | rfl | rfl | rfl<;>rfl)
theorem a2j (a b:Nat) (ha:a<256) (hb:b<256):(BitVec.ofInt IntKind.i64.bits (a:Int)||| BitVec.ofInt IntKind.i64.bits (b:Int)).toNat=a||| b:=by
 rw[BitVec.toNat_or,BitVec.toNat_ofInt,BitVec.toNat_ofInt];have e:(2:Nat) ^ IntKind.i64.bits=18446744073709551616:=rfl;rw[e];congr 1<;>omega
theorem or16:∀ a,a<16->∀ b,b<16->a*16||| b=a*16+b:=by decide
theorem aY2 {a b:Nat} (hx:opD K x=some (dN (a*16))) (hy:opD K y=some (dI (b:Int))) (ha:a<16) (hb:b<16):Pu P (.binOp .or t x y t') ty K H (dN (a*16+b)):=
 zep hx hy (λw=>by
  have h:=or16 a ha b hb;simp only[eqGuard,binOp,Op.intBits,a2j (a*16) b (by omega) (by omega),h,w64 (show -9223372036854775808<=((a*16+b:Nat):Int)/\((a*16+b:Nat):Int)<=9223372036854775807 by omega)];rfl)
end
theorem rW (c:Nat) :
 CD prog 229 [] [.v (.string ⟨#[48,49,50,51,52,53,54,55,56,57,97,98,99,100,101,102]⟩),.v (.int .u8 ((c:Nat):Int))] (isR (dI (hexI c))):=by
 refine tZ func229 O O (λC=>?_);refine g' 9 O (tP O (aAd (u:=c) O O) (g' 4 O ?_));exact tRs O results229 (.cons (zd (zc O) (Cv.eq (aG (λn=>D.v (.int .i64 n)) (by rfl)))) .nil) O mO ⟨O,O⟩
theorem lA (c:Nat) :
 CD prog 218 [] [.v (.string ⟨#[48,49,50,51,52,53,54,55,56,57,97,98,99,100,101,102]⟩),.v (.int .u8 ((c:Nat):Int))] (isR (dI (hexI c))):=by
 refine tZ func218 O O (λC=>?_);refine g' 9 O (tW O acs (rW c) (g' 4 O ?_));exact tR O mO ⟨O,O⟩
def hasS (s:ByteArray):Bool:=decide (1<=s.size)&&decide (s.extract (s.size-1) s.size=(⟨#[34]⟩:ByteArray))
theorem aJ0 {a b:ByteArray} (h:hasP a b=true):b.size<=a.size:=by unfold hasP at h;simp only[cY,aI] at h;exact h.1
theorem aHg {s:ByteArray} (h:hasS s=true):1<=s.size:=by unfold hasS at h;simp only[cY,aI] at h;exact h.1
theorem aYn (s:ByteArray) :
 CD prog 230 [] [.s s,.v (.string ⟨#[34]⟩)] (isR (dB (hasS s))):=by
 refine tZ func230 O O (λC=>?_);refine T.bd 0 O (λbd0=>?_);have sz0:s.size<=9223372036854775807:=bd0;have h34:(⟨#[34]⟩:ByteArray).size=1:=rfl;refine g' 8 O (tP O (zw O aK) (g' 1 O (tP O (zw O aK) (g' 2 O ?_))));refine tAnd 5 9 (c:=decide ((s.extract (s.size-((⟨#[34]⟩:ByteArray).size)) s.size)=(⟨#[34]⟩:ByteArray))) O O O O O O (λhb1 nx2=>?_) ?_
 · have hf3:=aF hb1;refine g' 2 O (tG O (zw O aK) (g' 1 O (tG O (zw O aK) (tG O (zci (c:=((s.size-((⟨#[34]⟩:ByteArray).size):Nat):Int)) O O (zp (by omega) (by omega))) (tG O (zK (a:=s.size-((⟨#[34]⟩:ByteArray).size)) (c:=s.size) O O O (by first | rfl | (show _=_;omega)) (by first | rfl | (show _=_;omega)) aK (by omega) (by omega)) (g' 2 O ?_))))));exact nx2 _ O O (kx 9 O O)
 refine g' 4 O ?_;exact tRs O results230 (.cons (zd (zc O) (cB ((by unfold hasS;congr 1;exact decide_eq_decide.2 (by omega))))) .nil) O mO ⟨O,O⟩
theorem aPn (s:ByteArray) :
 CD prog 217 [] [.s s,.v (.string ⟨#[34]⟩)] (isR (D.s (zdn s))):=by
 refine tZ func217 O O (λC=>?_);refine T.bd 0 O (λbd0=>?_);have sz0:s.size<=9223372036854775807:=bd0;have h34:(⟨#[34]⟩:ByteArray).size=1:=rfl;refine g' 10 O (tW O (ga (.cons (ArgC.cv cS) .nil)) (aSb s (⟨#[34]⟩:ByteArray)) (g' 2 O ?_));refine tC O (λhc1=>?_) (λhc1=>?_)
 · have hps:=aJ0 hc1;refine g' 4 O (tP O (zw O aK) (tP O (zK (a:=(⟨#[34]⟩:ByteArray).size) (c:=s.size) O O O (by first | rfl | (show _=_;omega)) (by first | rfl | (show _=_;omega)) aK (by omega) (by omega)) (g' 5 O ?_)));exact tRs O results217 (.cons (zd (zc O) (Cv.eq (aG D.s (by unfold zdn;first | rw[aB (by simpa using hc1)];rfl | rw[aA (by simpa using hc1)])))) .nil) O mO ⟨O,O⟩
 refine g' 9 O ?_;exact tRs O results217 (.cons (zd (zc O) (Cv.eq (aG D.s (by unfold zdn;first | rw[aB (by simpa using hc1)];rfl | rw[aA (by simpa using hc1)])))) .nil) O mO ⟨O,O⟩
theorem aVj (s:ByteArray) :
 CD prog 197 [] [.s s,.v (.string ⟨#[34]⟩)] (isR (D.s (zdn s))):=by
 refine tZ func197 O O (λC=>?_);refine T.bd 0 O (λbd0=>?_);have sz0:s.size<=9223372036854775807:=bd0;have h34:(⟨#[34]⟩:ByteArray).size=1:=rfl;refine g' 9 O (tW O acs (aPn s) (g' 4 O ?_));exact tR O mO ⟨O,O⟩
theorem aOu (s:ByteArray) :
 CD prog 219 [] [.s s,.v (.string ⟨#[34]⟩)] (isR (D.s (zek s))):=by
 refine tZ func219 O O (λC=>?_);refine T.bd 0 O (λbd0=>?_);have sz0:s.size<=9223372036854775807:=bd0;have h34:(⟨#[34]⟩:ByteArray).size=1:=rfl;refine g' 10 O (tW O acs (aYn s) (g' 2 O ?_));refine tC O (λhc1=>?_) (λhc1=>?_)
 · have hps:=aHg hc1;refine g' 4 O (tP O (zw O aK) (g' 1 O (tP O (zw O aK) (tP O (zci (c:=((s.size-((⟨#[34]⟩:ByteArray).size):Nat):Int)) O O (zp (by omega) (by omega))) (tP O (zK (a:=0) (c:=s.size-((⟨#[34]⟩:ByteArray).size)) O O O (by first | rfl | (show _=_;omega)) (by first | rfl | (show _=_;omega)) aK (by omega) (by omega)) (g' 5 O ?_))))));exact tRs rfl results219 (.cons (zd (zc rfl) (Cv.eq (aG D.s (by have h0:=hc1;unfold hasS at h0;unfold zek;simp only[cY,Bool.and_eq_false_iff,aI,aJ] at h0;first | (rw[aB h0];rfl) | rw[aA (λe=>by rcases h0 with h | h;exact h e.1;exact h e.2)])))) .nil) rfl mO ⟨rfl,rfl⟩
 refine g' 9 O ?_;exact tRs rfl results219 (.cons (zd (zc rfl) (Cv.eq (aG D.s (by have h0:=hc1;unfold hasS at h0;unfold zek;simp only[cY,Bool.and_eq_false_iff,aI,aJ] at h0;first | (rw[aB h0];rfl) | rw[aA (λe=>by rcases h0 with h | h;exact h e.1;exact h e.2)])))) .nil) rfl mO ⟨rfl,rfl⟩
theorem aUx (s:ByteArray) :
 CD prog 199 [] [.s s,.v (.string ⟨#[34]⟩)] (isR (D.s (zek s))):=by
 refine tZ func199 O O (λC=>?_);refine T.bd 0 O (λbd0=>?_);have sz0:s.size<=9223372036854775807:=bd0;have h34:(⟨#[34]⟩:ByteArray).size=1:=rfl;refine g' 9 O (tW O acs (aOu s) (g' 4 O ?_));exact tR O mO ⟨O,O⟩
end Lp
namespace Lp
open Go Go.RowKit Go.Proofs Tryz
theorem aIz {a:Int} (h:0<=a/\a<=255):∀ w,(convert 3 5 (.int .i64 a)).run prog w=.ok (.int .u8 a) w:=λw=>by
 have e:IntKind.u8.wrap a=a:=by simp[IntKind.wrap,IntKind.bits,IntKind.signed];omega
 simp[convert,run_underlying (show Tryz.prog.underlying 3=some _ by kernel_rfl),run_underlying (show Tryz.prog.underlying 5=some _ by kernel_rfl),Conv.intToInt,e]
theorem aIy (s:ByteArray) (hs:s.size<=1000000):
 CD prog 198 [] [.s s] (isR (.tup [D.s (escT s),dN (escN s)])):=by
 refine tZ func198 O O (λC=>?_);refine T.bd 0 O (λbd0=>?_);have sz0:s.size<=9223372036854775807:=bd0;refine g' 15 O ?_;refine tD O (λhc1=>?_) (λhc1=>?_)
 · refine g' 9 O ?_;exact tRs O results198 (.cons (zd (zc O) ((cS).trans (Cv.eq (aG D.s (by have T:=aWa hc1;first | exact T.1 | exact T.2))))) (.cons (zd (zc O) (Cv.eq (aG dN (by have T:=aWa hc1;first | exact T.1 | exact T.2)))) .nil)) O mO ⟨O,O⟩
 have hz:=aIo hc1;refine g' 3 O ?_;obtain ⟨u1,hu1⟩:=zaM s 0 (by omega);have hlu1:=u1.toNat_lt;refine tP O (zt (k:=0) O O aK (by first | rfl | omega) hu1) (g' 2 O ?_);refine tOr 3 3 (c:=decide (((u1.toNat:Nat):Int)=(92:Int))) O O O O O O (λhb2 nx3=>?_) ?_
 · have hf4:=aC hb2;refine g' 1 O (tG O (zt (k:=0) O O aK (by first | rfl | omega) hu1) (g' 1 O ?_));exact nx3 _ O O (kx 3 O O)
 refine g' 3 O ?_;refine tC O (λhc5=>?_) (λhc5=>?_)
 · simp only[bX,bJ] at hc5;refine g' 3 O (tP O (zK (a:=0) (c:=1) O O O (by first | rfl | (show _=_;omega)) (by first | rfl | (show _=_;omega)) aK (by omega) (by omega)) (g' 7 O ?_));exact tRs O results198 (.cons (zd (zc O) (Cv.eq (aG D.s (by have T:=aTy hz (by rw[<-(zM hu1)];have:=hc5;omega);first | exact T.1 | exact T.2)))) (.cons (zd (zc O) (Cv.eq (aG dN (by have T:=aTy hz (by rw[<-(zM hu1)];have:=hc5;omega);first | exact T.1 | exact T.2)))) .nil)) O mO ⟨O,O⟩
 simp only[bX,bJ] at hc5;refine g' 3 O (tP O (zt (k:=0) O O aK (by first | rfl | omega) hu1) (g' 4 O ?_));refine tD O (λhc6=>?_) (λhc6=>?_)
 · refine g' 9 O ?_;exact tRs O results198 (.cons (zd (zc O) ((cS).trans (Cv.eq (aG D.s (by have T:=aWk hz (by rw[<-(zM hu1)];have:=hc5;omega) (by rw[<-(zM hu1)];have:=hc6;omega);first | exact T.1 | exact T.2))))) (.cons (zd (zc O) (Cv.eq (aG dN (by have T:=aWk hz (by rw[<-(zM hu1)];have:=hc5;omega) (by rw[<-(zM hu1)];have:=hc6;omega);first | exact T.1 | exact T.2)))) .nil)) O mO ⟨O,O⟩
 refine g' 3 O (tP O (zt (k:=0) O O aK (by first | rfl | omega) hu1) (g' 2 O ?_));refine tAnd 3 3 (c:=decide ((3:Int)<=((s.size:Nat):Int))) O O O O O O (λhb7 nx8=>?_) ?_
 · have hf9:=aF hb7;refine g' 1 O (tG O (zw O aK) (g' 1 O ?_));exact nx8 _ O O (kx 3 O O)
 refine g' 3 O ?_;refine tC O (λhc10=>?_) (λhc10=>?_)
 · simp only[bX,bJ] at hc10;refine g' 1 O (T.keep [0,2,3,6,7,8,9,10,11,12,13,17,20,21,22,23,24,25,26,27,28,32] O ?_);obtain ⟨u2,hu2⟩:=zaM s 1 (by omega);have hlu2:=u2.toNat_lt;obtain ⟨u3,hu3⟩:=zaM s 2 (by omega);have hlu3:=u3.toNat_lt;refine tDr 5 [(33,.s s,none),(34,.v (.int .u8 ((u2.toNat:Nat):Int)),none),(35,dI (hexI u2.toNat),none),(36,.s s,none),(37,.v (.int .u8 ((u3.toNat:Nat):Int)),none)] [] (Hn:=[]) mixed O O O O w9 O ⟨sa_p O O O (zk O),sa_p O O O (zt (k:=1) O O aK (by first | rfl | omega) hu2),sa_q O O O (zbu O (gc (gc .nil)) Tryz.call218 (lA u2.toNat) zaI),sa_p O O O (zk O),sa_p O O O (zt (k:=2) O O aK (by first | rfl | omega) hu3),trivial⟩ (tK O (tW O acs (lA u3.toNat) (g' 9 O ?_)));refine tAnd 2 2 (c:=decide ((0:Int)<=hexI u3.toNat)) O O O O O O (λhb11 nx12=>?_) ?_
   · have hf13:=aF hb11;refine g' 2 O ?_;exact nx12 _ O O (kx 2 O O)
   refine g' 2 O ?_;refine tC O (λhc14=>?_) (λhc14=>?_)
   · simp only[bX,bJ] at hc14;have hxa:=oO u2.toNat (by omega);obtain ⟨a,ha⟩:∃ n:Nat,hexI u2.toNat=(n:Int):=⟨(hexI u2.toNat).toNat,by omega⟩;have hxb:=oO u3.toNat (by omega);obtain ⟨b,hb⟩:∃ n:Nat,hexI u3.toNat=(n:Int):=⟨(hexI u3.toNat).toNat,by omega⟩;refine T.sub [(0,.s s),(2,cC),(3,dI 0),(4,dN a),(5,dN b),(7,.s s),(10,.s s),(11,.v (.int .u8 ((u1.toNat:Nat):Int))),(21,.s s),(22,.v (.int .u8 ((u1.toNat:Nat):Int))),(25,.s s),(26,.v (.int .u8 ((u1.toNat:Nat):Int))),(33,.s s),(34,.v (.int .u8 ((u2.toNat:Nat):Int))),(35,dI (hexI u2.toNat)),(36,.s s),(37,.v (.int .u8 ((u3.toNat:Nat):Int))),(38,dI (hexI u3.toNat)),(39,dI (hexI u2.toNat))] ⟨sk O,sk O,sk O,sc O (Cv.eq (aG dI ha)),sc O (Cv.eq (aG dI hb)),sk O,sk O,sk O,sk O,sk O,sk O,sk O,sk O,sk O,sk O,sk O,sk O,sk O,sk O,trivial⟩ (g' 3 O (tP O (aZ5 (a:=a) O O (by omega)) (g' 1 O (tP O (aY2 (a:=a) (b:=b) O O (by omega) (by omega)) (tP O (za3 O (c:=((a*16+b:Nat):Int)) (aIz (by omega))) (tE O (zL [.tmp 49] O O (.cons (CellD.v O) .nil) O aS bO bN O O O O) ?_))))));rintro _ _ ⟨g15,rfl,rfl⟩;refine tP O ((aAp (j:=0) (xs:=[((a*16+b:Nat):Int)]) O O (by simp) zbP (by kernel_rfl) (by kernel_rfl)).cv (Cv.str (by rw[strOfNums_size];show 1<=maxLen;decide))) (g' 7 O ?_);exact tRs O results198 (.cons (zd (zc O) (Cv.eq (aG D.s (by have T:=aW6 (a:=a) (b:=b) hz (by rw[<-(zM hu1)];have:=hc5;omega) (by rw[<-(zM hu1)];have:=hc6;omega) ⟨by rw[<-(zM hu1)];have:=hc10.1;omega,by have:=hc10.2;omega⟩ (by rw[<-zM hu2];exact ha) (by rw[<-zM hu3];exact hb);first | (rw[pS (by omega)];exact T.1) | exact T.2)))) (.cons (zd (zc O) (Cv.eq (aG dN (by have T:=aW6 (a:=a) (b:=b) hz (by rw[<-(zM hu1)];have:=hc5;omega) (by rw[<-(zM hu1)];have:=hc6;omega) ⟨by rw[<-(zM hu1)];have:=hc10.1;omega,by have:=hc10.2;omega⟩ (by rw[<-zM hu2];exact ha) (by rw[<-zM hu3];exact hb);first | (rw[pS (by omega)];exact T.1) | exact T.2)))) .nil)) O mO ⟨O,O⟩
   simp only[bX,bJ] at hc14;refine g' 10 O ?_;exact tRs rfl results198 (.cons (zd (zc rfl) ((cS).trans (Cv.eq (aG D.s (by have T:=zgP hz (by rw[<-(zM hu1)];have:=hc5;omega) (by rw[<-(zM hu1)];have:=hc6;omega) (λe=>by have h3:=e.2.2.1;have h4:=e.2.2.2;rw[<-zM hu2] at h3;rw[<-zM hu3] at h4;rcases hc14 with h | h<;>omega);first | exact T.1 | exact T.2))))) (.cons (zd (zc rfl) (Cv.eq (aG dN (by have T:=zgP hz (by rw[<-(zM hu1)];have:=hc5;omega) (by rw[<-(zM hu1)];have:=hc6;omega) (λe=>by have h3:=e.2.2.1;have h4:=e.2.2.2;rw[<-zM hu2] at h3;rw[<-zM hu3] at h4;rcases hc14 with h | h<;>omega);first | exact T.1 | exact T.2)))) .nil)) rfl mO ⟨rfl,rfl⟩
 simp only[bX,bJ] at hc10;refine g' 10 O ?_;exact tRs rfl results198 (.cons (zd (zc rfl) ((cS).trans (Cv.eq (aG D.s (by have T:=zgP hz (by rw[<-(zM hu1)];have:=hc5;omega) (by rw[<-(zM hu1)];have:=hc6;omega) (λe=>by have h3:=e.1;have h4:=e.2.1;rw[<-(zM hu1)] at h3;rcases hc10 with h | h<;>omega);first | exact T.1 | exact T.2))))) (.cons (zd (zc rfl) (Cv.eq (aG dN (by have T:=zgP hz (by rw[<-(zM hu1)];have:=hc5;omega) (by rw[<-(zM hu1)];have:=hc6;omega) (λe=>by have h3:=e.1;have h4:=e.2.1;rw[<-(zM hu1)] at h3;rcases hc10 with h | h<;>omega);first | exact T.1 | exact T.2)))) .nil)) rfl mO ⟨rfl,rfl⟩
theorem aLq (s:ByteArray) (h2:2<=s.size) (hs:s.size<=1000000):
 CD prog 178 [] [.s s] (isR (.tup [D.s (unqT s),dB (zcm s)])):=by
 refine tZ func178 O O (λC=>?_);refine T.bd 0 O (λbd0=>?_);have sz0:s.size<=9223372036854775807:=bd0;have hts:=gE s;refine g' 8 O (tE O (zfe (zv:=cL) (X:=.agg [.v (.pointer none),.ov (.slice none 0 0)]) zeroValue213 ⟨O,O,trivial⟩ ((w8 (by decide)).trans (Cv.agg (gc (.cons (Cv.ov O) .nil))))) ?_);rintro _ _ ⟨g1,rfl,rfl⟩;refine m8 (HSub.nil 1 5) (g' 6 O (tW O acs (aVj s) (g' 4 O (kA 1 O (tl4 (λ(a_:ByteArray) (b_:Value) (c_:Value) (d_:List UInt8)=>[(0,.s s),(4,dP g1 0),(5,.s a_)]) (λa_ b_ c_ d_=>[.bx g1 213 (.agg [.v b_,.ov c_]),.sl c_ 1 5 (d_.map dU8)]) (λa_ b_ c_ d_=>(b_=.pointer none\/b_=.pointer (some ⟨g1,0,none⟩))/\(UInv (zdn s) a_ d_)/\(a_.size<=s.size)/\(d_.length+a_.size<=s.size)/\(d_=[]->a_.size=(zdn s).size)) (λa_ b_ c_ d_=>a_.size) (zdn s) (.pointer none) (.slice none 0 0) [] O (sa O) w9 ⟨.inl O,UInv.zero _,hts.2,by show 0+(zdn s).size<=s.size;omega,λ_=>rfl⟩ ?_)))));rintro r pv ov bs ⟨hp,hu,hr,hb,hn⟩;have hts:=gE s;refine g' 7 O ?_;refine tD O (λhc2=>?_) (λhc2=>?_)
 · have hz:=aIo hc2;have hex0:(r.extract 1 r.size).size=r.size-1:=(by rw[cR];omega);refine g' 7 O ?_;obtain ⟨u1,hu1⟩:=zaM r 0 (by omega);have hlu1:=u1.toNat_lt;refine tP O (zt (k:=0) O O aK (by first | rfl | omega) hu1) (g' 3 O ?_);refine tD O (λhc3=>?_) (λhc3=>?_)
   · refine g' 3 O (tP O (zt (k:=0) O O aK (by first | rfl | omega) hu1) (tX [0,0] O O acs (zcS g1 pv ov bs u1 hp (by (try simp only[la,lc,ln]);omega)) ?_));rintro _ _ ⟨bv4,rfl,rfl⟩;refine g' 5 O (tP O (zK (a:=1) (c:=r.size) O O O (by first | rfl | (show _=_;omega)) (by first | rfl | (show _=_;omega)) aK (by omega) (by omega)) (g' 6 O ?_));exact tp4 (r.extract 1 r.size) (.pointer (some ⟨g1,0,none⟩)) bv4 (bs++[u1]) (sa O) w9 ⟨.inr O,hu.raw hu1 (aSz hc3),by simp only[cR];omega,by simp only[la,lc,ln,zbq,cR];omega,by intro e;have:=aG List.length e;simp only[la,lc,ln,zbq] at this;omega⟩ (by simp only[cR];omega)
   refine g' 5 O (tP O (zK (a:=1) (c:=r.size) O O O (by first | rfl | (show _=_;omega)) (by first | rfl | (show _=_;omega)) aK (by omega) (by omega)) (tW O acs (aIy (r.extract 1 r.size) (by omega)) (g' 14 O ?_)));refine tD O (λhc5=>?_) (λhc5=>?_)
   · refine g' 12 O ?_;exact tRs O results178 (.cons (zd (zc O) ((cS).trans (Cv.eq (aG D.s (by have T:=aYe (hu.none (by rw[hu1,aVq (u:=u1) (by have:=hc3;omega)]) (by have:=hc5;omega));first | exact T.1 | exact T.2))))) (.cons (zd (zc O) (cB ((by have T:=aYe (hu.none (by rw[hu1,aVq (u:=u1) (by have:=hc3;omega)]) (by have:=hc5;omega));first | exact T.1 | exact T.2)))) .nil)) O mO ⟨O,O⟩
   obtain ⟨hes,hes1,hes2⟩:=aK0 (r.extract 1 r.size);have hex1:(r.extract 1 r.size).size=r.size-1:=(by rw[cR];omega);refine g' 5 O (tX [0,0] O O acs (zca g1 pv ov bs (escT (r.extract 1 r.size)) hp (by (try simp only[la,lc,ln]);omega) (by first | decide | omega)) ?_);rintro _ _ ⟨bv6,rfl,rfl⟩;refine g' 5 O (tP O (zE (c:=((1+(escN (r.extract 1 r.size)):Nat):Int)) O O (zp (by omega) (by omega))) (tP O (zK (a:=1+(escN (r.extract 1 r.size))) (c:=r.size) O O O (by first | rfl | (show _=_;omega)) (by first | rfl | (show _=_;omega)) aK (by omega) (by omega)) (g' 3 O ?_)));exact tp4 (r.extract (1+(escN (r.extract 1 r.size))) r.size) (.pointer (some ⟨g1,0,none⟩)) bv6 (bs++(escT (r.extract 1 r.size)).data.toList) (sa O) w9 ⟨.inr O,hu.esc (by rw[hu1,aVq (u:=u1) (by have:=hc3;omega)]) (by have:=hc5;omega),by simp only[cR];omega,by simp only[la,lc,ln,zbq,cR];omega,by intro e;have:=aG List.length e;simp only[la,lc,ln,zbq] at this;omega⟩ (by simp only[cR];omega)
 have hre:r=ByteArray.empty:=Decidable.byContradiction hc2;have htz:=aE8 ⟨bs.toArray⟩;have hbz:(⟨bs.toArray⟩:ByteArray).size=bs.length:=zah bs;have hdn:=hu.done hre;have hne:bs≠[]:=λe=>by have h1:=hn e;rw[hre] at h1;have h2:(ByteArray.empty).size=0:=rfl;have hts:=gE s;omega
 refine g' 7 O (tX [0,0] O O acs (pA g1 pv ov bs hne) ?_);rintro _ _ ⟨rfl,rfl⟩;refine tW O acs (aUx (⟨bs.toArray⟩)) (g' 7 O (tW O acs (aJx (zek (⟨bs.toArray⟩)) (by omega)) (g' 4 O ?_)));refine tD O (λhc7=>?_) (λhc7=>?_)
 · refine g' 8 O ?_;exact tRs O results178 (.cons (zd (zc O) ((cS).trans (Cv.eq (aG D.s (by have T:=aX8 hdn (by simpa using hc7);first | exact T.1 | exact T.2))))) (.cons (zd (zc O) (cB ((by have T:=aX8 hdn (by simpa using hc7);first | exact T.1 | exact T.2)))) .nil)) O mO ⟨O,O⟩
 refine g' 10 O ?_;exact tRs O results178 (.cons (zd (zc O) (Cv.eq (aG D.s (by have T:=aXx (s:=s) (o:=bs) (by simpa using hc7);first | exact T.1 | exact T.2)))) (.cons (zd (zc O) (cB ((by have T:=aXx (s:=s) (o:=bs) (by simpa using hc7);first | exact T.1 | exact T.2)))) .nil)) O mO ⟨O,O⟩
end Lp
