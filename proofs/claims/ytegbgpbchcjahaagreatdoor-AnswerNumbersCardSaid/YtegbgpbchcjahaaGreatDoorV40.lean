import Derived.Test.YtegbgpbchcjahaaGreatDoorV8
set_option linter.all false
set_option maxHeartbeats 4000000
set_option maxRecDepth 100000
namespace Lp
open Go Go.RowKit Go.Proofs Tryz
def zav:BdP prog #[⟨"Kind",3,0,false, "", "",0⟩,⟨"At",3,1,false, "", "",8⟩,⟨"Text",9,2,false, "", "",16⟩] [(0,1),(1,1),(2,1)]:=λ_=>by kernel_rfl
def aMt (ns:List Int) (n:Int) :
 CD prog 136 [] [.sh 1 (ns.map dI),dI n] (isR (dI (idxI n 0 ns))):=by
 refine tZ func136 O O (λC=>?_);refine T.bd 0 O (λbd0=>?_);have nl0:=zy bd0;refine g' 9 O (tP O (zH (n:=ns.length) O aT (by simp only[lm,lc,ln])) (g' 4 O (tl1 (λ(a_:Nat)=>[(0,.sh 1 (ns.map dI)),(1,dI n),(7,dN ns.length),(8,dN a_)]) (λa_=>[]) (λa_=>(idxI n 0 ns=idxI n a_ (ns.drop a_))) (λa_=>ns.length-a_) 0 O (sa O) w8 O ?_)));rintro k hf;refine g' 6 O ?_;refine tD O (λhc1=>?_) (λhc1=>?_)
 · refine g' 15 O ?_;obtain ⟨x1,hx1⟩:=zi ns k (by omega);refine tP O (zf (k:=k) O O aT bY (by first | rfl | omega) (zd hx1)) (g' 4 O ?_);refine tD O (λhc2=>?_) (λhc2=>?_)
   · refine g' 12 O ?_;exact tRs O results136 (.cons (zc (za O) (w6 (aG (λn=>D.v (.int .i64 n)) (by exact aQj hx1 hf hc2)))) .nil) O HSub.none ⟨O,O⟩
   refine g' 4 O (tP O (zq (c:=((k+1:Nat):Int)) O O (zh (by omega) (by omega))) (g' 2 O ?_));exact tp1 (k+1) (sa O) w8 (aF1 hx1 hf hc2) (by omega)
 refine g' 11 O ?_;exact tRs O results136 (.cons (zc (za O) (w6 (aG (λn=>D.v (.int .i64 n)) (by exact aMh (by omega) hf)))) .nil) O HSub.none ⟨O,O⟩
def xL (ns:List Int) (n:Int) :
 CD prog 90 [] [.sh 1 (ns.map dI),dI n] (isR (dB (hasI ns n))):=by
 refine tZ func90 O O (λC=>?_);refine T.bd 0 O (λbd0=>?_);have nl0:=zy bd0;refine g' 9 O (tW O acs (aMt ns n) (g' 5 O ?_));exact tRs O results90 (.cons (zc (za O) (cB ((by exact aCc n ns 0)))) .nil) O HSub.none ⟨O,O⟩
def aMe (ns:List Ba) (n:Ba) :
 CD prog 144 [] [.sh 1 (ns.map D.s),.s n] (isR (dI (idxN n 0 ns))):=by
 refine tZ func144 O O (λC=>?_);refine T.bd 0 O (λbd0=>?_);have nl0:=zy bd0;refine T.bd 1 O (λbd1=>?_);have sz1:n.size<=9223372036854775807:=bd1;refine g' 9 O (tP O (zH (n:=ns.length) O bK (by simp only[lm,lc,ln])) (g' 4 O (tl1 (λ(a_:Nat)=>[(0,.sh 1 (ns.map D.s)),(1,.s n),(7,dN ns.length),(8,dN a_)]) (λa_=>[]) (λa_=>(idxN n 0 ns=idxN n a_ (ns.drop a_))) (λa_=>ns.length-a_) 0 O (sa O) w8 O ?_)));rintro k hf;refine g' 6 O ?_;refine tD O (λhc1=>?_) (λhc1=>?_)
 · refine g' 15 O ?_;obtain ⟨x1,hx1⟩:=zi ns k (by omega);refine tP O (zf (k:=k) O O bK eE (by first | rfl | omega) (zd hx1)) (g' 4 O ?_);refine tD O (λhc2=>?_) (λhc2=>?_)
   · refine g' 12 O ?_;exact tRs O results144 (.cons (zc (za O) (w6 (aG (λn=>D.v (.int .i64 n)) (by exact aQz hx1 hf hc2)))) .nil) O HSub.none ⟨O,O⟩
   refine g' 4 O (tP O (zq (c:=((k+1:Nat):Int)) O O (zh (by omega) (by omega))) (g' 2 O ?_));exact tp1 (k+1) (sa O) w8 (aFt hx1 hf hc2) (by omega)
 refine g' 11 O ?_;exact tRs O results144 (.cons (zc (za O) (w6 (aG (λn=>D.v (.int .i64 n)) (by exact aMs (by omega) hf)))) .nil) O HSub.none ⟨O,O⟩
def zdq (ns:List Ba) (n:Ba) :
 CD prog 100 [] [.sh 1 (ns.map D.s),.s n] (isR (dB (hasN ns n))):=by
 refine tZ func100 O O (λC=>?_);refine T.bd 0 O (λbd0=>?_);have nl0:=zy bd0;refine T.bd 1 O (λbd1=>?_);have sz1:n.size<=9223372036854775807:=bd1;refine g' 9 O (tW O acs (aMe ns n) (g' 5 O ?_));exact tRs O results100 (.cons (zc (za O) (cB ((by exact aAs n ns 0)))) .nil) O HSub.none ⟨O,O⟩
def zgN (s:Ba) (ks:List Int) :
 CD prog 54 [] [.s s,.sh 1 (ks.map dI)] (isR (dN (runL (inK ks) (bl8 s)))):=by
 refine tZ func54 O O (λC=>?_);refine T.bd 0 O (λbd0=>?_);have sz0:s.size<=9223372036854775807:=bd0;refine T.bd 1 O (λbd1=>?_);have nl1:=zy bd1;refine g' 9 O (tE O (zd6 O aN) ?_);rintro _ _ ⟨g1,rfl,rfl⟩;refine g' 3 O (tl1 (λ(a_:Nat)=>[(0,.s s),(1,.sh 1 (ks.map dI)),(8,dP g1 0)]) (λa_=>[.it g1 s a_]) (λa_=>(a_<=s.size)/\(runL (inK ks) (bl8 s)=a_+runL (inK ks) (bts s a_))) (λa_=>s.size-a_) 0 O (sa O) w8 ⟨cT _,tM⟩ ?_);rintro p ⟨hp,hf⟩;rcases cZ p s.size with hlt | hge
 · have hrune:=zaw hlt;have hrl:=zcW s p;have hdw:=zaK s p hlt;have hdp:=z6 s p;refine g' 2 O (tE O (zde (i:=0) O O hlt) ?_);rintro _ _ ⟨rfl,rfl⟩;refine g' 20 O (tW O acs (aB6 ((decR s p:Nat):Int)) (tW O acs (xL ks (zC ((decR s p:Nat):Int))) (g' 3 O ?_)));refine tC O (λhc2=>?_) (λhc2=>?_)
   · simp only[bX,bJ] at hc2;refine g' 11 O ?_;exact tRs O results54 (.cons (zc (za O) (w6 (aG dN (by exact qT hf (by have h0:=hc2;rw[<-aAn];simpa using h0))))) .nil) O HSub.none ⟨O,O⟩
   simp only[bX,bJ] at hc2;refine g' 2 O ?_;exact tp1 (p+decW s p) (sa O) w8 ⟨by have:=zaK s p hlt;omega,aCr hf hlt (by have h0:=hc2;rw[<-aAn];simpa using h0)⟩ (by have:=z6 s p;omega)
 have hrune:=za2 hge;refine g' 2 O (tP O (zdW (i:=0) O O hge) (g' 13 O (tP O (zah O aN) (g' 4 O ?_))));exact tRs O results54 (.cons (zc (za O) (w6 (aG dN (by exact xV hf hge hp)))) .nil) O HSub.none ⟨O,O⟩
def aV6 (s:Ba) (hs:s.size<=1000000):
 CD prog 93 [] [.s s] (isR (.tup [TokD.d ((zca (bl8 s)).1),dN ((zca (bl8 s)).2)])):=by
 refine tZ func93 O O (λC=>?_);refine T.bd 0 O (λbd0=>?_);have sz0:s.size<=9223372036854775807:=bd0;have hn:=zbk (inK [1,2]) s;refine g' 2 O ?_;refine tA O (λg1=>?_);refine g' 6 O (tE O (Qu.ef (d:=.sh 1 ([1,2].map dI)) (zp [.const (.int .i64 1),.const (.int .i64 2)] O O (.cons (CellD.v O) (.cons (CellD.v O) .nil)) O aT bY eH O O O O)) ?_);rintro _ _ ⟨rfl,rfl⟩;refine tW O acs (zgN s [1,2]) (g' 8 O (tP O (z7 (a:=0) (c:=runL (inK [1,2]) (bl8 s)) O O O (by first | rfl | (show _=_;omega)) (by first | rfl | (show _=_;omega)) aN (by omega) (by omega)) (tW O acs (zgi (s.extract 0 (runL (inK [1,2]) (bl8 s)))) (g' 3 O ?_))));refine tC O (λhc2=>?_) (λhc2=>?_)
 · simp only[bX,bJ] at hc2;refine g' 2 O (tP O (zm [] [] (zv:=cD) O O (.nil) (aR) aS zav ⟨O,O,O,trivial⟩ O) (gQ 6 [0] O O ?_));exact tRs O results93 (.cons (zc (zu (X:=.agg [dI 0,dI 0,cC]) (d:=.agg [dI 0,dI 0,cC]) (i:=0) O O aZ aP O O) ((Cv.agg (gc (gc (.cons (cS) .nil)))).trans (w6 (aG TokD.d (show (TokD.mk 0 0 ByteArray.empty)=(zca (bl8 s)).1 from(by rw[aHc (by simpa using hc2)];try rfl)))))) (.cons (zc (za O) (w6 (aG dN (by rw[aHc (by simpa using hc2)];try rfl)))) .nil)) O HSub.none ⟨O,O⟩
 simp only[bX,bJ] at hc2;refine g' 6 O (tP O (z7 (a:=0) (c:=runL (inK [1,2]) (bl8 s)) O O O (by first | rfl | (show _=_;omega)) (by first | rfl | (show _=_;omega)) aN (by omega) (by omega)) (tP O (zm [0,2] [.const (.int .i64 1),.tmp 16] (zv:=cD) O O (.cons (CellD.v O) (.cons CellD.s .nil)) (aR) aS zav ⟨O,O,O,trivial⟩ O) (gQ 6 [0] O O ?_)));exact tRs O results93 (.cons (zc (zu (X:=.agg [dI 1,dI 0,.s (s.extract 0 (runL (inK [1,2]) (bl8 s)))]) (d:=.agg [dI 1,dI 0,.s (s.extract 0 (runL (inK [1,2]) (bl8 s)))]) (i:=0) O O aZ aP O O) (w6 (aG TokD.d (show (TokD.mk 1 0 (s.extract 0 (runL (inK [1,2]) (bl8 s))))=(zca (bl8 s)).1 from(by rw[aG8 (by simpa using hc2)];try rfl))))) (.cons (zc (za O) (w6 (aG dN (by rw[aG8 (by simpa using hc2)];try rfl)))) .nil)) O HSub.none ⟨O,O⟩
def aGv (s:Ba) :
 CD prog 138 [] [.s s] (isR (dN (secB s))):=by
 refine tZ func138 O O (λC=>?_);refine T.bd 0 O (λbd0=>?_);have sz0:s.size<=9223372036854775807:=bd0;refine g' 18 O ?_;refine tD O (λhc1=>?_) (λhc1=>?_)
 · refine g' 8 O ?_;exact tRs O results138 (.cons (zc (za O) (w6 (aG dN (by unfold secB;simp[*])))) .nil) O HSub.none ⟨O,O⟩
 refine g' 6 O ?_;refine tD O (λhc2=>?_) (λhc2=>?_)
 · refine g' 8 O ?_;exact tRs O results138 (.cons (zc (za O) (w6 (aG dN (by unfold secB;simp[*])))) .nil) O HSub.none ⟨O,O⟩
 refine g' 6 O ?_;refine tD O (λhc3=>?_) (λhc3=>?_)
 · refine g' 8 O ?_;exact tRs O results138 (.cons (zc (za O) (w6 (aG dN (by unfold secB;simp[*])))) .nil) O HSub.none ⟨O,O⟩
 refine g' 9 O ?_;exact tRs O results138 (.cons (zc (za O) (w6 (aG dN (by unfold secB;simp[*])))) .nil) O HSub.none ⟨O,O⟩
def aSq  :
 CD prog 140 [] [] (isR ((D.ls 1 D.s) zam)):=by
 refine tZ func140 O O (λC=>?_);refine g' 7 O ?_;refine tE O (Qu.ef (d:=.sh 1 ([(⟨#[61,61]⟩:Ba),(⟨#[33,61]⟩:Ba),(⟨#[60,61]⟩:Ba),(⟨#[62,61]⟩:Ba),(⟨#[61,126]⟩:Ba),(⟨#[33,126]⟩:Ba),(⟨#[43]⟩:Ba),(⟨#[45]⟩:Ba),(⟨#[42]⟩:Ba),(⟨#[47]⟩:Ba),(⟨#[37]⟩:Ba),(⟨#[40]⟩:Ba),(⟨#[41]⟩:Ba),(⟨#[123]⟩:Ba),(⟨#[125]⟩:Ba),(⟨#[91]⟩:Ba),(⟨#[93]⟩:Ba),(⟨#[44]⟩:Ba),(⟨#[61]⟩:Ba),(⟨#[60]⟩:Ba),(⟨#[62]⟩:Ba)].map D.s)) ((zp [.const (.string ⟨#[61,61]⟩),.const (.string ⟨#[33,61]⟩),.const (.string ⟨#[60,61]⟩),.const (.string ⟨#[62,61]⟩),.const (.string ⟨#[61,126]⟩),.const (.string ⟨#[33,126]⟩),.const (.string ⟨#[43]⟩),.const (.string ⟨#[45]⟩),.const (.string ⟨#[42]⟩),.const (.string ⟨#[47]⟩),.const (.string ⟨#[37]⟩),.const (.string ⟨#[40]⟩),.const (.string ⟨#[41]⟩),.const (.string ⟨#[123]⟩),.const (.string ⟨#[125]⟩),.const (.string ⟨#[91]⟩),.const (.string ⟨#[93]⟩),.const (.string ⟨#[44]⟩),.const (.string ⟨#[61]⟩),.const (.string ⟨#[60]⟩),.const (.string ⟨#[62]⟩)] O O (.cons (CellD.v O) (.cons (CellD.v O) (.cons (CellD.v O) (.cons (CellD.v O) (.cons (CellD.v O) (.cons (CellD.v O) (.cons (CellD.v O) (.cons (CellD.v O) (.cons (CellD.v O) (.cons (CellD.v O) (.cons (CellD.v O) (.cons (CellD.v O) (.cons (CellD.v O) (.cons (CellD.v O) (.cons (CellD.v O) (.cons (CellD.v O) (.cons (CellD.v O) (.cons (CellD.v O) (.cons (CellD.v O) (.cons (CellD.v O) (.cons (CellD.v O) .nil))))))))))))))))))))) O bK eE bW O O O O).cv (mN (.cons cS (.cons cS (.cons cS (.cons cS (.cons cS (.cons cS (.cons cS (.cons cS (.cons cS (.cons cS (.cons cS (.cons cS (.cons cS (.cons cS (.cons cS (.cons cS (.cons cS (.cons cS (.cons cS (.cons cS (.cons cS .nil)))))))))))))))))))))))) ?_;rintro _ _ ⟨rfl,rfl⟩;refine g' 4 O ?_;exact tRs O results140 (.cons (zc (za O) (w6 (aG (D.ls 1 D.s) (show [(⟨#[61,61]⟩:Ba),(⟨#[33,61]⟩:Ba),(⟨#[60,61]⟩:Ba),(⟨#[62,61]⟩:Ba),(⟨#[61,126]⟩:Ba),(⟨#[33,126]⟩:Ba),(⟨#[43]⟩:Ba),(⟨#[45]⟩:Ba),(⟨#[42]⟩:Ba),(⟨#[47]⟩:Ba),(⟨#[37]⟩:Ba),(⟨#[40]⟩:Ba),(⟨#[41]⟩:Ba),(⟨#[123]⟩:Ba),(⟨#[125]⟩:Ba),(⟨#[91]⟩:Ba),(⟨#[93]⟩:Ba),(⟨#[44]⟩:Ba),(⟨#[61]⟩:Ba),(⟨#[60]⟩:Ba),(⟨#[62]⟩:Ba)]=zam from(by rfl))))) .nil) O HSub.none ⟨O,O⟩
def aYj (s:Ba) (hs:s.size<=1000000):
 CD prog 96 [] [.s s] (isR (.tup [TokD.d ((zbI (bl8 s)).1),dN ((zbI (bl8 s)).2)])):=by
 refine tZ func96 O O (λC=>?_);refine T.bd 0 O (λbd0=>?_);have sz0:s.size<=9223372036854775807:=bd0;have hsl:zam.length=21:=rfl;refine g' 2 O ?_;refine tA O (λg1=>?_);refine g' 6 O (tW O acs (aSq) (tP O (zH (n:=zam.length) O bK (by simp only[lm,lc,ln])) (g' 4 O (tl1 (λ(a_:Nat)=>[(0,.s s),(2,dP g1 0),(6,.sh 1 (zam.map D.s)),(7,dN zam.length),(8,dN a_)]) (λa_=>[.bx g1 107 (.agg [dI 0,dI 0,cC])]) (λa_=>(zak zam (bl8 s)=zak (zam.drop a_) (bl8 s))) (λa_=>zam.length-a_) 0 O (sa O) w8 O ?_))));rintro k hf;refine g' 6 O ?_;refine tD O (λhc2=>?_) (λhc2=>?_)
 · refine g' 6 O ?_;obtain ⟨x1,hx1⟩:=zi zam k (by omega);refine tP O (zf (k:=k) O O bK eE (by first | rfl | omega) (zd hx1)) (g' 8 O (tW O acs (yT s x1) (g' 2 O ?_)));refine tC O (λhc3=>?_) (λhc3=>?_)
   · refine g' 3 O (tP O (zm [0,2] [.const (.int .i64 5),.tmp 15] (zv:=cD) O O (.cons (CellD.v O) (.cons CellD.s .nil)) (aR) aS zav ⟨O,O,O,trivial⟩ O) (g' 1 O (tP O (zah O aN) (gQ 10 [0] O O ?_))));exact tRs O results96 (.cons (zc (zu (X:=.agg [dI 5,dI 0,.s x1]) (d:=.agg [dI 5,dI 0,.s x1]) (i:=0) O O aZ aP O O) (w6 (aG TokD.d (show (TokD.mk 5 0 x1)=(zbI (bl8 s)).1 from(by unfold zbI;rw[rN hx1 hf (by simpa using hc3)];try rfl))))) (.cons (zc (za O) (w6 (aG dN (by unfold zbI;rw[rN hx1 hf (by simpa using hc3)];try rfl)))) .nil)) O HSub.none ⟨O,O⟩
   refine g' 4 O (tP O (zq (c:=((k+1:Nat):Int)) O O (zh (by omega) (by omega))) (g' 2 O ?_));exact tp1 (k+1) (sa O) w8 (yL hx1 hf (by simpa using hc3)) (by omega)
 refine g' 7 O (tP O (zm [] [] (zv:=cD) O O (.nil) (aR) aS zav ⟨O,O,O,trivial⟩ O) (gQ 5 [0] O O ?_));exact tRs O results96 (.cons (zc (zu (X:=.agg [dI 0,dI 0,cC]) (d:=.agg [dI 0,dI 0,cC]) (i:=0) O O aZ aP O O) ((Cv.agg (gc (gc (.cons (cS) .nil)))).trans (w6 (aG TokD.d (show (TokD.mk 0 0 ByteArray.empty)=(zbI (bl8 s)).1 from(by unfold zbI;rw[nU hf (by omega)];try rfl)))))) (.cons (zc (za O) (w6 (aG dN (by unfold zbI;rw[nU hf (by omega)];try rfl)))) .nil)) O HSub.none ⟨O,O⟩
end Lp
namespace Lp
open Go
def eS {b:UInt8} {t:List UInt8} (h:¬b.toNat<128):128<=(decL (b::t)).1/\128<=b.toNat:=by
 have h0:gb (b::t) 0=b.toNat:=rfl;have hb:b.toNat<256:=uY _;refine⟨?_,by omega⟩;unfold decL;rw[h0,aA h];split
 · split
   · show 128<=_;omega
   show 128<=65533;omega
 split
 · split
   · rename_i h3;simp only[cU,aI] at h3;show 128<=_;have:=h3.1;omega
   show 128<=65533;omega
 split
 · split
   · rename_i h3;simp only[cU,aI] at h3;show 128<=_;have:=h3.1;omega
   show 128<=65533;omega
 show 128<=65533;omega
def qB:∀ (xs:List Ba) (k:Nat) (l:List UInt8),(∀ x∈xs,x.size=k)->zak xs l=if k<=l.length/\hasN xs (mkB (l.take k))=true then(⟨5,0,mkB (l.take k)⟩,k) else(zbo,0)
 | [],k,l,_=>by simp[zak,hasN]
 | x::xs,k,l,h=>by
  have hx:=h x cR;have ih:=qB xs k l (λy hy=>h y (cV _ hy));unfold zak;by_cases hp:(bl8 x).isPrefixOf l=true
  · rw[aB hp];rw[uR] at hp;have hl:=hp.length_le;rw[zar,hx] at hl;have e:mkB (l.take k)=x:=by
     obtain ⟨t,rfl⟩:=hp;rw[wQ (by rw[zar,hx]),aAk]
    rw[aB ⟨hl,by rw[e];simp[hasN]⟩,e,hx]
  rw[aA hp,ih];have hn:k<=l.length->¬mkB (l.take k)=x:=λhl e=>hp (by
   rw[uR];refine⟨l.drop k,?_⟩;rw[<-e,zdv,dF])
  have e:(k<=l.length/\hasN (x::xs) (mkB (l.take k))=true)↔(k<=l.length/\hasN xs (mkB (l.take k))=true):=by
   constructor
   · rintro ⟨h1,h2⟩;refine⟨h1,?_⟩;have h3:=hn h1;simp only[hasN,jY,jJ,aI] at h2 ⊢;rcases h2 with h2 | h2
     · first | exact aH h2 h3 | exact aH h2.symm h3
     exact h2
   rintro ⟨h1,h2⟩;refine⟨h1,?_⟩;simp only[hasN,jY,jJ,aI] at h2 ⊢;exact .inr h2
  simp only[e]
def kP {x:Ba} {xs:List Ba} {l:List UInt8}:zak (x::xs) l=if (bl8 x).isPrefixOf l=true then(⟨5,0,x⟩,x.size) else zak xs l:=by
 conv=>lhs;unfold zak
def lO:∀ (xs ys:List Ba) (l:List UInt8),(∀ x∈xs,0<x.size)->zak (xs++ys) l=if (zak xs l).2=0 then zak ys l else zak xs l
 | [],ys,l,_=>by
  have e:(zak [] l).2=0:=rfl;show zak ys l=_;rw[aB e]
 | x::xs,ys,l,h=>by
  have hx:=h x cR;have ih:=lO xs ys l (λy hy=>h y (cV _ hy));show zak (x::(xs++ys)) l=_;rw[kP,kP];by_cases hp:(bl8 x).isPrefixOf l=true
  · rw[aB hp,aB hp,aA (by show ¬x.size=0;omega)]
  rw[aA hp,aA hp,ih]
def zf7:List Ba:=zam.take 6
def zf8:List Ba:=zam.drop 6
def sP {l:List UInt8}:zbI l=if 2<=l.length/\hasN zam (mkB (l.take 2))=true then(⟨5,0,mkB (l.take 2)⟩,2) else if 1<=l.length/\hasN zam (mkB (l.take 1))=true then(⟨5,0,mkB (l.take 1)⟩,1) else(zbo,0):=by
 have h2:∀ x∈zf7,x.size=2:=by decide
 have h1:∀ x∈zf8,x.size=1:=by decide
 have e:zam=zf7++zf8:=rfl;have hh:∀ (y:Ba),hasN zam y=(hasN zf7 y||hasN zf8 y):=λy=>by rw[e];simp[hasN]
 have no:∀ (xs:List Ba) (k:Nat) (y:Ba),(∀ x∈xs,x.size=k)->y.size≠k->hasN xs y=false:=λxs k y h hy=>by
  unfold hasN;rw[List.any_eq_false];intro x hx e;rw[aI] at e;exact hy (by first | (rw[e];exact h x hx) | (rw[<-e];exact h x hx))
 have k2:2<=l.length->hasN zam (mkB (l.take 2))=hasN zf7 (mkB (l.take 2)):=λh=>by
  rw[hh,no zf8 1 _ h1 (by rw[zaB,cY];omega),jB]
 have k1:1<=l.length->hasN zam (mkB (l.take 1))=hasN zf8 (mkB (l.take 1)):=λh=>by
  rw[hh,no zf7 2 _ h2 (by rw[zaB,cY];omega),Bool.false_or]
 unfold zbI;rw[e,lO _ _ _ (λx hx=>by have:=h2 x hx;omega),qB _ 2 l h2,qB _ 1 l h1,<-e];by_cases a:2<=l.length/\hasN zf7 (mkB (l.take 2))=true
 · rw[aB a,aA (by show ¬(2:Nat)=0;omega),aB ⟨a.1,by rw[k2 a.1];exact a.2⟩]
 have na:¬(2<=l.length/\hasN zam (mkB (l.take 2))=true):=λe=>a ⟨e.1,by rw[<-k2 e.1];exact e.2⟩
 rw[aA a,aB rfl,aA na];by_cases b:1<=l.length/\hasN zf8 (mkB (l.take 1))=true
 · rw[aB b,aB ⟨b.1,by rw[k1 b.1];exact b.2⟩]
 rw[aA b,aA (λe=>b ⟨e.1,by rw[<-k1 e.1];exact e.2⟩)]
def wcL (l:List UInt8):Nat:=if h:l≠[]/\isLD ((decL l).1:Int)=true then 1+wcL (l.drop (decL l).2) else 0
termination_by l.length
decreasing_by
 have h1:=zbL l;have h2:=dW.2 h.1;rw[c7];omega
def aN2 {l:List UInt8} (h:l≠[]) (hf:isLD ((decL l).1:Int)=true):wcL l=1+wcL (l.drop (decL l).2):=by
 conv=>lhs;unfold wcL
 rw[dif_pos ⟨h,hf⟩]
def a0i {l:List UInt8} (hf:isLD ((decL l).1:Int)=false):wcL l=0:=by
 unfold wcL;rw[dif_neg (by rw[hf];simp)]
def aTp:wcL []=0:=by unfold wcL;rw[dif_neg (by simp)]
def rL (l:List UInt8):List Int:=if h:l=[] then [] else((decL l).1:Int)::rL (l.drop (decL l).2)
termination_by l.length
decreasing_by
 have h1:=zbL l;have h2:=dW.2 h;rw[c7];omega
def aPn:rL []=[]:=by unfold rL;rw[dif_pos rfl]
def yK {l:List UInt8} (h:l≠[]):rL l=((decL l).1:Int)::rL (l.drop (decL l).2):=by
 conv=>lhs;unfold rL
 rw[dif_neg h]
def aKi:∀ (n:Nat) (s:Ba) (p:Nat),s.size-p=n->za8 s p=rL (bts s p):=by
 intro n
 induction n using Nat.strongRecOn with
 | _ n ih=>
  intro s p hp;rcases cZ p s.size with h | h
  · have h1:=z6 s p;rw[zaw h,yK (zfq h),zdr,<-zbK,<-zcV,ih _ (by omega) s _ rfl]
  rw[za2 h,zeZ h,aPn]
def zeK {r:Int}:isLD r=true↔(zC r=1\/zC r=2):=by
 show inK [1,2] r=true↔_;unfold inK;simp only[jY,uB,jB,jJ,aI];constructor
 · rintro (h | h)
   · exact .inl h.symm
   exact .inr h.symm
 rintro (h | h)
 · exact .inl h.symm
 exact .inr h.symm
def aIz {l:List UInt8} (h:l≠[]) (hf:isLD ((decL l).1:Int)=true):l=encR (decL l).1++l.drop (decL l).2/\(encR (decL l).1).length=(decL l).2/\∀ x,(decL (encR (decL l).1++x)).1=(decL l).1:=by
 have hs:0<(mkB l).size:=by rw[zaB];exact dW.2 h
 have hb:bts (mkB l) 0=l:=zgz l;have hd:decR (mkB l) 0=(decL l).1:=by rw[zbK,hb]
 have hw:decW (mkB l) 0=(decL l).2:=by rw[zcV,hb]
 have hlt:=aJb l;rcases rW (mkB l) 0 hs with e | ⟨e,_,_⟩
 · have e2:bts (mkB l) (0+decW (mkB l) 0)=l.drop (decL l).2:=(by rw[<-zdr,hb,hw]);rw[e2,hb,hd] at e;have hc:=aG decL e;have hS:=iT (decL l).1 (l.drop (decL l).2) hlt;rw[<-e] at hS;have hn:¬(55296<=(decL l).1/\(decL l).1<=57343):=λhh=>by
    have:=hS.2;rw[aB hh] at this;omega
   exact⟨e,hS.1.symm,λx=>by rw[(iT (decL l).1 x hlt).2,aA hn]⟩
 exfalso;rw[hd] at e;rw[zeK,e] at hf;revert hf;decide
def aF2:∀ (n:Nat) (l:List UInt8),l.length=n->(rL (l.take (runL isLD l))).length=wcL l/\zea (rL (l.take (runL isLD l)))=true:=by
 intro n
 induction n using Nat.strongRecOn with
 | _ n ih=>
  intro l hl;by_cases h:l≠[]/\isLD ((decL l).1:Int)=true
  · obtain ⟨e1,e2,e3⟩:=aIz h.1 h.2;have hp:=zbL l;have hle:=zfY h.1;obtain ⟨i1,i2⟩:=ih (l.length-(decL l).2) (by omega) (l.drop (decL l).2) c7;have ht:l.take (runL isLD l)=encR (decL l).1++(l.drop (decL l).2).take (runL isLD (l.drop (decL l).2)):=by
     rw[zcI h.1 h.2]
     conv=>lhs;arg 2;rw[e1]
     rw[<-e2,List.take_length_add_append]
    have hne:encR (decL l).1++(l.drop (decL l).2).take (runL isLD (l.drop (decL l).2))≠[]:=λe=>by
     have:=aG List.length e;rw[cO,e2] at this;simp only[uJ] at this;omega
    have hd1:=e3 ((l.drop (decL l).2).take (runL isLD (l.drop (decL l).2)));have hd2:=(iT (decL l).1 ((l.drop (decL l).2).take (runL isLD (l.drop (decL l).2))) (aJb l)).1;have hr:rL (l.take (runL isLD l))=((decL l).1:Int)::rL ((l.drop (decL l).2).take (runL isLD (l.drop (decL l).2))):=by
     rw[ht,yK hne,hd1,hd2,uX]
    rw[hr,aN2 h.1 h.2];refine⟨by rw[dH,i1];omega,?_⟩;rw[zdP,i2,Bool.and_true,aI];exact zeK.1 h.2
  have h0:runL isLD l=0:=by unfold runL;rw[dif_neg h]
  have h1:wcL l=0:=by unfold wcL;rw[dif_neg h]
  rw[h0,h1,List.take_zero,aPn];exact⟨rfl,rfl⟩
def aDo {l:List UInt8} (h:zC ((decL l).1:Int)=1):zbR (mkB (l.take (runL isLD l)))=decide (wcL l<=30):=by
 obtain ⟨h1,h2⟩:=aF2 _ l rfl;have hne:l≠[]:=by
  rintro rfl;revert h;decide
 have hf:isLD ((decL l).1:Int)=true:=zeK.2 (.inl h);obtain ⟨e1,e2,e3⟩:=aIz hne hf;have hp:=zbL l;have hr:zaI (mkB (l.take (runL isLD l)))=rL (l.take (runL isLD l)):=by
  have:=aKi _ (mkB (l.take (runL isLD l))) 0 rfl;rw[show bts (mkB (l.take (runL isLD l))) 0=l.take (runL isLD l) from zgz _] at this;exact this
 have hd:(rL (l.take (runL isLD l))).getD 0 0=((decL l).1:Int):=by
  have ht:l.take (runL isLD l)=encR (decL l).1++(l.drop (decL l).2).take (runL isLD (l.drop (decL l).2)):=by
   rw[zcI hne hf]
   conv=>lhs;arg 2;rw[e1]
   rw[<-e2,List.take_length_add_append]
  have hn2:l.take (runL isLD l)≠[]:=λe=>by
   have:=aG List.length e;rw[ht,cO,e2] at this;simp only[uJ] at this;omega
  rw[yK hn2,ht,e3];rfl
 have hw:=aN2 hne hf;unfold zbR;rw[zb2,hr,hd,h2,h1,h];have:1<=wcL l:=by omega
 simp[this]
def eV {l:List UInt8} (h:zC ((decL l).1:Int)=1):zca l=if wcL l<=30 then(⟨1,0,mkB (l.take (runL isLD l))⟩,runL isLD l) else(zbo,0):=by
 unfold zca;rw[aDo h];simp only[aI]
section
variable {s:Ba} {p:Nat}
def aJr:wcL (bl8 s)=0+wcL (bts s 0):=by rw[dS];rfl
def aTb {k:Nat} (hf:wcL (bl8 s)=k+wcL (bts s p)) (h:p<s.size) (ht:isLD ((decR s p:Nat):Int)=true):wcL (bl8 s)=(k+1)+wcL (bts s (p+decW s p)):=by
 rw[zbK] at ht;rw[hf,aN2 (zfq h) ht,zdr,<-zcV,vH]
def aIl {k:Nat} (hf:wcL (bl8 s)=k+wcL (bts s p)) (ht:isLD ((decR s p:Nat):Int)=false):k=wcL (bl8 s):=by
 rw[zbK] at ht;rw[hf,a0i ht];rfl
def aPs {k:Nat} (hf:wcL (bl8 s)=k+wcL (bts s p)) (h:s.size<=p):k=wcL (bl8 s):=by rw[hf,zeZ h,aTp];rfl
def a0m:∀ (n:Nat) (l:List UInt8),l.length=n->wcL l<=l.length:=by
 intro n
 induction n using Nat.strongRecOn with
 | _ n ih=>
  intro l hl;by_cases h:l≠[]/\isLD ((decL l).1:Int)=true
  · have h1:=zbL l;have h2:=zfY h.1;have:=ih (l.length-(decL l).2) (by omega) _ c7;rw[c7] at this;rw[aN2 h.1 h.2];omega
  unfold wcL;rw[dif_neg h];omega
def aOc {u:UInt8} (h:s[p]?=some u) (hd:48<=u.toNat/\u.toNat<=57) (hf:runL isD (bl8 s)=p+runL isD (bts s p)) (hp:p<s.size):runL isD (bl8 s)=(p+1)+runL isD (bts s (p+1)):=by
 have e:bts s p=u::bts s (p+1):=by rw[za6 hp,show s.get! p=u from uP.1 (by rw[<-gS hp,rK h])]
 obtain ⟨h1,h2⟩:=oQ hd (bts s (p+1));rw[hf,e,zcI (by simp) (aKa _ h1),h2];show p+(1+runL isD (bts s (p+1)))=_;omega
end
end Lp
namespace Lp
open Go
def NoQt (s:Ba):Prop:=∀ b∈bl8 s,b≠34
def qD {s:Ba} (h:((bl8 s).all λb=>!(b==34))=true):NoQt s:=λb hb e=>by
 have:=c8.1 h b hb;rw[e] at this;exact aH this (by decide)
section
variable {s:Ba}
def NoQt.suf (h:NoQt s) (p:Nat):NoQt (s.extract p s.size):=by
 unfold NoQt;rw[aBq,zdv];exact λb hb=>h b (vB hb)
def NoQt.dec (h:NoQt s) (hz:0<s.size) (hd:decR s 0=34):False:=by
 rw[<-dec0] at hd;cases e:bl8 s with
 | nil=>have:=zar s;rw[e] at this;simp only[uJ] at this;omega
 | cons b t=>
  rw[e] at hd;by_cases hb:b.toNat<128
  · rw[zac hb] at hd;have hd:b.toNat=34:=hd;exact h b (e ▸ cR) (uP.1 hd)
  have:=(eS (t:=t) hb).1;omega
end
end Lp
namespace Lp
open Go Go.RowKit Go.Proofs Tryz
def aLh (s:Ba) (ev:Value) (hev:EvOk ev) (hs:s.size<=1000000) (hz:0<s.size) (hk:zC ((decR s 0:Nat):Int)=2):
 CD prog 94 [HPow,HErr ev] [.s s] (λr H'=>r=.tup [TokD.d ((numT (bl8 s)).1),dN ((numT (bl8 s)).2)]/\H'=[HPow,HErr ev]):=by
 refine tZ func94 O O (λC=>?_);refine T.bd 0 O (λbd0=>?_);have sz0:s.size<=9223372036854775807:=bd0;have hlt0:=hz;refine g' 2 O ?_;refine tA O (λg1=>?_);refine g' 6 O (tE O (Qu.ef (d:=.sh 1 ([2].map dI)) (zp [.const (.int .i64 2)] O O (.cons (CellD.v O) .nil) O aT bY eH O O O O)) ?_);rintro _ _ ⟨rfl,rfl⟩;refine tW O acs (zgN s [2]) (g' 6 O (tE O (Qu.ef (d:=.sh 1 ([1,2].map dI)) (zp [.const (.int .i64 1),.const (.int .i64 2)] O O (.cons (CellD.v O) (.cons (CellD.v O) .nil)) O aT bY eH O O O O)) ?_));rintro _ _ ⟨rfl,rfl⟩;refine tW O acs (zgN s [1,2]) (g' 4 O ?_);have hn1:=zbk (inK [2]) s;have hn2:=zbk (inK [1,2]) s;have hq0:s.extract 0 (runL (inK [2]) (bl8 s))=mkB ((bl8 s).take (runL (inK [2]) (bl8 s))):=zcT hn1;have hpos:1<=runL (inK [2]) (bl8 s):=qU hz hk;have hdg:Digs (bl8 (s.extract 0 (runL (inK [2]) (bl8 s)))):=by rw[hq0,zdv];exact oJ _ _ rfl
 have hsz0:(s.extract 0 (runL (inK [2]) (bl8 s))).size=runL (inK [2]) (bl8 s):=by rw[dK];omega
 have hne13:bl8 (s.extract 0 (runL (inK [2]) (bl8 s)))≠[]:=λe=>by have:=aG List.length e;rw[zar,hsz0] at this;simp only[ln] at this;omega
 refine g' 3 O (tP O (z7 (a:=0) (c:=runL (inK [2]) (bl8 s)) O O O (by first | rfl | (show _=_;omega)) (by first | rfl | (show _=_;omega)) aN (by omega) (by omega)) (tX [2] O O acs (aU6 (s.extract 0 (runL (inK [2]) (bl8 s))) ev hev hdg hne13 (by simp only[dK];omega)) ?_));rintro _ _ ⟨av,ax,rfl,rfl,hv13,hv0,hv1⟩;refine g' 9 O ?_;by_cases h13:(13:Int)<((runL (inK [2]) (bl8 s):Nat):Int)
 · have hbad:13<nD s\/1000000000000<vD s:=.inl (by show 13<runL (inK [2]) (bl8 s);omega);refine g' 2 O (tP O (zan O O (aE h13)) (g' 13 O (tP O (zm [] [] (zv:=cD) O O (.nil) (aR) aS zav ⟨O,O,O,trivial⟩ O) (gQ 6 [1] O O (mY 2 O ?_)))));exact tRs O results94 (.cons (zc (zu (X:=.agg [dI 0,dI 0,cC]) (d:=.agg [dI 0,dI 0,cC]) (i:=2) O O aZ aP O O) ((Cv.agg (gc (gc (.cons (cS) .nil)))).trans (w6 (aG TokD.d (show (TokD.mk 0 0 ByteArray.empty)=(numT (bl8 s)).1 from(by rw[zfi hbad];try rfl)))))) (.cons (zc (za O) (w6 (aG dN (by rw[zfi hbad];try rfl)))) .nil)) O (mO 2 O) ⟨O,O⟩
 obtain ⟨e1,e2⟩:=hv13 (by rw[hsz0];omega);subst e1;subst e2;have hvd:digV (bl8 (s.extract 0 (runL (inK [2]) (bl8 s))))=vD s:=by rw[hq0,zdv]
 have hvl:vD s<10000000000000:=aYa (oJ _ _ rfl) (by rw[cY];show min (runL (inK [2]) (bl8 s)) _<=13;omega);refine T.sub [(0,.s s),(2,dP g1 0),(3,dI 0),(4,dN (runL (inK [2]) (bl8 s))),(5,dN (runL (inK [1,2]) (bl8 s))),(6,dN (vD s)),(7,.v .nilIface)] ⟨sk O,sk O,sk O,sk O,sk O,sc O (w6 (aG (λn:Nat=>dI (n:Int)) hvd)),sk O,trivial⟩ (g' 2 O (tP O (zan O O (aD h13)) (g' 2 O (tG O (zgv (r:=.bool false) O O (λ_=>by kernel_rfl)) (g' 7 O ?_)))));refine tD O (λhc2=>?_) (λhc2=>?_)
 · have hbad:13<nD s\/1000000000000<vD s:=.inr (by have:=hc2;omega);refine g' 2 O (tP O (zm [] [] (zv:=cD) O O (.nil) (aR) aS zav ⟨O,O,O,trivial⟩ O) (gQ 6 [1] O O (mY 2 O ?_)));exact tRs O results94 (.cons (zc (zu (X:=.agg [dI 0,dI 0,cC]) (d:=.agg [dI 0,dI 0,cC]) (i:=2) O O aZ aP O O) ((Cv.agg (gc (gc (.cons (cS) .nil)))).trans (w6 (aG TokD.d (show (TokD.mk 0 0 ByteArray.empty)=(numT (bl8 s)).1 from(by rw[zfi hbad];try rfl)))))) (.cons (zc (za O) (w6 (aG dN (by rw[zfi hbad];try rfl)))) .nil)) O (mO 2 O) ⟨O,O⟩
 have hgood:¬(13<nD s\/1000000000000<vD s):=λe=>by rcases e with e | e;(exact h13 (by have e:13<runL (inK [2]) (bl8 s):=e;omega));(have:=hc2;omega)
 refine g' 10 O ?_;refine tD O (λhc3=>?_) (λhc3=>?_)
 · have hsame:nA s=nD s:=(by show runL (inK [1,2]) (bl8 s)=runL (inK [2]) (bl8 s);omega);refine g' 3 O (tX [2] O O acs (aP2 (vD s) (by omega)) ?_);rintro _ _ ⟨rfl,rfl⟩;refine tP O (zm [0,2] [.const (.int .i64 2),.tmp 37] (zv:=cD) O O (.cons (CellD.v O) (.cons CellD.s .nil)) (aR) aS zav ⟨O,O,O,trivial⟩ O) (gQ 7 [2] O O ?_);exact tRs O results94 (.cons (zc (zu (X:=.agg [dI 2,dI 0,.s (digB (vD s))]) (d:=.agg [dI 2,dI 0,.s (digB (vD s))]) (i:=2) O O aZ aP O O) (w6 (aG TokD.d (show (TokD.mk 2 0 (digB (vD s)))=(numT (bl8 s)).1 from(by rw[zgb hgood hsame];try rfl))))) (.cons (zc (za O) (w6 (aG dN (by rw[zgb hgood hsame];try rfl)))) .nil)) O (mO 2 O) ⟨O,O⟩
 have hdiff:¬nA s=nD s:=by show ¬runL (inK [1,2]) (bl8 s)=runL (inK [2]) (bl8 s);omega
 have hsc:=aD5 (s.extract (runL (inK [2]) (bl8 s)) (runL (inK [1,2]) (bl8 s)));have hle:=aZg s;refine g' 7 O (tP O (z7 (a:=runL (inK [2]) (bl8 s)) (c:=runL (inK [1,2]) (bl8 s)) O O O (by first | rfl | (show _=_;omega)) (by first | rfl | (show _=_;omega)) aN (by omega) (by omega)) (tW O acs (aGv (s.extract (runL (inK [2]) (bl8 s)) (runL (inK [1,2]) (bl8 s)))) (g' 5 O ?_)));obtain ⟨q,hq,hq1⟩:∃ q:Nat,1000000000 / secB (s.extract (runL (inK [2]) (bl8 s)) (runL (inK [1,2]) (bl8 s)))=q/\q<=1000000000:=⟨_,rfl,Nat.div_le_self _ _⟩;refine g' 4 O ?_;refine tOr 2 4 (c:=decide (((q:Nat):Int)<(((vD s):Nat):Int))) O O O O O O (λhb4 nx5=>?_) ?_
 · have hf6:=aC hb4;refine g' 2 O (tG O (zeA (c:=((q:Nat):Int)) O O (by omega) (zh (by rw[vR (by omega),<-hq];first | exact wM _ _ | exact(wM _ _).symm) (by omega))) (g' 1 O ?_));exact nx5 _ O O (kx 4 O O)
 refine g' 2 O ?_;refine tC O (λhc7=>?_) (λhc7=>?_)
 · simp only[bX,bJ] at hc7;have hs3:secB (s.extract (nD s) (nA s))=0\/1000000000 / secB (s.extract (nD s) (nA s))<vD s:=(by have h:=hc7;rcases h with h | h;(exact .inl (by show secB (s.extract (runL (inK [2]) (bl8 s)) (runL (inK [1,2]) (bl8 s)))=0;omega));(exact .inr (by show 1000000000 / secB (s.extract (runL (inK [2]) (bl8 s)) (runL (inK [1,2]) (bl8 s)))<_;rw[hq];omega)));refine g' 2 O (tP O (zm [] [] (zv:=cD) O O (.nil) (aR) aS zav ⟨O,O,O,trivial⟩ O) (gQ 6 [1] O O (mY 2 O ?_)));exact tRs O results94 (.cons (zc (zu (X:=.agg [dI 0,dI 0,cC]) (d:=.agg [dI 0,dI 0,cC]) (i:=2) O O aZ aP O O) ((Cv.agg (gc (gc (.cons (cS) .nil)))).trans (w6 (aG TokD.d (show (TokD.mk 0 0 ByteArray.empty)=(numT (bl8 s)).1 from(by rw[zbN hgood hdiff hs3];try rfl)))))) (.cons (zc (za O) (w6 (aG dN (by rw[zbN hgood hdiff hs3];try rfl)))) .nil)) O (mO 2 O) ⟨O,O⟩
 simp only[bX,bJ] at hc7;have hs4:¬(secB (s.extract (nD s) (nA s))=0\/1000000000 / secB (s.extract (nD s) (nA s))<vD s):=λe=>by have h:=hc7;rcases e with e | e;(have e:secB (s.extract (runL (inK [2]) (bl8 s)) (runL (inK [1,2]) (bl8 s)))=0:=e;omega);(have e:1000000000 / secB (s.extract (runL (inK [2]) (bl8 s)) (runL (inK [1,2]) (bl8 s)))<vD s:=e;rw[hq] at e;omega)
 have hmu:vD s*secB (s.extract (runL (inK [2]) (bl8 s)) (runL (inK [1,2]) (bl8 s)))<=1000000000:=by have h:=hc7;exact(vO (by omega)).1 (by rw[hq];omega)
 refine g' 6 O ?_;obtain ⟨m,hm,hm1⟩:∃ m:Nat,(vD s)*(secB (s.extract (runL (inK [2]) (bl8 s)) (runL (inK [1,2]) (bl8 s))))=m/\m<=1000000000:=⟨_,rfl,hmu⟩;refine tP O (zc2 (c:=((m:Nat):Int)) O O (zh (by rw[<-hm];first | exact Int.natCast_mul _ _ | exact(Int.natCast_mul _ _).symm) (by omega))) (tX [2] O O acs (aP2 m (by omega)) ?_);rintro _ _ ⟨rfl,rfl⟩;refine tP O (zm [0,2] [.const (.int .i64 4),.tmp 57] (zv:=cD) O O (.cons (CellD.v O) (.cons CellD.s .nil)) (aR) aS zav ⟨O,O,O,trivial⟩ O) (gQ 6 [2] O O ?_);exact tRs O results94 (.cons (zc (zu (X:=.agg [dI 4,dI 0,.s (digB m)]) (d:=.agg [dI 4,dI 0,.s (digB m)]) (i:=2) O O aZ aP O O) (w6 (aG TokD.d (show (TokD.mk 4 0 (digB m))=(numT (bl8 s)).1 from(by have e:=zcL hgood hdiff hs4;rw[show vD s*secB (s.extract (nD s) (nA s))=m from hm] at e;rw[e];try rfl))))) (.cons (zc (za O) (w6 (aG dN (by have e:=zcL hgood hdiff hs4;rw[show vD s*secB (s.extract (nD s) (nA s))=m from hm] at e;rw[e];try rfl)))) .nil)) O (mO 2 O) ⟨O,O⟩
def aA5:IzP prog 107 cD 3 32:=zdf (by kernel_rfl)
def aP8:Tryz.prog.underlying 78=some (.slice 107):=by kernel_rfl
def aTa (s:Ba) (hs:s.size<=1000000000):
 CD prog 92 [] [.s s] (zcA 1 21 ((zaI s).map dR)):=by
 refine tZ func92 O O (λC=>?_);refine T.bd 0 O (λbd0=>?_);have sz0:s.size<=9223372036854775807:=bd0;refine g' 14 O (tE O (zd6 O aN) ?_);rintro _ _ ⟨g1,rfl,rfl⟩;refine g' 3 O (tl3 (λ(a_:Nat) (b_:Value) (c_:List Int)=>[(2,dZ),(7,dP g1 0),(3,.ov b_)]) (λa_ b_ c_=>[.it g1 s a_,.sl b_ 1 21 (c_.map dR)]) (λa_ b_ c_=>(a_<=s.size)/\(c_.length<=a_)/\(zaI s=c_++za8 s a_)) (λa_ b_ c_=>s.size-a_) 0 (.slice none 0 0) [] O ⟨sk O,sk O,sc O (Cv.ov O),trivial⟩ (HSub.trans (HSub.nil 1 21) (mA (List.Perm.swap _ _ _))) ⟨cT _,cW _,O⟩ ?_);rintro p ov l ⟨hp,hn,hf⟩;rcases cZ p s.size with hlt | hge
 · have hrune:=zaw hlt;have hrl:=zcW s p;have hdw:=zaK s p hlt;have hdp:=z6 s p;refine g' 2 O (tE O (zde (i:=0) O O hlt) ?_);rintro _ _ ⟨rfl,rfl⟩;refine g' 17 O (tE O (zw [.tmp 12] O O (.cons (CellD.v O) .nil) O bP sizeOf21 zeroValue21 O O O O) ?_);rintro _ _ ⟨g2,rfl,rfl⟩;refine tE O (zG (f:=dR) (l:=l) (l':=[((decR s p:Nat):Int)]) (i:=2) O O O (mF (j:=0) O O) aJf aG7 O O (by unfold maxLen;(try simp only[la,lc,ln,lm,lt',ld,ls,lr]);omega) (by (try simp only[la,lc,ln,lm,lt',ld,ls,lr]);omega)) ?_;rintro _ _ ⟨v3,rfl,rfl⟩;refine g' 3 O ?_;exact tp3 (p+decW s p) v3 (l++[((decR s p:Nat):Int)]) (sa O) (mP 1 O) ⟨by have:=zaK s p hlt;omega,by rw[cO,jN];omega,by rw[hf,hrune,cP];rfl⟩ (by have:=z6 s p;omega)
 have hrune:=za2 hge;refine g' 2 O (tP O (zdW (i:=0) O O hge) (g' 17 O (mW (w9 (zaJ (i:=1) O)) (mW (mB (h':=.sl ov 1 21 ((zaI s).map dR)) O (mD (show List.map dR l=List.map dR (zaI s) from aG _ (by rw[hf,hrune,jL])))) ?_))));exact tR O w8 ⟨_,O,O⟩
def aTn (s:Ba) (ev:Value) (hev:EvOk ev) (hs:s.size<=1000000) (hz:0<s.size) (hnq:NoQt s):
 CD prog 55 [HPow,HErr ev] [.s s] (λr H'=>r=.tup [TokD.d ((zj (bl8 s)).1),dN ((zj (bl8 s)).2)]/\H'=[HPow,HErr ev]):=by
 refine tZ func55 O O (λC=>?_);refine T.bd 0 O (λbd0=>?_);have sz0:s.size<=9223372036854775807:=bd0;obtain ⟨y,hy,ey⟩:∃ y,(zaI s)[0]?=some y/\y=((decR s 0:Nat):Int):=⟨_,by rw[show zaI s=za8 s 0 from rfl,zaw hz];rfl,rfl⟩;have hyl:=zcW s 0;refine g' 2 O ?_;refine tA O (λg1=>?_);refine g' 7 O (tX [] O O acs (aTa s (by omega)) ?_);rintro _ _ ⟨v2,rfl,rfl⟩;refine tP O (ze (k:=0) (j:=0) O O O bP sizeOf21 (by first | rfl | omega) (zd hy)) (tP O (zaS O (i:=0) O (zd hy) isAgg21 O) (g' 7 O (tW O acs (aB6 y) (g' 4 O ?_))));refine tD O (λhc3=>?_) (λhc3=>?_)
 · have q1:zC ((decR s 0:Nat):Int)=1:=(by rw[<-ey];exact hc3);refine g' 3 O (tW O acs (aV6 s (by omega)) (gQ 9 [1] O O (mY 3 O (mY 3 O ?_))));exact tRs O results55 (.cons (zc (zu (X:=TokD.d ((zca (bl8 s)).1)) (d:=TokD.d ((zca (bl8 s)).1)) (i:=3) O O aZ aP O O) (w6 (aG TokD.d (show (zca (bl8 s)).1=(zj (bl8 s)).1 from(by rw[zeO q1]))))) (.cons (zc (za O) (w6 (aG dN (by rw[zeO q1])))) .nil)) O (mO 2 O) ⟨O,O⟩
 have q1:¬zC ((decR s 0:Nat):Int)=1:=by rw[<-ey];exact hc3
 refine g' 3 O (tW O acs (aB6 y) (g' 4 O ?_));refine tD O (λhc4=>?_) (λhc4=>?_)
 · have hk2:zC ((decR s 0:Nat):Int)=2:=(by rw[<-ey];exact hc4);refine g' 3 O (tX [2,2] O O acs (aLh s ev hev (by omega) (by omega) hk2) ?_);rintro _ _ ⟨rfl,rfl⟩;refine gQ 9 [3] O O ?_;exact tRs O results55 (.cons (zc (zu (X:=TokD.d ((numT (bl8 s)).1)) (d:=TokD.d ((numT (bl8 s)).1)) (i:=3) O O aZ aP O O) (w6 (aG TokD.d (show (numT (bl8 s)).1=(zj (bl8 s)).1 from(by rw[iN q1 hk2]))))) (.cons (zc (za O) (w6 (aG dN (by rw[iN q1 hk2])))) .nil)) O (mO 2 O) ⟨O,O⟩
 have q2:¬zC ((decR s 0:Nat):Int)=2:=by rw[<-ey];exact hc4
 refine g' 7 O ?_;refine tD O (λhc5=>?_) (λhc5=>?_)
 · exfalso;exact hnq.dec hz (by omega)
 have q3:¬decR s 0=34:=by have:=hc5;omega
 refine g' 6 O (tW O acs (aYj s (by omega)) (gQ 7 [1] O O (mY 3 O (mY 3 O ?_))));exact tRs O results55 (.cons (zc (zu (X:=TokD.d ((zbI (bl8 s)).1)) (d:=TokD.d ((zbI (bl8 s)).1)) (i:=3) O O aZ aP O O) (w6 (aG TokD.d (show (zbI (bl8 s)).1=(zj (bl8 s)).1 from(by rw[zeN q1 q2 q3]))))) (.cons (zc (za O) (w6 (aG dN (by rw[zeN q1 q2 q3])))) .nil)) O (mO 2 O) ⟨O,O⟩
def aRp (s:Ba) (ev:Value) (hev:EvOk ev) (hnq:NoQt s):
 CD prog 31 [HPow,HErr ev] [.s s] (λr H'=>∃ v,r=.tup [.ov v,dI (lexE s)]/\H'=[.sl v 3 107 ((lexL s).map TokD.d),HPow,HErr ev]):=by
 refine tZ func31 O O (λC=>?_);refine T.bd 0 O (λbd0=>?_);have sz0:s.size<=9223372036854775807:=bd0;refine g' 10 O (tP O (zah O aN) (g' 3 O ?_));refine tD O (λhc1=>?_) (λhc1=>?_)
 · have hlong:600<s.size:=(by have:=hc1;omega);refine g' 8 O (mW (HSub.nil 3 107) (mX [.sl (.slice none 0 0) 3 107 ([].map TokD.d),HPow,HErr ev] O (mX [.sl (.slice none 0 0) 3 107 ((lexL s).map TokD.d),HPow,HErr ev] (by have hw9:([]:List TokD)=lexL s:=(zeH hlong).1;rw[<-hw9]<;>rfl) ?_)));exact tRs O results31 (.cons (zc (za O) (Cv.ov O)) (.cons (zc (za O) (w6 (aG dI (show (1:Int)=lexE s from(zeH hlong).2)))) .nil)) O (mO 3 O) ⟨(.slice none 0 0),O,O⟩
 have hshort:¬600<s.size:=by have:=hc1;omega
 have hr0:=zbk (inK [3]) s;refine g' 11 O (tE O (Qu.ef (d:=.sh 1 ([3].map dI)) (zp [.const (.int .i64 3)] O O (.cons (CellD.v O) .nil) O aT bY eH O O O O)) ?_);rintro _ _ ⟨rfl,rfl⟩;refine tW O acs (zgN s [3]) (g' 4 O (tl3 (λ(a_:Nat) (b_:Value) (c_:List TokD)=>[(0,.s s),(5,dN a_),(4,.ov b_)]) (λa_ b_ c_=>[.sl b_ 3 107 (c_.map TokD.d),HPow,HErr ev]) (λa_ b_ c_=>(WInv s a_ c_)/\(a_<=s.size)/\(c_.length<=a_)) (λa_ b_ c_=>s.size-a_) (runL (inK [3]) (bl8 s)) (.slice none 0 0) [] O ⟨sk O,sk O,sc O (Cv.ov O),trivial⟩ (HSub.nil 3 107) ⟨WInv.zero,hr0,cT _⟩ ?_));rintro p ov out ⟨hw,hp,ho⟩;refine g' 5 O (tP O (zah O aN) (g' 3 O ?_));refine tD O (λhc2=>?_) (λhc2=>?_)
 · have hlt:p<s.size:=(by have:=hc2;omega);have hfr:=gW (s:=s) (p:=p) hp;refine g' 8 O (tP O (z7 (a:=p) (c:=s.size) O O O (by first | rfl | (show _=_;omega)) (by first | rfl | (show _=_;omega)) aN (by omega) (by omega)) (tX [1,1] O O acs (aTn (s.extract p s.size) ev hev (by simp only[dK];omega) (by simp only[dK];omega) (hnq.suf _)) ?_));rintro _ _ ⟨rfl,rfl⟩;refine g' 3 O ?_;refine tA O (λg3=>?_);refine gQ 11 [0] O O ?_;refine tD O (λhc4=>?_) (λhc4=>?_)
   · have hbad:(zj (bl8 (s.extract p s.size))).2=0:=(by have:=hc4;omega);refine g' 13 O (mW (HSub.nil 3 107) (mY 3 O (mY 3 O (mY 2 O (mX [.sl (.slice none 0 0) 3 107 ([].map TokD.d),HPow,HErr ev,.bx g3 107 (TokD.d ((zj (bl8 (s.extract p s.size))).1)),.sl ov 3 107 (out.map TokD.d)] O (mX [.sl (.slice none 0 0) 3 107 ((lexL s).map TokD.d),HPow,HErr ev,.bx g3 107 (TokD.d ((zj (bl8 (s.extract p s.size))).1)),.sl ov 3 107 (out.map TokD.d)] (by have hw9:([]:List TokD)=lexL s:=(zfv hshort (hw.bad hlt hbad)).1;rw[<-hw9]<;>rfl) ?_))))));exact tRs O results31 (.cons (zc (za O) (Cv.ov O)) (.cons (zc (za O) (w6 (aG dI (show (2:Int)=lexE s from(zfv hshort (hw.bad hlt hbad)).2)))) .nil)) O (mO 3 O) ⟨(.slice none 0 0),O,O⟩
   have hn0:¬(zj (bl8 (s.extract p s.size))).2=0:=(by have:=hc4;omega);have hrs:=zbk (inK [3]) (s.extract (p+(zj (bl8 (s.extract p s.size))).2) s.size);rw[dK] at hrs;refine gQ 13 [0,0] O O (tE O (Qu.ef (d:=.sh 3 ([(TokD.mk (((zj (bl8 (s.extract p s.size))).1).k) ((p:Nat):Int) (((zj (bl8 (s.extract p s.size))).1).t))].map TokD.d)) (zp [.tmp 37] O O (.cons CellD.agg .nil) O aQ aP aS O O O O)) ?_);rintro _ _ ⟨rfl,rfl⟩;refine tE O (zG (f:=TokD.d) (l:=out) (l':=[(TokD.mk (((zj (bl8 (s.extract p s.size))).1).k) ((p:Nat):Int) (((zj (bl8 (s.extract p s.size))).1).t))]) (i:=3) O O O (SrcD.sh) aP8 aA5 O O (by unfold maxLen;(try simp only[la,lc,ln,lm,lt',ld,ls,lr]);omega) (by (try simp only[la,lc,ln,lm,lt',ld,ls,lr]);omega)) ?_;rintro _ _ ⟨v5,rfl,rfl⟩;refine g' 6 O (tP O (zq (c:=((p+((zj (bl8 (s.extract p s.size))).2):Nat):Int)) O O (zh (by omega) (by omega))) (g' 8 O (tP O (z7 (a:=p+((zj (bl8 (s.extract p s.size))).2)) (c:=s.size) O O O (by first | rfl | (show _=_;omega)) (by first | rfl | (show _=_;omega)) aN (by omega) (by omega)) (tE O (Qu.ef (d:=.sh 1 ([3].map dI)) (zp [.const (.int .i64 3)] O O (.cons (CellD.v O) .nil) O aT bY eH O O O O)) ?_))));rintro _ _ ⟨rfl,rfl⟩;refine tW O acs (zgN (s.extract (p+((zj (bl8 (s.extract p s.size))).2)) s.size) [3]) (tP O (zq (c:=(((p+((zj (bl8 (s.extract p s.size))).2))+(runL (inK [3]) (bl8 (s.extract (p+((zj (bl8 (s.extract p s.size))).2)) s.size))):Nat):Int)) O O (zh (by omega) (by omega))) (g' 2 O (mY 2 O (mY 2 O (mY 3 O ?_)))));exact tp3 ((p+((zj (bl8 (s.extract p s.size))).2))+(runL (inK [3]) (bl8 (s.extract (p+((zj (bl8 (s.extract p s.size))).2)) s.size)))) v5 (out++[(TokD.mk (((zj (bl8 (s.extract p s.size))).1).k) ((p:Nat):Int) (((zj (bl8 (s.extract p s.size))).1).t))]) (sa O) (mO 3 O) ⟨hw.next hlt hn0,by omega,by (try simp only[la,jN]);omega⟩ (by omega)
 have hge:s.size<=p:=by have:=hc2;omega
 refine g' 13 O (mX [.sl ov 3 107 ((lexL s).map TokD.d),HPow,HErr ev] (by have hw9:(out:List TokD)=lexL s:=(zge hshort (hw.done hge)).1;rw[<-hw9]<;>rfl) ?_);exact tRs O results31 (.cons (za O) (.cons (zc (za O) (w6 (aG dI (show (0:Int)=lexE s from(zge hshort (hw.done hge)).2)))) .nil)) O (mO 3 O) ⟨ov,O,O⟩
end Lp
